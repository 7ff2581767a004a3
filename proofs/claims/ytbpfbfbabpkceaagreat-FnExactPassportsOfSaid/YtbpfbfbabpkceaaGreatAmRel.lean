/- How the small machine's values and memory stand to the model's: a renaming of blocks; what is there, and what is left alone. -/
import Derived.Test.YtbpfbfbabpkceaaGreatAmCore
import Derived.Orders
import Derived.LoopN
import Derived.WalkKit
import Derived.Laws.Rows
import Derived.Laws.CopyRow
import Derived.Laws.MakeOwn
import Derived.Laws.AppendOwn
import Derived.MapKept
set_option linter.unusedVariables false
namespace Go.Am
open Go
structure Loc where
 g:Nat
 base:Nat
 size:Nat
abbrev Ren:=Nat→Option Loc
abbrev Fun:=Nat→Option Nat
inductive VR (φ:Fun) (β:Ren):Value→Value→Prop where
 |plain {v:Value}:plain v=true→VR φ β v v
 |ptr {b o g base N:Nat}:β b=some ⟨g,base,N⟩→base≤N→VR φ β (.pointer (some ⟨b,o,none⟩)) (.pointer (some ⟨g,base+o,none⟩))
 |slice {b o l c e g base N:Nat}:β b=some ⟨g,base,N⟩→l≤c→base+o+c*e≤N→VR φ β (.slice (some ⟨b,o,none⟩) l e) (.slice (some ⟨g,base+o,none⟩) l c)
 |slice0 {b o e:Nat} {a:Addr}:VR φ β (.slice (some ⟨b,o,none⟩) 0 e) (.slice (some a) 0 0)
 |agg {cs ds:List Value}:cs.length=ds.length→(∀(i:Nat) (c d:Value),cs[i]? =some c→ds[i]? =some d→VR φ β c d)→VR φ β (.agg ⟨cs⟩) (.agg ⟨ds⟩)
 |tuple {cs ds:List Value}:cs.length=ds.length→(∀(i:Nat) (c d:Value),cs[i]? =some c→ds[i]? =some d→VR φ β c d)→VR φ β (.tuple ⟨cs⟩) (.tuple ⟨ds⟩)
 |func {m n:Nat} {cs ds:List Value}:φ m=some n→cs.length=ds.length→(∀(i:Nat) (c d:Value),cs[i]? =some c→ds[i]? =some d→VR φ β c d)→
   VR φ β (.func (.func m) #[] ⟨cs⟩) (.func (.func n) #[] ⟨ds⟩)
 |map {b g base N:Nat}:β b=some ⟨g,base,N⟩→N<base→VR φ β (.map (some b)) (.map (some g))
def VRL (φ:Fun) (β:Ren) (cs ds:List Value):Prop:=cs.length=ds.length∧ ∀(i:Nat) (c d:Value),cs[i]? =some c→ds[i]? =some d→VR φ β c d
section
variable {φ:Fun} {β β':Ren}
theorem VR.mono (hb: ∀b L,β b=some L→β' b=some L) {v u:Value} (h:VR φ β v u):VR φ β' v u:=by
 induction h with
 |plain h=>exact .plain h
 |ptr h h1=>exact .ptr (hb _ _ h) h1
 |slice h h1 h2=>exact .slice (hb _ _ h) h1 h2
 |slice0=>exact .slice0
 |agg h _ ih=>exact .agg h ih
 |tuple h _ ih=>exact .tuple h ih
 |func h h1 _ ih=>exact .func h h1 ih
 |map h h1=>exact .map (hb _ _ h) h1
theorem VRL.mono (hb: ∀b L,β b=some L→β' b=some L) {cs ds:List Value} (h:VRL φ β cs ds):VRL φ β' cs ds:=⟨h.1,fun i c d h1 h2=>(h.2 i c d h1 h2).mono hb⟩
theorem VR.int {k:IntKind} {n:Int} {u:Value} (h:VR φ β (.int k n) u):u= .int k n:=by cases h;rfl
theorem VR.bool {b:Bool} {u:Value} (h:VR φ β (.bool b) u):u= .bool b:=by cases h;rfl
theorem VR.string {s:ByteArray} {u:Value} (h:VR φ β (.string s) u):u= .string s:=by cases h;rfl
theorem VR.agg_inv {cs:Array Value} {u:Value} (h:VR φ β (.agg cs) u): ∃ds:Array Value,u= .agg ds∧VRL φ β cs.toList ds.toList:=by
 cases h with
 |plain h=>simp [Am.plain] at h
 |agg h h1=>exact ⟨_,rfl,h,h1⟩
theorem VR.tuple_inv {cs:Array Value} {u:Value} (h:VR φ β (.tuple cs) u): ∃ds:Array Value,u= .tuple ds∧VRL φ β cs.toList ds.toList:=by
 cases h with
 |plain h=>
  have h0:cs= #[]:=by simpa [Am.plain] using h
  subst h0
  exact ⟨_,rfl,rfl,fun i c d h1=>by simp at h1⟩
 |tuple h h1=>exact ⟨_,rfl,h,h1⟩
theorem VR.ptr_inv {b o:Nat} {u:Value} (h:VR φ β (.pointer (some ⟨b,o,none⟩)) u): ∃g base N,β b=some ⟨g,base,N⟩∧base≤N∧u= .pointer (some ⟨g,base+o,none⟩):=by
 cases h with
 |plain h=>simp [Am.plain] at h
 |ptr h h1=>exact ⟨_,_,_,h,h1,rfl⟩
theorem VR.pointer_inv {a:Option Addr} {u:Value} (h:VR φ β (.pointer a) u): ∃a':Option Addr,u= .pointer a'∧a'.isNone=a.isNone:=by
 cases h with
 |plain h=>exact ⟨_,rfl,rfl⟩
 |ptr h h1=>exact ⟨_,rfl,rfl⟩
theorem VR.slice_inv {a:Option Addr} {l e:Nat} {u:Value} (h:VR φ β (.slice a l e) u): ∃(a':Option Addr) (c:Nat),u= .slice a' l c∧a'.isNone=a.isNone:=by
 cases h with
 |plain h=>exact ⟨_,_,rfl,rfl⟩
 |slice h h1 h2=>exact ⟨_,_,rfl,rfl⟩
 |slice0=>exact ⟨_,_,rfl,rfl⟩
theorem VR.nil_inv {l e:Nat} {u:Value} (h:VR φ β (.slice none l e) u):l=0∧e=0∧u= .slice none 0 0:=by
 cases h with
 |plain h=>
  cases l<;>cases e<;>simp [Am.plain] at h
  exact ⟨rfl,rfl,rfl⟩
theorem VRL.nil:VRL φ β [] []:=⟨rfl,fun i c d h=>by simp at h⟩
theorem VRL.cons {a b:Value} {as bs:List Value} (h:VR φ β a b) (hl:VRL φ β as bs):VRL φ β (a::as) (b::bs):=by
 refine ⟨by simp [hl.1],fun i c d h1 h2=>?_⟩
 cases i with
 |zero=>
  simp only [List.getElem?_cons_zero,Option.some.injEq] at h1 h2
  subst h1;subst h2
  exact h
 |succ i=>
  simp only [List.getElem?_cons_succ] at h1 h2
  exact hl.2 i c d h1 h2
theorem VRL.at_ {cs ds:List Value} (h:VRL φ β cs ds) {i:Nat} {c:Value} (hc:cs[i]? =some c): ∃d,ds[i]? =some d∧VR φ β c d:=by
 obtain ⟨hi,_⟩:=List.getElem?_eq_some_iff.1 hc
 have hd:ds[i]? =some (ds[i]'(by have:=h.1;omega)):=List.getElem?_eq_getElem _
 exact ⟨_,hd,h.2 i _ _ hc hd⟩
theorem VRL.append {as bs cs ds:List Value} (h:VRL φ β as bs) (k:VRL φ β cs ds):VRL φ β (as++cs) (bs++ds):=by
 refine ⟨by simp [h.1,k.1],fun i c d h1 h2=>?_⟩
 rcases Nat.lt_or_ge i as.length with hi|hi
 ·rw [List.getElem?_append_left hi] at h1
  rw [List.getElem?_append_left (by have:=h.1;omega)] at h2
  exact h.2 i c d h1 h2
 ·rw [List.getElem?_append_right hi] at h1
  rw [List.getElem?_append_right (by have:=h.1;omega),←h.1] at h2
  exact k.2 _ c d h1 h2
theorem VRL.take {as bs:List Value} (h:VRL φ β as bs) (n:Nat):VRL φ β (as.take n) (bs.take n):=by
 refine ⟨by simp [h.1],fun i c d h1 h2=>?_⟩
 rw [List.getElem?_take] at h1 h2
 split at h1
 ·rename_i hi
  rw [if_pos hi] at h2
  exact h.2 i c d h1 h2
 ·simp at h1
theorem VRL.drop {as bs:List Value} (h:VRL φ β as bs) (n:Nat):VRL φ β (as.drop n) (bs.drop n):=by
 refine ⟨by simp [h.1],fun i c d h1 h2=>?_⟩
 rw [List.getElem?_drop] at h1 h2
 exact h.2 _ c d h1 h2
theorem VRL.plain {cs:List Value} (h: ∀c∈cs,plain c=true):VRL φ β cs cs:=
 ⟨rfl,fun i c d h1 h2=>by rw [h1] at h2;cases h2;exact .plain (h c (List.mem_of_getElem? h1))⟩
theorem VR.cells {v u:Value} (h:VR φ β v u):VRL φ β (cellsL v) u.cells.toList:=by
 cases h with
 |agg h h1=>exact ⟨h,h1⟩
 |plain h=>cases v<;>first|exact VRL.cons (.plain h) VRL.nil|(simp [Am.plain] at h)
 |ptr h h1=>exact VRL.cons (.ptr h h1) VRL.nil
 |slice h h1 h2=>exact VRL.cons (.slice h h1 h2) VRL.nil
 |slice0=>exact VRL.cons .slice0 VRL.nil
 |tuple h h1=>exact VRL.cons (.tuple h h1) VRL.nil
 |func h h1 h2=>exact VRL.cons (.func h h1 h2) VRL.nil
 |map h h1=>exact VRL.cons (.map h h1) VRL.nil
theorem VR.oneCell {v u:Value} (h:VR φ β v u) (ho:v.oneCell'=true):u.oneCell'=true:=by
 cases h<;>first|exact ho|rfl
theorem VRL.oneCells {cs ds:List Value} (h:VRL φ β cs ds) (ho:cs.all (·.oneCell')=true): ∀d∈ds,d.oneCell'=true:=by
 intro d hd
 obtain ⟨i,hi,rfl⟩:=List.mem_iff_getElem.1 hd
 have hi':i<cs.length:=by have:=h.1;omega
 refine (h.2 i _ _ (List.getElem?_eq_getElem hi') (List.getElem?_eq_getElem hi)).oneCell ?_
 exact List.all_eq_true.1 ho _ (List.getElem_mem hi')
end
def MapE (es:Array MapEntry) (ck:Nat) (ks:List Value):Prop:=
 es.size≤ks.length∧MapKept.Stamped es ck∧(∀e∈es.toList,e.val= .bool true∧e.key∈ks)∧ ∀k∈ks,∃e∈es.toList,e.key=k
structure Rel (φ:Fun) (β:Ren) (H:AHeap) (w:World):Prop where
 cells: ∀b blk L,H.get b=some blk→β b=some L→L.base≤L.size→ ∃c t fr,w.heap[L.g]? =some (.cells c t fr)∧c.size=L.size∧L.base+blk.cells.length≤L.size∧
  (blk.rw=true→fr=(0,0)∧L.base=0)∧ ∀(i:Nat) (v:Value),blk.cells[i]? =some v→ ∃u,c[L.base+i]? =some u∧VR φ β v u
 inj: ∀b b' blk blk' L L',H.get b=some blk→blk.rw=true→H.get b'=some blk'→β b=some L→β b'=some L'→L.g=L'.g→b=b'
 fin: ∀b,H.n≤b→H.get b=none
 maps: ∀b L blk,β b=some L→L.size<L.base→H.get b=some blk→blk.cells=[]∧b+1<H.n∧ ∃es ck,w.heap[L.g]? =some (Obj.map es ck)∧ ∀gh,H.get (b+1)=some gh→β (b+1)=none→MapE es ck gh.cells
 mapn: ∀b L,β b=some L→L.size<L.base→b<H.n→b+1<H.n∧β (b+1)=none
structure Frm (β:Ren) (H:AHeap) (w:World) (β':Ren) (H':AHeap) (w':World):Prop where
 os:w'.os=w.os
 tape:w'.tape=w.tape
 output:w'.output=w.output∧w.drawn≤w'.drawn
 size:w.heap.size≤w'.heap.size
 frame: ∀r,r<w.heap.size→(∀b blk L,H.get b=some blk→blk.rw=true→β b=some L→L.g≠r)→w'.heap[r]? =w.heap[r]?
 own: ∀b blk L,H'.get b=some blk→blk.rw=true→β' b=some L→w.heap.size≤L.g∨ ∃b0 blk0 L0,H.get b0=some blk0∧blk0.rw=true∧β b0=some L0∧L0.g=L.g
 ext: ∀b L,β b=some L→β' b=some L
 new: ∀b L,β' b=some L→β b=some L∨(H.n≤b∧b<H'.n)
 n:H.n≤H'.n
 newg: ∀b L,β' b=some L→β b=none→w.heap.size≤L.g∨ ∃b0 blk0 L0,H.get b0=some blk0∧blk0.rw=true∧β b0=some L0∧L0.g=L.g
def Good (φ:Fun) (β:Ren) (H:AHeap) (w:World) (β':Ren) (H':AHeap) (w':World):Prop:=Rel φ β' H' w'∧Frm β H w β' H' w'
section
variable {φ:Fun} {β:Ren} {H:AHeap} {w:World}
theorem Frm.refl (β:Ren) (H:AHeap) (w:World):Frm β H w β H w:=
 ⟨rfl,rfl,⟨rfl,Nat.le_refl _⟩,Nat.le_refl _,fun _ _ _=>rfl,fun b blk L h h1 h2=> .inr ⟨b,blk,L,h,h1,h2,rfl⟩,fun _ _ h=>h,fun _ _ h=> .inl h,Nat.le_refl _,fun _ _ h h0=>by rw [h0] at h;cases h⟩
theorem Good.refl (h:Rel φ β H w):Good φ β H w β H w:=⟨h, .refl _ _ _⟩
theorem Frm.trans {β1 β2:Ren} {H1 H2:AHeap} {w1 w2:World} (h:Frm β H w β1 H1 w1) (k:Frm β1 H1 w1 β2 H2 w2):Frm β H w β2 H2 w2 where
 os:=k.os.trans h.os
 tape:=k.tape.trans h.tape
 output:=⟨k.output.1.trans h.output.1,Nat.le_trans h.output.2 k.output.2⟩
 size:=Nat.le_trans h.size k.size
 frame:=fun r hr hn=>by
  rw [k.frame r (Nat.lt_of_lt_of_le hr h.size) (fun b blk L h1 h2 h3 he=>?_),h.frame r hr hn]
  rcases h.own b blk L h1 h2 h3 with h4|⟨b0,blk0,L0,h4,h5,h6,h7⟩
  ·omega
  ·exact hn b0 blk0 L0 h4 h5 h6 (h7.trans he)
 own:=fun b blk L h1 h2 h3=>by
  rcases k.own b blk L h1 h2 h3 with h4|⟨b0,blk0,L0,h4,h5,h6,h7⟩
  ·exact .inl (Nat.le_trans h.size h4)
  ·rcases h.own b0 blk0 L0 h4 h5 h6 with h8|⟨b1,blk1,L1,h8,h9,h10,h11⟩
   ·exact .inl (by omega)
   ·exact .inr ⟨b1,blk1,L1,h8,h9,h10,h11.trans h7⟩
 ext:=fun b L hb=>k.ext b L (h.ext b L hb)
 new:=fun b L hb=>by
  rcases k.new b L hb with h1|h1
  ·rcases h.new b L h1 with h2|h2
   ·exact .inl h2
   ·exact .inr ⟨h2.1,Nat.lt_of_lt_of_le h2.2 k.n⟩
  ·exact .inr ⟨Nat.le_trans h.n h1.1,h1.2⟩
 n:=Nat.le_trans h.n k.n
 newg:=fun b L hb h0=>by
  cases h1:β1 b with
  |some L1=>
   have:=k.ext b L1 h1
   rw [hb] at this
   cases this
   exact h.newg b L h1 h0
  |none=>
   rcases k.newg b L hb h1 with h2|⟨b0,blk0,L0,h4,h5,h6,h7⟩
   ·exact .inl (Nat.le_trans h.size h2)
   ·rcases h.own b0 blk0 L0 h4 h5 h6 with h8|⟨b1,blk1,L1,h8,h9,h10,h11⟩
    ·exact .inl (by omega)
    ·exact .inr ⟨b1,blk1,L1,h8,h9,h10,h11.trans h7⟩
theorem Good.trans {β1 β2:Ren} {H1 H2:AHeap} {w1 w2:World} (h:Good φ β H w β1 H1 w1) (k:Good φ β1 H1 w1 β2 H2 w2):Good φ β H w β2 H2 w2:=⟨k.1,h.2.trans k.2⟩
theorem Rel.lt (h:Rel φ β H w) {b:Nat} {blk:Blk} {L:Loc} (hb:H.get b=some blk) (hL:β b=some L):L.g<w.heap.size:=by
 by_cases hle:L.base≤L.size
 ·obtain ⟨c,t,fr,hc,_⟩:=h.cells b blk L hb hL hle
  exact (Array.getElem?_eq_some_iff.1 hc).1
 ·obtain ⟨_,_,es,ck,hc,_⟩:=h.maps b L blk hL (by omega) hb
  exact (Array.getElem?_eq_some_iff.1 hc).1
theorem Rel.maps_keep {H':AHeap} {w':World} {β':Ren} (h:Rel φ β H w) (hb: ∀b L,β' b=some L→L.size<L.base→β b=some L) (hg: ∀b blk L,β' b=some L→L.size<L.base→H'.get b=some blk→H.get b=some blk)
  (hn: ∀b gh,b+1<H.n→H'.get (b+1)=some gh→β' (b+1)=none→(∃L,β b=some L∧L.size<L.base)→H.get (b+1)=some gh∧β (b+1)=none) (hN:H.n≤H'.n) (hh: ∀(g:Nat) (es:Array MapEntry) (ck:Nat),w.heap[g]? =some (Obj.map es ck)→w'.heap[g]? =some (Obj.map es ck)):
  ∀b L blk,β' b=some L→L.size<L.base→H'.get b=some blk→blk.cells=[]∧b+1<H'.n∧ ∃es ck,w'.heap[L.g]? =some (Obj.map es ck)∧ ∀gh,H'.get (b+1)=some gh→β' (b+1)=none→MapE es ck gh.cells:=by
 intro b L blk hL hlt hbk
 obtain ⟨h1,h2,es,ck,h5,h6⟩:=h.maps b L blk (hb b L hL hlt) hlt (hg b blk L hL hlt hbk)
 refine ⟨h1,Nat.lt_of_lt_of_le h2 hN,es,ck,hh _ _ _ h5,fun gh k1 k2=>?_⟩
 obtain ⟨k3,k4⟩:=hn b gh h2 k1 k2 ⟨L,hb b L hL hlt,hlt⟩
 exact h6 gh k3 k4
theorem Good.drawn (h:Rel φ β H w) (n:Nat) (hn:w.drawn≤n:=by exact Nat.le_succ _):Good φ β H w β H {w with drawn:=n}:=
 ⟨⟨h.cells,h.inj,h.fin,h.maps,h.mapn⟩,⟨rfl,rfl,⟨rfl,hn⟩,Nat.le_refl _,fun _ _ _=>rfl,fun b blk L h h1 h2=> .inr ⟨b,blk,L,h,h1,h2,rfl⟩,fun _ _ h=>h,fun _ _ h=> .inl h,Nat.le_refl _,fun _ _ h h0=>by rw [h0] at h;cases h⟩⟩
theorem heap_push_old (w:World) (o:Obj) (k:Nat) (h:k<w.heap.size):(w.alloc o).heap[k]? =w.heap[k]? :=by
 show (w.heap.push o)[k]? =_
 rw [Array.getElem?_push,if_neg (by omega)]
theorem heap_push_new (w:World) (o:Obj):(w.alloc o).heap[w.heap.size]? =some o:=by
 show (w.heap.push o)[w.heap.size]? =some o
 simp
def Ren.put (β:Ren) (b:Nat) (L:Loc):Ren:=fun x=>if x=b then some L else β x
theorem Rel.mapn_put (h:Rel φ β H w) {L0:Loc} (h0:L0.base≤L0.size): ∀b L,Ren.put β H.n L0 b=some L→L.size<L.base→b<H.n+1→b+1<H.n+1∧Ren.put β H.n L0 (b+1)=none:=fun b L hb hlt hn=>by
 unfold Ren.put at hb⊢
 split at hb
 ·cases hb;omega
 ·obtain ⟨h1,h2⟩:=h.mapn b L hb hlt (by omega)
  rw [if_neg (by omega)]
  exact ⟨by omega,h2⟩
theorem Good.alloc (h:Rel φ β H w) (hn:β H.n=none) {cs:List Value} (c:Array Value) (t:TypeId) (hc:cs.length≤c.size) (hv: ∀(i:Nat) (v:Value),cs[i]? =some v→ ∃u,c[i]? =some u∧VR φ β v u):
  Good φ β H w (Ren.put β H.n ⟨w.heap.size,0,c.size⟩) (H.alloc cs) (w.alloc (.cells c t)):=by
 have hext: ∀b L,β b=some L→Ren.put β H.n ⟨w.heap.size,0,c.size⟩ b=some L:=fun b L hb=>by
  unfold Ren.put
  split
  ·rename_i e;subst e;rw [hn] at hb;cases hb
  ·exact hb
 have hsz:w.heap.size≤(w.alloc (.cells c t)).heap.size:=by simp
 refine ⟨⟨?_,?_,?_,?_,h.mapn_put (Nat.zero_le _)⟩,⟨rfl,rfl,⟨rfl,Nat.le_refl _⟩,hsz,fun r hr _=>heap_push_old w _ r hr,?_,hext,?_,by simp [AHeap.alloc],fun b L hb h0=>?_⟩⟩
 ·intro b blk L hb hL hle
  simp only [AHeap.alloc] at hb
  simp only [Ren.put] at hL
  by_cases e:b=H.n
  ·subst e
   simp only [if_true,Option.some.injEq] at hb hL
   subst hb;subst hL
   refine ⟨c,t,(0,0),heap_push_new w _,rfl,by simpa using hc,fun _=>⟨rfl,rfl⟩,fun i v hi=>?_⟩
   obtain ⟨u,hu,hr⟩:=hv i v hi
   exact ⟨u,by simpa using hu,hr.mono hext⟩
  ·simp only [if_neg e] at hb hL
   obtain ⟨c',t',fr,h1,h2,h3,h4,h5⟩:=h.cells b blk L hb hL hle
   refine ⟨c',t',fr,by rw [heap_push_old w _ _ (h.lt hb hL)];exact h1,h2,h3,h4,fun i v hi=>?_⟩
   obtain ⟨u,hu,hr⟩:=h5 i v hi
   exact ⟨u,hu,hr.mono hext⟩
 ·intro b b' blk blk' L L' hb hrw hb' hL hL' he
  simp only [AHeap.alloc] at hb hb'
  simp only [Ren.put] at hL hL'
  by_cases e:b=H.n<;>by_cases e':b'=H.n
  ·rw [e,e']
  ·rw [if_pos e] at hL
   rw [if_neg e'] at hb' hL'
   cases hL
   have:=h.lt hb' hL'
   simp at he
   omega
  ·rw [if_pos e'] at hL'
   rw [if_neg e] at hb hL
   cases hL'
   have:=h.lt hb hL
   simp at he
   omega
  ·rw [if_neg e] at hb hL
   rw [if_neg e'] at hb' hL'
   exact h.inj b b' blk blk' L L' hb hrw hb' hL hL' he
 ·intro b hb
  simp only [AHeap.alloc] at hb⊢
  rw [if_neg (by omega)]
  exact h.fin b (by omega)
 ·have hne: ∀b L,Ren.put β H.n ⟨w.heap.size,0,c.size⟩ b=some L→L.size<L.base→b≠H.n∧β b=some L:=fun b L hb hlt=>by
   simp only [Ren.put] at hb
   split at hb
   ·cases hb;simp at hlt
   ·rename_i e;exact ⟨e,hb⟩
  refine h.maps_keep (fun b L hb hlt=>(hne b L hb hlt).2) (fun b blk L hb hlt hg=>?_) (fun b gh hl hg h0 _=>?_) (by simp [AHeap.alloc]) fun g es ck hg=>?_
  ·simp only [AHeap.alloc] at hg
   rwa [if_neg (hne b L hb hlt).1] at hg
  ·simp only [AHeap.alloc] at hg
   simp only [Ren.put] at h0
   rw [if_neg (by omega)] at hg h0
   exact ⟨hg,h0⟩
  ·rw [heap_push_old w _ _ (Array.getElem?_eq_some_iff.1 hg).1];exact hg
 ·intro b blk L hb hrw hL
  simp only [AHeap.alloc] at hb
  simp only [Ren.put] at hL
  by_cases e:b=H.n
  ·rw [if_pos e] at hL
   cases hL
   exact .inl (Nat.le_refl _)
  ·rw [if_neg e] at hb hL
   exact .inr ⟨b,blk,L,hb,hrw,hL,rfl⟩
 ·intro b L hb
  simp only [Ren.put] at hb
  by_cases e:b=H.n
  ·exact .inr (by simp [AHeap.alloc,e])
  ·rw [if_neg e] at hb
   exact .inl hb
 ·simp only [Ren.put] at hb
  by_cases e:b=H.n
  ·rw [if_pos e] at hb
   cases hb
   exact .inl (Nat.le_refl _)
  ·rw [if_neg e,h0] at hb
   cases hb
theorem Good.newMap (h:Rel φ β H w) (hn:β H.n=none) (hn1:β (H.n+1)=none):Good φ β H w (Ren.put β H.n ⟨w.heap.size,1,0⟩) ((H.alloc []).alloc []) (w.alloc (.map #[] 0)):=by
 have hext: ∀b L,β b=some L→Ren.put β H.n ⟨w.heap.size,1,0⟩ b=some L:=fun b L hb=>by
  unfold Ren.put
  split
  ·rename_i e;subst e;rw [hn] at hb;cases hb
  ·exact hb
 have hget: ∀b blk L,((H.alloc []).alloc []).get b=some blk→Ren.put β H.n ⟨w.heap.size,1,0⟩ b=some L→(b=H.n∧blk=⟨[],true⟩∧L=⟨w.heap.size,1,0⟩)∨(b≠H.n∧H.get b=some blk∧β b=some L):=fun b blk L hb hL=>by
  replace hb:(if b=H.n+1 then some (⟨[],true⟩:Blk) else if b=H.n then some ⟨[],true⟩ else H.get b)=some blk:=hb
  simp only [Ren.put] at hL
  by_cases e:b=H.n
  ·rw [if_pos e] at hL
   rw [if_neg (by omega),if_pos e] at hb
   cases hb;cases hL
   exact .inl ⟨e,rfl,rfl⟩
  ·rw [if_neg e] at hL
   by_cases e':b=H.n+1
   ·rw [e',hn1] at hL;cases hL
   ·rw [if_neg e',if_neg e] at hb
    exact .inr ⟨e,hb,hL⟩
 refine ⟨⟨?_,?_,?_,?_,fun b L hb hlt hbn=>?_⟩,⟨rfl,rfl,⟨rfl,Nat.le_refl _⟩,by simp,fun r hr _=>heap_push_old w _ r hr,?_,hext,?_,by simp [AHeap.alloc];omega,?_⟩⟩
 rotate_left 4
 ·replace hbn:b<H.n+1+1:=hbn
  show b+1<H.n+1+1∧(if b+1=H.n then _ else β (b+1))=none
  simp only [Ren.put] at hb
  split at hb
  ·rename_i e
   rw [if_neg (by omega),e]
   exact ⟨by omega,hn1⟩
  ·rcases Nat.lt_or_ge b H.n with q|q
   ·obtain ⟨q1,q2⟩:=h.mapn b L hb hlt q
    rw [if_neg (by omega)]
    exact ⟨by omega,q2⟩
   ·rw [show b=H.n+1 by omega,hn1] at hb
    cases hb
 rotate_left 3
 ·intro b blk L hb hL hle
  rcases hget b blk L hb hL with ⟨_,_,rfl⟩|⟨_,hb',hL'⟩
  ·simp at hle
  ·obtain ⟨c',t',fr,h1,h2,h3,h4,h5⟩:=h.cells b blk L hb' hL' hle
   refine ⟨c',t',fr,by rw [heap_push_old w _ _ (h.lt hb' hL')];exact h1,h2,h3,h4,fun i v hi=>?_⟩
   obtain ⟨u,hu,hr⟩:=h5 i v hi
   exact ⟨u,hu,hr.mono hext⟩
 ·intro b b' blk blk' L L' hb hrw hb' hL hL' he
  rcases hget b blk L hb hL with ⟨e,_,rfl⟩|⟨_,hb1,hL1⟩<;>rcases hget b' blk' L' hb' hL' with ⟨e',_,rfl⟩|⟨_,hb2,hL2⟩
  ·rw [e,e']
  ·have:=h.lt hb2 hL2;simp at he;omega
  ·have:=h.lt hb1 hL1;simp at he;omega
  ·exact h.inj b b' blk blk' L L' hb1 hrw hb2 hL1 hL2 he
 ·intro b hb
  replace hb:H.n+1+1≤b:=hb
  show (if b=H.n+1 then some (⟨[],true⟩:Blk) else if b=H.n then some ⟨[],true⟩ else H.get b)=none
  rw [if_neg (by omega),if_neg (by omega)]
  exact h.fin b (by omega)
 ·intro b L blk hL hlt hb
  rcases hget b blk L hb hL with ⟨e,rfl,rfl⟩|⟨e,hb',hL'⟩
  ·refine ⟨rfl,by simp [AHeap.alloc];omega, #[],0,heap_push_new w _,fun gh hg _=>?_⟩
   replace hg:(if b+1=H.n+1 then some (⟨[],true⟩:Blk) else if b+1=H.n then some ⟨[],true⟩ else H.get (b+1))=some gh:=hg
   rw [if_pos (by omega)] at hg
   cases hg
   exact ⟨by simp,⟨by simp,by simp,by simp⟩,by simp,by simp⟩
  ·obtain ⟨k1,hlt2,es,ck,k5,k6⟩:=h.maps b L blk hL' hlt hb'
   refine ⟨k1,by simp [AHeap.alloc];omega,es,ck,by rw [heap_push_old w _ _ (Array.getElem?_eq_some_iff.1 k5).1];exact k5,fun gh hg h0=>?_⟩
   replace hg:(if b+1=H.n+1 then some (⟨[],true⟩:Blk) else if b+1=H.n then some ⟨[],true⟩ else H.get (b+1))=some gh:=hg
   simp only [Ren.put] at h0
   rw [if_neg (by omega),if_neg (by omega)] at hg
   rw [if_neg (by omega)] at h0
   exact k6 gh hg h0
 ·intro b blk L hb hrw hL
  rcases hget b blk L hb hL with ⟨e,_,rfl⟩|⟨_,hb',hL'⟩
  ·exact .inl (Nat.le_refl _)
  ·exact .inr ⟨b,blk,L,hb',hrw,hL',rfl⟩
 ·intro b L hb
  simp only [Ren.put] at hb
  by_cases e:b=H.n
  ·exact .inr (by simp [AHeap.alloc,e];omega)
  ·rw [if_neg e] at hb
   exact .inl hb
 ·intro b L hb h0
  simp only [Ren.put] at hb
  by_cases e:b=H.n
  ·rw [if_pos e] at hb
   cases hb
   exact .inl (Nat.le_refl _)
  ·rw [if_neg e,h0] at hb
   cases hb
theorem Good.set (h:Rel φ β H w) {b:Nat} {blk:Blk} {L:Loc} (hb:H.get b=some blk) (hrw:blk.rw=true) (hL:β b=some L) (hle:L.base≤L.size) {cs:List Value} {c':Array Value} (hlen:cs.length≤L.size) (hsize:c'.size=L.size)
  (hv: ∀(i:Nat) (v:Value),cs[i]? =some v→ ∃u,c'[i]? =some u∧VR φ β v u):Good φ β H w β (H.set b cs) (w.setRow L.g c'):=by
 obtain ⟨c,t,fr,h1,h2,h3,h4,h5⟩:=h.cells b blk L hb hL hle
 obtain ⟨rfl,hbase⟩:=h4 hrw
 refine ⟨⟨?_,?_,?_,?_,h.mapn⟩,⟨rfl,rfl,⟨rfl,Nat.le_refl _⟩,by simp,?_,?_,fun _ _ h=>h,fun _ _ h=> .inl h,Nat.le_refl _,fun _ _ h h0=>by rw [h0] at h;cases h⟩⟩
 ·intro b' blk' L' hb' hL' hle'
  simp only [AHeap.set] at hb'
  by_cases e:b'=b
  ·subst e
   rw [if_pos rfl] at hb'
   cases hb'
   rw [hL] at hL'
   cases hL'
   exact ⟨c',t,(0,0),setRow_heap w _ c c' t (0,0) h1,hsize,by simp [hbase];exact hlen,fun _=>⟨rfl,hbase⟩,by simpa [hbase] using hv⟩
  ·rw [if_neg e] at hb'
   obtain ⟨c1,t1,fr1,k1,k2,k3,k4,k5⟩:=h.cells b' blk' L' hb' hL' hle'
   refine ⟨c1,t1,fr1,?_,k2,k3,k4,k5⟩
   rw [setRow_other w _ _ _ (fun he=>e (h.inj b b' blk blk' L L' hb hrw hb' hL hL' he.symm).symm)]
   exact k1
 ·intro b1 b2 blk1 blk2 L1 L2 hb1 hrw1 hb2 hL1 hL2 he
  have key: ∀x blkx,(H.set b cs).get x=some blkx→ ∃y,H.get x=some y∧(blkx.rw=true→y.rw=true):=by
   intro x blkx hx
   simp only [AHeap.set] at hx
   by_cases e:x=b
   ·exact ⟨blk,by rw [e];exact hb,fun _=>hrw⟩
   ·rw [if_neg e] at hx
    exact ⟨blkx,hx,id⟩
  obtain ⟨y1,hy1,hr1⟩:=key b1 blk1 hb1
  obtain ⟨y2,hy2,_⟩:=key b2 blk2 hb2
  exact h.inj b1 b2 y1 y2 L1 L2 hy1 (hr1 hrw1) hy2 hL1 hL2 he
 ·intro x hx
  simp only [AHeap.set] at hx⊢
  rw [if_neg,h.fin x hx]
  intro e
  subst e
  rw [h.fin x hx] at hb
  cases hb
 ·refine h.maps_keep (fun _ _ hb _=>hb) (fun x y L' hx hlt hg=>?_) (fun x gh _ hg h0 _=>?_) (Nat.le_refl _) fun g es ck hg=>?_
  ·simp only [AHeap.set] at hg
   rwa [if_neg] at hg
   intro e
   rw [e,hL] at hx
   cases hx
   omega
  ·refine ⟨?_,h0⟩
   simp only [AHeap.set] at hg
   rwa [if_neg] at hg
   intro e
   rw [e,hL] at h0
   cases h0
  ·rw [setRow_other w _ _ _ (fun he=>by rw [he,h1] at hg;cases hg)]
   exact hg
 ·intro r _ hn
  exact setRow_other w _ _ _ (fun he=>hn b blk L hb hrw hL he.symm)
 ·intro x blkx Lx hx hrx hLx
  simp only [AHeap.set] at hx
  by_cases e:x=b
  ·subst e
   rw [hL] at hLx
   cases hLx
   exact .inr ⟨x,blk,L,hb,hrw,hL,rfl⟩
  ·rw [if_neg e] at hx
   exact .inr ⟨x,blkx,Lx,hx,hrx,hLx,rfl⟩
theorem Good.kill (h:Rel φ β H w) (b:Nat):Good φ β H w β (H.kill b) w:=by
 have key: ∀x y,(H.kill b).get x=some y→H.get x=some y:=fun x y hx=>by
  simp only [AHeap.kill] at hx
  split at hx
  ·cases hx
  ·exact hx
 refine ⟨⟨fun x blk L hx hL hle=>h.cells x blk L (key x blk hx) hL hle,fun x y bx by_ L L' hx hr hy hL hL' he=>h.inj x y bx by_ L L' (key _ _ hx) hr (key _ _ hy) hL hL' he,fun x hx=>?_,h.maps_keep (fun _ _ h _=>h) (fun x y L _ _ hx=>key x y hx) (fun x gh _ hg h0 _=>⟨key _ _ hg,h0⟩) (Nat.le_refl _) fun _ _ _ h=>h,h.mapn⟩,
  ⟨rfl,rfl,⟨rfl,Nat.le_refl _⟩,Nat.le_refl _,fun _ _ _=>rfl,fun x blk L hx hr hL=> .inr ⟨x,blk,L,key _ _ hx,hr,hL,rfl⟩,fun _ _ h=>h,fun _ _ h=> .inl h,Nat.le_refl _,fun _ _ h h0=>by rw [h0] at h;cases h⟩⟩
 simp only [AHeap.kill]
 split
 ·rfl
 ·exact h.fin x hx
theorem Good.moved (h:Rel φ β H w) (hn:β H.n=none) {b:Nat} {blk:Blk} {L:Loc} (hb:H.get b=some blk) (hrw:blk.rw=true) (hL:β b=some L) (hle:L.base≤L.size) {cs:List Value} {c':Array Value} (hlen:cs.length≤L.size)
  (hsize:c'.size=L.size) (hv: ∀(i:Nat) (v:Value),cs[i]? =some v→ ∃u,c'[i]? =some u∧VR φ β v u):Good φ β H w (Ren.put β H.n L) ((H.kill b).alloc cs) (w.setRow L.g c'):=by
 obtain ⟨c,t,fr,h1,h2,h3,h4,h5⟩:=h.cells b blk L hb hL hle
 obtain ⟨rfl,hbase⟩:=h4 hrw
 have hbn:b≠H.n:=fun e=>by rw [e,hn] at hL;cases hL
 have hext: ∀x L',β x=some L'→Ren.put β H.n L x=some L':=fun x L' hx=>by
  unfold Ren.put
  split
  ·rename_i e;subst e;rw [hn] at hx;cases hx
  ·exact hx
 have key: ∀x y L',((H.kill b).alloc cs).get x=some y→Ren.put β H.n L x=some L'→(x=H.n∧y=⟨cs,true⟩∧L'=L)∨(x≠H.n∧x≠b∧H.get x=some y∧β x=some L'):=by
  intro x y L' hx hl
  replace hx:(if x=H.n then some (⟨cs,true⟩:Blk) else if x=b then none else H.get x)=some y:=hx
  simp only [Ren.put] at hl
  by_cases e:x=H.n
  ·rw [if_pos e] at hx hl
   cases hx;cases hl
   exact .inl ⟨e,rfl,rfl⟩
  ·rw [if_neg e] at hx hl
   by_cases e':x=b
   ·rw [if_pos e'] at hx;cases hx
   ·rw [if_neg e'] at hx
    exact .inr ⟨e,e',hx,hl⟩
 refine ⟨⟨?_,?_,?_,?_,h.mapn_put hle⟩,⟨rfl,rfl,⟨rfl,Nat.le_refl _⟩,by simp,?_,?_,hext,?_,by simp [AHeap.alloc,AHeap.kill],fun x L' hx h0=>?_⟩⟩
 ·intro x y L' hx hl hle'
  rcases key x y L' hx hl with ⟨rfl,rfl,rfl⟩|⟨e,e',hx',hl'⟩
  ·refine ⟨c',t,(0,0),setRow_heap w _ c c' t (0,0) h1,hsize,by simp [hbase];exact hlen,fun _=>⟨rfl,hbase⟩,fun i v hi=>?_⟩
   obtain ⟨u,hu,hr⟩:=hv i v hi
   exact ⟨u,by simpa [hbase] using hu,hr.mono hext⟩
  ·obtain ⟨c1,t1,fr1,k1,k2,k3,k4,k5⟩:=h.cells x y L' hx' hl' hle'
   refine ⟨c1,t1,fr1,?_,k2,k3,k4,fun i v hi=>?_⟩
   ·rw [setRow_other w _ _ _ (fun he=>e' (h.inj b x blk y L L' hb hrw hx' hL hl' he.symm).symm)]
    exact k1
   ·obtain ⟨u,hu,hr⟩:=k5 i v hi
    exact ⟨u,hu,hr.mono hext⟩
 ·intro x1 x2 y1 y2 L1 L2 hx1 hr1 hx2 hl1 hl2 he
  rcases key x1 y1 L1 hx1 hl1 with ⟨rfl,rfl,rfl⟩|⟨e1,e1',hx1',hl1'⟩<;>rcases key x2 y2 L2 hx2 hl2 with ⟨rfl,rfl,rfl⟩|⟨e2,e2',hx2',hl2'⟩
  ·rfl
  ·exact absurd (h.inj b x2 blk y2 L1 L2 hb hrw hx2' hL hl2' he).symm e2'
  ·exact absurd (h.inj b x1 blk y1 L2 L1 hb hrw hx1' hL hl1' he.symm).symm e1'
  ·exact h.inj x1 x2 y1 y2 L1 L2 hx1' hr1 hx2' hl1' hl2' he
 ·intro x hx
  replace hx:H.n+1≤x:=hx
  show (if x=H.n then some (⟨cs,true⟩:Blk) else if x=b then none else H.get x)=none
  rw [if_neg (by omega)]
  split
  ·rfl
  ·exact h.fin x (by omega)
 ·refine h.maps_keep (fun x L' hx hlt=>?_) (fun x y L' hx hlt hg=>?_) (fun x gh hl hg h0 _=>?_) (by simp [AHeap.alloc,AHeap.kill]) fun g es ck hg=>?_
  ·simp only [Ren.put] at hx
   split at hx
   ·cases hx;omega
   ·exact hx
  ·rcases key x y L' hg hx with ⟨rfl,rfl,rfl⟩|⟨e,e',hx',hl'⟩
   ·omega
   ·exact hx'
  ·replace hg:(if x+1=H.n then some (⟨cs,true⟩:Blk) else if x+1=b then none else H.get (x+1))=some gh:=hg
   simp only [Ren.put] at h0
   rw [if_neg (by omega)] at hg h0
   split at hg
   ·cases hg
   ·exact ⟨hg,h0⟩
  ·rw [setRow_other w _ _ _ (fun he=>by rw [he,h1] at hg;cases hg)]
   exact hg
 ·intro r _ hn'
  exact setRow_other w _ _ _ (fun he=>hn' b blk L hb hrw hL he.symm)
 ·intro x y L' hx hr hl
  rcases key x y L' hx hl with ⟨rfl,rfl,rfl⟩|⟨e,e',hx',hl'⟩
  ·exact .inr ⟨b,blk,L',hb,hrw,hL,rfl⟩
  ·exact .inr ⟨x,y,L',hx',hr,hl',rfl⟩
 ·intro x L' hx
  simp only [Ren.put] at hx
  by_cases e:x=H.n
  ·exact .inr (by simp [AHeap.alloc,AHeap.kill,e])
  ·rw [if_neg e] at hx
   exact .inl hx
 ·simp only [Ren.put] at hx
  by_cases e:x=H.n
  ·rw [if_pos e] at hx
   cases hx
   exact .inr ⟨b,blk,L,hb,hrw,hL,rfl⟩
  ·rw [if_neg e,h0] at hx
   cases hx
theorem Rel.cell_at (h:Rel φ β H w) {b:Nat} {blk:Blk} {L:Loc} (hb:H.get b=some blk) (hL:β b=some L) {i:Nat} {v:Value} (hi:blk.cells[i]? =some v): ∃u,w.cell? ⟨L.g,L.base+i,none⟩=some u∧VR φ β v u:=by
 by_cases hle: ¬L.base≤L.size
 ·obtain ⟨h1,_⟩:=h.maps b L blk hL (by omega) hb
  rw [h1] at hi
  cases hi
 obtain ⟨c,t,fr,h1,h2,h3,h4,h5⟩:=h.cells b blk L hb hL (by omega)
 obtain ⟨u,hu,hr⟩:=h5 i v hi
 exact ⟨u,by simp [World.cell?,h1,hu],hr⟩
theorem Rel.cells_at (h:Rel φ β H w) {b:Nat} {blk:Blk} {L:Loc} (hb:H.get b=some blk) (hL:β b=some L) {o n:Nat} (ho:o+n≤blk.cells.length):
  ∃ds:List Value,VRL φ β ((blk.cells.drop o).take n) ds∧ds.length=n∧ ∀(j:Nat) (d:Value),ds[j]? =some d→w.cell? ((⟨L.g,L.base+o,none⟩:Addr).add j)=some d:=by
 by_cases hle: ¬L.base≤L.size
 ·obtain ⟨h1,_⟩:=h.maps b L blk hL (by omega) hb
  rw [h1] at ho⊢
  rw [List.length_nil] at ho
  obtain rfl:n=0:=by omega
  exact ⟨[],by simpa using VRL.nil,rfl,fun j d h=>by simp at h⟩
 obtain ⟨c,t,fr,h1,h2,h3,h4,h5⟩:=h.cells b blk L hb hL (by omega)
 have hl:(((c.toList.drop (L.base+o)).take n)).length=n:=by simp;omega
 refine ⟨(c.toList.drop (L.base+o)).take n,⟨by rw [hl];simp;omega,fun i a d ha hd=>?_⟩,hl,fun j d hd=>?_⟩
 ·rw [List.getElem?_take] at ha hd
  split at ha
  ·rename_i hi
   rw [if_pos hi] at hd
   rw [List.getElem?_drop] at ha hd
   obtain ⟨u,hu,hr⟩:=h5 _ _ ha
   rw [Array.getElem?_toList,Nat.add_assoc] at hd
   rw [hu] at hd
   cases hd
   exact hr
  ·cases ha
 ·rw [List.getElem?_take] at hd
  split at hd
  ·rw [List.getElem?_drop,Array.getElem?_toList] at hd
   have:(⟨L.g,L.base+o,none⟩:Addr).add j=⟨L.g,L.base+o+j,none⟩:=by unfold Addr.add;split<;>simp_all
   rw [this]
   simp [World.cell?,h1,hd]
  ·cases hd
end
end Go.Am
