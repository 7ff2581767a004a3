/- How the small machine's values and memory stand to the model's: a renaming of blocks; what is there, and what is left alone. -/
import Derived.Test.YtkapkmjofpoebaaGreatAmCore
import Derived.Orders
import Derived.LoopN
import Derived.WalkKit
import Derived.Laws.Rows
import Derived.Laws.CopyRow
import Derived.Laws.MakeOwn
import Derived.Laws.AppendOwn
set_option linter.unusedVariables false
namespace Go.Am
open Go
structure Loc where
 g:Nat
 base:Nat
 size:Nat
abbrev Ren:=Nat→Option Loc
abbrev iO:=Nat→Option Nat
inductive VR (φ:iO) (β:Ren):Value→Value→Prop where
 |plain {v:Value}:plain v=true→VR φ β v v
 |ptr {b o g base N:Nat}:β b=some ⟨g,base,N⟩→VR φ β (.pointer (some ⟨b,o,none⟩)) (.pointer (some ⟨g,base+o,none⟩))
 |slice {b o l c e g base N:Nat}:β b=some ⟨g,base,N⟩→l≤c→base+o+c*e≤N→VR φ β (.slice (some ⟨b,o,none⟩) l e) (.slice (some ⟨g,base+o,none⟩) l c)
 |pG {b o e:Nat} {a:Addr}:VR φ β (.slice (some ⟨b,o,none⟩) 0 e) (.slice (some a) 0 0)
 |agg {cs ds:List Value}:cs.length=ds.length→(∀(i:Nat) (c d:Value),cs[i]? =some c→ds[i]? =some d→VR φ β c d)→VR φ β (.agg ⟨cs⟩) (.agg ⟨ds⟩)
 |tuple {cs ds:List Value}:cs.length=ds.length→(∀(i:Nat) (c d:Value),cs[i]? =some c→ds[i]? =some d→VR φ β c d)→VR φ β (.tuple ⟨cs⟩) (.tuple ⟨ds⟩)
 |func {m n:Nat} {cs ds:List Value}:φ m=some n→cs.length=ds.length→(∀(i:Nat) (c d:Value),cs[i]? =some c→ds[i]? =some d→VR φ β c d)→
   VR φ β (.func (.func m) #[] ⟨cs⟩) (.func (.func n) #[] ⟨ds⟩)
def bZ (φ:iO) (β:Ren) (cs ds:List Value):Prop:=cs.length=ds.length∧ ∀(i:Nat) (c d:Value),cs[i]? =some c→ds[i]? =some d→VR φ β c d
section
variable {φ:iO} {β β':Ren}
theorem VR.mono (hb: ∀b L,β b=some L→β' b=some L) {v u:Value} (h:VR φ β v u):VR φ β' v u:=by
 induction h with
 |plain h=>exact .plain h
 |ptr h=>exact .ptr (hb _ _ h)
 |slice h h1 h2=>exact .slice (hb _ _ h) h1 h2
 |pG=>exact .pG
 |agg h _ ih=>exact .agg h ih
 |tuple h _ ih=>exact .tuple h ih
 |func h h1 _ ih=>exact .func h h1 ih
theorem bZ.mono (hb: ∀b L,β b=some L→β' b=some L) {cs ds:List Value} (h:bZ φ β cs ds):bZ φ β' cs ds:=⟨h.1,fun i c d h1 h2=>(h.2 i c d h1 h2).mono hb⟩
theorem VR.int {k:IntKind} {n:Int} {u:Value} (h:VR φ β (.int k n) u):u= .int k n:=by cases h;rfl
theorem VR.bool {b:Bool} {u:Value} (h:VR φ β (.bool b) u):u= .bool b:=by cases h;rfl
theorem VR.string {s:ByteArray} {u:Value} (h:VR φ β (.string s) u):u= .string s:=by cases h;rfl
theorem VR.vP {cs:Array Value} {u:Value} (h:VR φ β (.agg cs) u): ∃ds:Array Value,u= .agg ds∧bZ φ β cs.toList ds.toList:=by
 cases h with
 |plain h=>simp [Am.plain] at h
 |agg h h1=>exact ⟨_,rfl,h,h1⟩
theorem VR.uO {cs:Array Value} {u:Value} (h:VR φ β (.tuple cs) u): ∃ds:Array Value,u= .tuple ds∧bZ φ β cs.toList ds.toList:=by
 cases h with
 |plain h=>
  have h0:cs= #[]:=by simpa [Am.plain] using h
  subst h0
  exact ⟨_,rfl,rfl,fun i c d h1=>by simp at h1⟩
 |tuple h h1=>exact ⟨_,rfl,h,h1⟩
theorem VR.nR {b o:Nat} {u:Value} (h:VR φ β (.pointer (some ⟨b,o,none⟩)) u): ∃g base N,β b=some ⟨g,base,N⟩∧u= .pointer (some ⟨g,base+o,none⟩):=by
 cases h with
 |plain h=>simp [Am.plain] at h
 |ptr h=>exact ⟨_,_,_,h,rfl⟩
theorem VR.akI {a:Option Addr} {u:Value} (h:VR φ β (.pointer a) u): ∃a':Option Addr,u= .pointer a'∧a'.isNone=a.isNone:=by
 cases h with
 |plain h=>exact ⟨_,rfl,rfl⟩
 |ptr h=>exact ⟨_,rfl,rfl⟩
theorem VR.ng {a:Option Addr} {l e:Nat} {u:Value} (h:VR φ β (.slice a l e) u): ∃(a':Option Addr) (c:Nat),u= .slice a' l c∧a'.isNone=a.isNone:=by
 cases h with
 |plain h=>exact ⟨_,_,rfl,rfl⟩
 |slice h h1 h2=>exact ⟨_,_,rfl,rfl⟩
 |pG=>exact ⟨_,_,rfl,rfl⟩
theorem VR.uN {l e:Nat} {u:Value} (h:VR φ β (.slice none l e) u):l=0∧e=0∧u= .slice none 0 0:=by
 cases h with
 |plain h=>
  cases l<;>cases e<;>simp [Am.plain] at h
  exact ⟨rfl,rfl,rfl⟩
theorem bZ.nil:bZ φ β [] []:=⟨rfl,fun i c d h=>by simp at h⟩
theorem bZ.cons {a b:Value} {as bs:List Value} (h:VR φ β a b) (hl:bZ φ β as bs):bZ φ β (a::as) (b::bs):=by
 refine ⟨by simp [hl.1],fun i c d h1 h2=>?_⟩
 cases i with
 |zero=>
  simp only [List.getElem?_cons_zero,Option.some.injEq] at h1 h2
  subst h1;subst h2
  exact h
 |succ i=>
  simp only [List.getElem?_cons_succ] at h1 h2
  exact hl.2 i c d h1 h2
theorem bZ.at_ {cs ds:List Value} (h:bZ φ β cs ds) {i:Nat} {c:Value} (hc:cs[i]? =some c): ∃d,ds[i]? =some d∧VR φ β c d:=by
 obtain ⟨hi,_⟩:=List.getElem?_eq_some_iff.1 hc
 have hd:ds[i]? =some (ds[i]'(by have:=h.1;omega)):=List.getElem?_eq_getElem _
 exact ⟨_,hd,h.2 i _ _ hc hd⟩
theorem bZ.append {as bs cs ds:List Value} (h:bZ φ β as bs) (k:bZ φ β cs ds):bZ φ β (as++cs) (bs++ds):=by
 refine ⟨by simp [h.1,k.1],fun i c d h1 h2=>?_⟩
 rcases Nat.lt_or_ge i as.length with hi|hi
 ·rw [List.getElem?_append_left hi] at h1
  rw [List.getElem?_append_left (by have:=h.1;omega)] at h2
  exact h.2 i c d h1 h2
 ·rw [List.getElem?_append_right hi] at h1
  rw [List.getElem?_append_right (by have:=h.1;omega),←h.1] at h2
  exact k.2 _ c d h1 h2
theorem bZ.take {as bs:List Value} (h:bZ φ β as bs) (n:Nat):bZ φ β (as.take n) (bs.take n):=by
 refine ⟨by simp [h.1],fun i c d h1 h2=>?_⟩
 rw [List.getElem?_take] at h1 h2
 split at h1
 ·rename_i hi
  rw [if_pos hi] at h2
  exact h.2 i c d h1 h2
 ·simp at h1
theorem bZ.drop {as bs:List Value} (h:bZ φ β as bs) (n:Nat):bZ φ β (as.drop n) (bs.drop n):=by
 refine ⟨by simp [h.1],fun i c d h1 h2=>?_⟩
 rw [List.getElem?_drop] at h1 h2
 exact h.2 _ c d h1 h2
theorem bZ.plain {cs:List Value} (h: ∀c∈cs,plain c=true):bZ φ β cs cs:=
 ⟨rfl,fun i c d h1 h2=>by rw [h1] at h2;cases h2;exact .plain (h c (List.mem_of_getElem? h1))⟩
theorem VR.cells {v u:Value} (h:VR φ β v u):bZ φ β (iq v) u.cells.toList:=by
 cases h with
 |agg h h1=>exact ⟨h,h1⟩
 |plain h=>cases v<;>first|exact bZ.cons (.plain h) bZ.nil|(simp [Am.plain] at h)
 |ptr h=>exact bZ.cons (.ptr h) bZ.nil
 |slice h h1 h2=>exact bZ.cons (.slice h h1 h2) bZ.nil
 |pG=>exact bZ.cons .pG bZ.nil
 |tuple h h1=>exact bZ.cons (.tuple h h1) bZ.nil
 |func h h1 h2=>exact bZ.cons (.func h h1 h2) bZ.nil
theorem VR.oneCell {v u:Value} (h:VR φ β v u) (ho:v.oneCell'=true):u.oneCell'=true:=by
 cases h<;>first|exact ho|rfl
theorem bZ.VD {cs ds:List Value} (h:bZ φ β cs ds) (ho:cs.all (·.oneCell')=true): ∀d∈ds,d.oneCell'=true:=by
 intro d hd
 obtain ⟨i,hi,rfl⟩:=List.mem_iff_getElem.1 hd
 have hi':i<cs.length:=by have:=h.1;omega
 refine (h.2 i _ _ (List.getElem?_eq_getElem hi') (List.getElem?_eq_getElem hi)).oneCell ?_
 exact List.all_eq_true.1 ho _ (List.getElem_mem hi')
end
structure Rel (φ:iO) (β:Ren) (H:aA) (w:World):Prop where
 cells: ∀b blk L,H.get b=some blk→β b=some L→ ∃c t fr,w.heap[L.g]? =some (.cells c t fr)∧c.size=L.size∧L.base+blk.cells.length≤L.size∧
  (blk.rw=true→fr=(0,0)∧L.base=0)∧ ∀(i:Nat) (v:Value),blk.cells[i]? =some v→ ∃u,c[L.base+i]? =some u∧VR φ β v u
 inj: ∀b b' blk kH L L',H.get b=some blk→blk.rw=true→H.get b'=some kH→β b=some L→β b'=some L'→L.g=L'.g→b=b'
 fin: ∀b,H.n≤b→H.get b=none
structure jh (β:Ren) (H:aA) (w:World) (β':Ren) (H':aA) (w':World):Prop where
 os:w'.os=w.os
 tape:w'.tape=w.tape
 output:w'.output=w.output
 size:w.heap.size≤w'.heap.size
 frame: ∀r,r<w.heap.size→(∀b blk L,H.get b=some blk→blk.rw=true→β b=some L→L.g≠r)→w'.heap[r]? =w.heap[r]?
 own: ∀b blk L,H'.get b=some blk→blk.rw=true→β' b=some L→w.heap.size≤L.g∨ ∃b0 blk0 L0,H.get b0=some blk0∧blk0.rw=true∧β b0=some L0∧L0.g=L.g
 ext: ∀b L,β b=some L→β' b=some L
 new: ∀b L,β' b=some L→β b=some L∨(H.n≤b∧b<H'.n)
 n:H.n≤H'.n
 BR: ∀b L,β' b=some L→β b=none→w.heap.size≤L.g∨ ∃b0 blk0 L0,H.get b0=some blk0∧blk0.rw=true∧β b0=some L0∧L0.g=L.g
def Good (φ:iO) (β:Ren) (H:aA) (w:World) (β':Ren) (H':aA) (w':World):Prop:=Rel φ β' H' w'∧jh β H w β' H' w'
section
variable {φ:iO} {β:Ren} {H:aA} {w:World}
theorem jh.refl (β:Ren) (H:aA) (w:World):jh β H w β H w:=
 ⟨rfl,rfl,rfl,Nat.le_refl _,fun _ _ _=>rfl,fun b blk L h h1 h2=> .inr ⟨b,blk,L,h,h1,h2,rfl⟩,fun _ _ h=>h,fun _ _ h=> .inl h,Nat.le_refl _,fun _ _ h h0=>by rw [h0] at h;cases h⟩
theorem Good.refl (h:Rel φ β H w):Good φ β H w β H w:=⟨h, .refl _ _ _⟩
theorem jh.trans {β1 rQ:Ren} {H1 H2:aA} {w1 w2:World} (h:jh β H w β1 H1 w1) (k:jh β1 H1 w1 rQ H2 w2):jh β H w rQ H2 w2 where
 os:=k.os.trans h.os
 tape:=k.tape.trans h.tape
 output:=k.output.trans h.output
 size:=Nat.le_trans h.size k.size
 frame:=fun r hr hn=>by
  rw [k.frame r (Nat.lt_of_lt_of_le hr h.size) (fun b blk L h1 h2 h3 he=>?_),h.frame r hr hn]
  rcases h.own b blk L h1 h2 h3 with h4|⟨b0,blk0,L0,h4,h5,h6,h7⟩
  ·omega
  ·exact hn b0 blk0 L0 h4 h5 h6 (h7.trans he)
 own:=fun b blk L h1 h2 h3=>by
  rcases k.own b blk L h1 h2 h3 with h4|⟨b0,blk0,L0,h4,h5,h6,h7⟩
  ·exact .inl (Nat.le_trans h.size h4)
  ·rcases h.own b0 blk0 L0 h4 h5 h6 with h8|⟨b1,qI,L1,h8,h9,h10,h11⟩
   ·exact .inl (by omega)
   ·exact .inr ⟨b1,qI,L1,h8,h9,h10,h11.trans h7⟩
 ext:=fun b L hb=>k.ext b L (h.ext b L hb)
 new:=fun b L hb=>by
  rcases k.new b L hb with h1|h1
  ·rcases h.new b L h1 with h2|h2
   ·exact .inl h2
   ·exact .inr ⟨h2.1,Nat.lt_of_lt_of_le h2.2 k.n⟩
  ·exact .inr ⟨Nat.le_trans h.n h1.1,h1.2⟩
 n:=Nat.le_trans h.n k.n
 BR:=fun b L hb h0=>by
  cases h1:β1 b with
  |some L1=>
   have:=k.ext b L1 h1
   rw [hb] at this
   cases this
   exact h.BR b L h1 h0
  |none=>
   rcases k.BR b L hb h1 with h2|⟨b0,blk0,L0,h4,h5,h6,h7⟩
   ·exact .inl (Nat.le_trans h.size h2)
   ·rcases h.own b0 blk0 L0 h4 h5 h6 with h8|⟨b1,qI,L1,h8,h9,h10,h11⟩
    ·exact .inl (by omega)
    ·exact .inr ⟨b1,qI,L1,h8,h9,h10,h11.trans h7⟩
theorem Good.trans {β1 rQ:Ren} {H1 H2:aA} {w1 w2:World} (h:Good φ β H w β1 H1 w1) (k:Good φ β1 H1 w1 rQ H2 w2):Good φ β H w rQ H2 w2:=⟨k.1,h.2.trans k.2⟩
theorem Rel.lt (h:Rel φ β H w) {b:Nat} {blk:dh} {L:Loc} (hb:H.get b=some blk) (hL:β b=some L):L.g<w.heap.size:=by
 obtain ⟨c,t,fr,hc,_⟩:=h.cells b blk L hb hL
 exact (Array.getElem?_eq_some_iff.1 hc).1
theorem Good.drawn (h:Rel φ β H w) (n:Nat):Good φ β H w β H {w with drawn:=n}:=
 ⟨⟨h.cells,h.inj,h.fin⟩,⟨rfl,rfl,rfl,Nat.le_refl _,fun _ _ _=>rfl,fun b blk L h h1 h2=> .inr ⟨b,blk,L,h,h1,h2,rfl⟩,fun _ _ h=>h,fun _ _ h=> .inl h,Nat.le_refl _,fun _ _ h h0=>by rw [h0] at h;cases h⟩⟩
theorem VN (w:World) (o:Obj) (k:Nat) (h:k<w.heap.size):(w.alloc o).heap[k]? =w.heap[k]? :=by
 show (w.heap.push o)[k]? =_
 rw [Array.getElem?_push,if_neg (by omega)]
theorem akP (w:World) (o:Obj):(w.alloc o).heap[w.heap.size]? =some o:=by
 show (w.heap.push o)[w.heap.size]? =some o
 simp
def Ren.put (β:Ren) (b:Nat) (L:Loc):Ren:=fun x=>if x=b then some L else β x
theorem Good.alloc (h:Rel φ β H w) (hn:β H.n=none) {cs:List Value} (c:Array Value) (t:TypeId) (hc:cs.length≤c.size) (hv: ∀(i:Nat) (v:Value),cs[i]? =some v→ ∃u,c[i]? =some u∧VR φ β v u):
  Good φ β H w (Ren.put β H.n ⟨w.heap.size,0,c.size⟩) (H.alloc cs) (w.alloc (.cells c t)):=by
 have hext: ∀b L,β b=some L→Ren.put β H.n ⟨w.heap.size,0,c.size⟩ b=some L:=fun b L hb=>by
  unfold Ren.put
  split
  ·rename_i e;subst e;rw [hn] at hb;cases hb
  ·exact hb
 have hsz:w.heap.size≤(w.alloc (.cells c t)).heap.size:=by simp
 refine ⟨⟨?_,?_,?_⟩,⟨rfl,rfl,rfl,hsz,fun r hr _=>VN w _ r hr,?_,hext,?_,by simp [aA.alloc],fun b L hb h0=>?_⟩⟩
 ·intro b blk L hb hL
  simp only [aA.alloc] at hb
  simp only [Ren.put] at hL
  by_cases e:b=H.n
  ·subst e
   simp only [if_true,Option.some.injEq] at hb hL
   subst hb;subst hL
   refine ⟨c,t,(0,0),akP w _,rfl,by simpa using hc,fun _=>⟨rfl,rfl⟩,fun i v hi=>?_⟩
   obtain ⟨u,hu,hr⟩:=hv i v hi
   exact ⟨u,by simpa using hu,hr.mono hext⟩
  ·simp only [if_neg e] at hb hL
   obtain ⟨c',t',fr,h1,h2,h3,h4,h5⟩:=h.cells b blk L hb hL
   refine ⟨c',t',fr,by rw [VN w _ _ (h.lt hb hL)];exact h1,h2,h3,h4,fun i v hi=>?_⟩
   obtain ⟨u,hu,hr⟩:=h5 i v hi
   exact ⟨u,hu,hr.mono hext⟩
 ·intro b b' blk kH L L' hb hrw hb' hL hL' he
  simp only [aA.alloc] at hb hb'
  simp only [Ren.put] at hL hL'
  by_cases e:b=H.n<;>by_cases e':b'=H.n
  ·rw [e,e']
  ·rw [if_pos e] at hL
   rw [if_neg e'] at hb' hL'
   cases hL
   have:=h.lt hb' hL'
   simp at he
   omega
  ·rw [if_pos e'] at hL'
   rw [if_neg e] at hb hL
   cases hL'
   have:=h.lt hb hL
   simp at he
   omega
  ·rw [if_neg e] at hb hL
   rw [if_neg e'] at hb' hL'
   exact h.inj b b' blk kH L L' hb hrw hb' hL hL' he
 ·intro b hb
  simp only [aA.alloc] at hb⊢
  rw [if_neg (by omega)]
  exact h.fin b (by omega)
 ·intro b blk L hb hrw hL
  simp only [aA.alloc] at hb
  simp only [Ren.put] at hL
  by_cases e:b=H.n
  ·rw [if_pos e] at hL
   cases hL
   exact .inl (Nat.le_refl _)
  ·rw [if_neg e] at hb hL
   exact .inr ⟨b,blk,L,hb,hrw,hL,rfl⟩
 ·intro b L hb
  simp only [Ren.put] at hb
  by_cases e:b=H.n
  ·exact .inr (by simp [aA.alloc,e])
  ·rw [if_neg e] at hb
   exact .inl hb
 ·simp only [Ren.put] at hb
  by_cases e:b=H.n
  ·rw [if_pos e] at hb
   cases hb
   exact .inl (Nat.le_refl _)
  ·rw [if_neg e,h0] at hb
   cases hb
theorem Good.set (h:Rel φ β H w) {b:Nat} {blk:dh} {L:Loc} (hb:H.get b=some blk) (hrw:blk.rw=true) (hL:β b=some L) {cs:List Value} {c':Array Value} (hlen:cs.length≤L.size) (hsize:c'.size=L.size)
  (hv: ∀(i:Nat) (v:Value),cs[i]? =some v→ ∃u,c'[i]? =some u∧VR φ β v u):Good φ β H w β (H.set b cs) (w.setRow L.g c'):=by
 obtain ⟨c,t,fr,h1,h2,h3,h4,h5⟩:=h.cells b blk L hb hL
 obtain ⟨rfl,hbase⟩:=h4 hrw
 refine ⟨⟨?_,?_,?_⟩,⟨rfl,rfl,rfl,by simp,?_,?_,fun _ _ h=>h,fun _ _ h=> .inl h,Nat.le_refl _,fun _ _ h h0=>by rw [h0] at h;cases h⟩⟩
 ·intro b' kH L' hb' hL'
  simp only [aA.set] at hb'
  by_cases e:b'=b
  ·subst e
   rw [if_pos rfl] at hb'
   cases hb'
   rw [hL] at hL'
   cases hL'
   exact ⟨c',t,(0,0),setRow_heap w _ c c' t (0,0) h1,hsize,by simp [hbase];exact hlen,fun _=>⟨rfl,hbase⟩,by simpa [hbase] using hv⟩
  ·rw [if_neg e] at hb'
   obtain ⟨c1,t1,Oc,k1,k2,k3,k4,k5⟩:=h.cells b' kH L' hb' hL'
   refine ⟨c1,t1,Oc,?_,k2,k3,k4,k5⟩
   rw [setRow_other w _ _ _ (fun he=>e (h.inj b b' blk kH L L' hb hrw hb' hL hL' he.symm).symm)]
   exact k1
 ·intro b1 b2 qI akQ L1 L2 hb1 hrw1 hb2 hL1 hL2 he
  have key: ∀x BZ,(H.set b cs).get x=some BZ→ ∃y,H.get x=some y∧(BZ.rw=true→y.rw=true):=by
   intro x BZ hx
   simp only [aA.set] at hx
   by_cases e:x=b
   ·exact ⟨blk,by rw [e];exact hb,fun _=>hrw⟩
   ·rw [if_neg e] at hx
    exact ⟨BZ,hx,id⟩
  obtain ⟨y1,hy1,hr1⟩:=key b1 qI hb1
  obtain ⟨y2,hy2,_⟩:=key b2 akQ hb2
  exact h.inj b1 b2 y1 y2 L1 L2 hy1 (hr1 hrw1) hy2 hL1 hL2 he
 ·intro x hx
  simp only [aA.set] at hx⊢
  rw [if_neg,h.fin x hx]
  intro e
  subst e
  rw [h.fin x hx] at hb
  cases hb
 ·intro r _ hn
  exact setRow_other w _ _ _ (fun he=>hn b blk L hb hrw hL he.symm)
 ·intro x BZ Lx hx hrx hLx
  simp only [aA.set] at hx
  by_cases e:x=b
  ·subst e
   rw [hL] at hLx
   cases hLx
   exact .inr ⟨x,blk,L,hb,hrw,hL,rfl⟩
  ·rw [if_neg e] at hx
   exact .inr ⟨x,BZ,Lx,hx,hrx,hLx,rfl⟩
theorem Good.kill (h:Rel φ β H w) (b:Nat):Good φ β H w β (H.kill b) w:=by
 have key: ∀x y,(H.kill b).get x=some y→H.get x=some y:=fun x y hx=>by
  simp only [aA.kill] at hx
  split at hx
  ·cases hx
  ·exact hx
 refine ⟨⟨fun x blk L hx hL=>h.cells x blk L (key x blk hx) hL,fun x y bx by_ L L' hx hr hy hL hL' he=>h.inj x y bx by_ L L' (key _ _ hx) hr (key _ _ hy) hL hL' he,fun x hx=>?_⟩,
  ⟨rfl,rfl,rfl,Nat.le_refl _,fun _ _ _=>rfl,fun x blk L hx hr hL=> .inr ⟨x,blk,L,key _ _ hx,hr,hL,rfl⟩,fun _ _ h=>h,fun _ _ h=> .inl h,Nat.le_refl _,fun _ _ h h0=>by rw [h0] at h;cases h⟩⟩
 simp only [aA.kill]
 split
 ·rfl
 ·exact h.fin x hx
theorem Good.moved (h:Rel φ β H w) (hn:β H.n=none) {b:Nat} {blk:dh} {L:Loc} (hb:H.get b=some blk) (hrw:blk.rw=true) (hL:β b=some L) {cs:List Value} {c':Array Value} (hlen:cs.length≤L.size)
  (hsize:c'.size=L.size) (hv: ∀(i:Nat) (v:Value),cs[i]? =some v→ ∃u,c'[i]? =some u∧VR φ β v u):Good φ β H w (Ren.put β H.n L) ((H.kill b).alloc cs) (w.setRow L.g c'):=by
 obtain ⟨c,t,fr,h1,h2,h3,h4,h5⟩:=h.cells b blk L hb hL
 obtain ⟨rfl,hbase⟩:=h4 hrw
 have hbn:b≠H.n:=fun e=>by rw [e,hn] at hL;cases hL
 have hext: ∀x L',β x=some L'→Ren.put β H.n L x=some L':=fun x L' hx=>by
  unfold Ren.put
  split
  ·rename_i e;subst e;rw [hn] at hx;cases hx
  ·exact hx
 have key: ∀x y L',((H.kill b).alloc cs).get x=some y→Ren.put β H.n L x=some L'→(x=H.n∧y=⟨cs,true⟩∧L'=L)∨(x≠H.n∧x≠b∧H.get x=some y∧β x=some L'):=by
  intro x y L' hx hl
  replace hx:(if x=H.n then some (⟨cs,true⟩:dh) else if x=b then none else H.get x)=some y:=hx
  simp only [Ren.put] at hl
  by_cases e:x=H.n
  ·rw [if_pos e] at hx hl
   cases hx;cases hl
   exact .inl ⟨e,rfl,rfl⟩
  ·rw [if_neg e] at hx hl
   by_cases e':x=b
   ·rw [if_pos e'] at hx;cases hx
   ·rw [if_neg e'] at hx
    exact .inr ⟨e,e',hx,hl⟩
 refine ⟨⟨?_,?_,?_⟩,⟨rfl,rfl,rfl,by simp,?_,?_,hext,?_,by simp [aA.alloc,aA.kill],fun x L' hx h0=>?_⟩⟩
 ·intro x y L' hx hl
  rcases key x y L' hx hl with ⟨rfl,rfl,rfl⟩|⟨e,e',hx',hl'⟩
  ·refine ⟨c',t,(0,0),setRow_heap w _ c c' t (0,0) h1,hsize,by simp [hbase];exact hlen,fun _=>⟨rfl,hbase⟩,fun i v hi=>?_⟩
   obtain ⟨u,hu,hr⟩:=hv i v hi
   exact ⟨u,by simpa [hbase] using hu,hr.mono hext⟩
  ·obtain ⟨c1,t1,Oc,k1,k2,k3,k4,k5⟩:=h.cells x y L' hx' hl'
   refine ⟨c1,t1,Oc,?_,k2,k3,k4,fun i v hi=>?_⟩
   ·rw [setRow_other w _ _ _ (fun he=>e' (h.inj b x blk y L L' hb hrw hx' hL hl' he.symm).symm)]
    exact k1
   ·obtain ⟨u,hu,hr⟩:=k5 i v hi
    exact ⟨u,hu,hr.mono hext⟩
 ·intro x1 x2 y1 y2 L1 L2 hx1 hr1 hx2 hl1 hl2 he
  rcases key x1 y1 L1 hx1 hl1 with ⟨rfl,rfl,rfl⟩|⟨e1,e1',VO,VP⟩<;>rcases key x2 y2 L2 hx2 hl2 with ⟨rfl,rfl,rfl⟩|⟨e2,e2',VQ,VT⟩
  ·rfl
  ·exact absurd (h.inj b x2 blk y2 L1 L2 hb hrw VQ hL VT he).symm e2'
  ·exact absurd (h.inj b x1 blk y1 L2 L1 hb hrw VO hL VP he.symm).symm e1'
  ·exact h.inj x1 x2 y1 y2 L1 L2 VO hr1 VQ VP VT he
 ·intro x hx
  replace hx:H.n+1≤x:=hx
  show (if x=H.n then some (⟨cs,true⟩:dh) else if x=b then none else H.get x)=none
  rw [if_neg (by omega)]
  split
  ·rfl
  ·exact h.fin x (by omega)
 ·intro r _ hn'
  exact setRow_other w _ _ _ (fun he=>hn' b blk L hb hrw hL he.symm)
 ·intro x y L' hx hr hl
  rcases key x y L' hx hl with ⟨rfl,rfl,rfl⟩|⟨e,e',hx',hl'⟩
  ·exact .inr ⟨b,blk,L',hb,hrw,hL,rfl⟩
  ·exact .inr ⟨x,y,L',hx',hr,hl',rfl⟩
 ·intro x L' hx
  simp only [Ren.put] at hx
  by_cases e:x=H.n
  ·exact .inr (by simp [aA.alloc,aA.kill,e])
  ·rw [if_neg e] at hx
   exact .inl hx
 ·simp only [Ren.put] at hx
  by_cases e:x=H.n
  ·rw [if_pos e] at hx
   cases hx
   exact .inr ⟨b,blk,L,hb,hrw,hL,rfl⟩
  ·rw [if_neg e,h0] at hx
   cases hx
theorem Rel.akN (h:Rel φ β H w) {b:Nat} {blk:dh} {L:Loc} (hb:H.get b=some blk) (hL:β b=some L) {i:Nat} {v:Value} (hi:blk.cells[i]? =some v): ∃u,w.cell? ⟨L.g,L.base+i,none⟩=some u∧VR φ β v u:=by
 obtain ⟨c,t,fr,h1,h2,h3,h4,h5⟩:=h.cells b blk L hb hL
 obtain ⟨u,hu,hr⟩:=h5 i v hi
 exact ⟨u,by simp [World.cell?,h1,hu],hr⟩
theorem Rel.cells_at (h:Rel φ β H w) {b:Nat} {blk:dh} {L:Loc} (hb:H.get b=some blk) (hL:β b=some L) {o n:Nat} (ho:o+n≤blk.cells.length):
  ∃ds:List Value,bZ φ β ((blk.cells.drop o).take n) ds∧ds.length=n∧ ∀(j:Nat) (d:Value),ds[j]? =some d→w.cell? ((⟨L.g,L.base+o,none⟩:Addr).add j)=some d:=by
 obtain ⟨c,t,fr,h1,h2,h3,h4,h5⟩:=h.cells b blk L hb hL
 have hl:(((c.toList.drop (L.base+o)).take n)).length=n:=by simp;omega
 refine ⟨(c.toList.drop (L.base+o)).take n,⟨by rw [hl];simp;omega,fun i a d ha hd=>?_⟩,hl,fun j d hd=>?_⟩
 ·rw [List.getElem?_take] at ha hd
  split at ha
  ·rename_i hi
   rw [if_pos hi] at hd
   rw [List.getElem?_drop] at ha hd
   obtain ⟨u,hu,hr⟩:=h5 _ _ ha
   rw [Array.getElem?_toList,Nat.add_assoc] at hd
   rw [hu] at hd
   cases hd
   exact hr
  ·cases ha
 ·rw [List.getElem?_take] at hd
  split at hd
  ·rw [List.getElem?_drop,Array.getElem?_toList] at hd
   have:(⟨L.g,L.base+o,none⟩:Addr).add j=⟨L.g,L.base+o+j,none⟩:=by unfold Addr.add;split<;>simp_all
   rw [this]
   simp [World.cell?,h1,hd]
  ·cases hd
end
end Go.Am
