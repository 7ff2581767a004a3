/- Slices of whole numbers in the small machine's memory, and more rules. -/
import Derived.Test.YtbpfbfbabpkceaaAmT
set_option linter.unusedVariables false
set_option linter.unusedSimpArgs false
namespace Go.Am
open Go
theorem rJ (t:Nat):frame0 [] t=undef:=by simp [frame0]
theorem rM (a:Value) (as:List Value):frame0 (a::as) 0=a:=rfl
theorem rO (a b:Value) (as:List Value):frame0 (a::b::as) 1=b:=rfl
theorem rP (a b c:Value) (as:List Value):frame0 (a::b::c::as) 2=c:=rfl
theorem rQ (a b c d:Value) (as:List Value):frame0 (a::b::c::d::as) 3=d:=rfl
theorem rU {n:Int} (h0: -9223372036854775808≤n) (h1:n<9223372036854775808):IntKind.i64.wrap n=n:=by
 have hb:(2:Int)^(64:Nat)=18446744073709551616:=by decide
 have hb':(2:Int)^(63:Nat)=9223372036854775808:=by decide
 simp only [IntKind.wrap,IntKind.bits,IntKind.signed,hb,hb']
 simp only [Bool.true_and,decide_eq_true_eq]
 omega
theorem aB {a b c:ACode} {Q:Ex→Fr→AHeap→Prop} {f:Fr} {H:AHeap}:T (.seq (.seq a b) c) Q f H=T (.seq a (.seq b c)) Q f H:=by
 refine propext ⟨fun h=>?_,Oa⟩
 obtain ⟨ex,f',H',h1,h2⟩:=h
 cases h1 with
 |seqN hab hc=>
  cases hab with
  |seqN ha hb=>exact ⟨_,_,_, .seqN ha (.seqN hb hc),h2⟩
  |seqX ha hne=>exact absurd rfl hne
 |seqX hab hne=>
  cases hab with
  |seqN ha hb=>exact ⟨_,_,_, .seqN ha (.seqX hb hne),h2⟩
  |seqX ha hne=>exact ⟨_,_,_, .seqX ha hne,h2⟩
theorem og {b:ACode} {Q:Ex→Fr→AHeap→Prop} {f:Fr} {H:AHeap}:T (.seq .skip b) Q f H=T b Q f H:=by
 refine propext ⟨fun h=>?_,Ob⟩
 obtain ⟨ex,f',H',h1,h2⟩:=h
 cases h1 with
 |seqN ha hb=>cases ha;exact ⟨_,_,_,hb,h2⟩
 |seqX ha hne=>cases ha;exact absurd rfl hne
theorem oh {b:ACode} {Q:Ex→Fr→AHeap→Prop} {f:Fr} {H:AHeap}:T (.seq .ret b) Q f H=T .ret Q f H:=by
 refine propext ⟨fun h=>?_,fun h=>?_⟩
 ·obtain ⟨ex,f',H',h1,h2⟩:=h
  cases h1 with
  |seqN ha hb=>cases ha
  |seqX ha hne=>exact ⟨_,_,_,ha,h2⟩
 ·obtain ⟨ex,f',H',h1,h2⟩:=h
  cases h1
  exact ⟨_,_,_, .seqX .ret (by simp),h2⟩
theorem oq {i:Nat} {b:ACode} {Q:Ex→Fr→AHeap→Prop} {f:Fr} {H:AHeap}:T (.seq (.exit i) b) Q f H=Q (.exit i) f H:=by
 refine propext ⟨fun h=>?_,fun h=>⟨_,_,_, .seqX .exit (by simp),h⟩⟩
 obtain ⟨ex,f',H',h1,h2⟩:=h
 cases h1 with
 |seqN ha hb=>cases ha
 |seqX ha hne=>cases ha;exact h2
theorem Bq {Q:Ex→Fr→AHeap→Prop} {f:Fr} {H:AHeap}:T .ret Q f H=Q .ret f H:=by
 refine propext ⟨fun h=>?_,fun h=>⟨_,_,_, .ret,h⟩⟩
 obtain ⟨ex,f',H',h1,h2⟩:=h
 cases h1;exact h2
theorem Bv {i:Nat} {Q:Ex→Fr→AHeap→Prop} {f:Fr} {H:AHeap}:T (.exit i) Q f H=Q (.exit i) f H:=by
 refine propext ⟨fun h=>?_,fun h=>⟨_,_,_, .exit,h⟩⟩
 obtain ⟨ex,f',H',h1,h2⟩:=h
 cases h1;exact h2
theorem Bz {Q:Ex→Fr→AHeap→Prop} {f:Fr} {H:AHeap}:T .skip Q f H=Q .normal f H:=by
 refine propext ⟨fun h=>?_,fun h=>⟨_,_,_, .skip,h⟩⟩
 obtain ⟨ex,f',H',h1,h2⟩:=h
 cases h1;exact h2
theorem bH {id:Nat} {a rest:ACode} {Q:Ex→Fr→AHeap→Prop} {f:Fr} {H:AHeap} (J:Nat→Fr→AHeap→Prop) (n:Nat) (h0:J n f H)
  (hr: ∀n f H (R:Ex→Fr→AHeap→Prop),J n f H→(∀m f' H',m<n→J m f' H'→R .normal f' H')→(∀f' H',T rest Q f' H'→R (.exit id) f' H')→(∀f' H',Q .ret f' H'→R .ret f' H')→T a R f H):
  T (.seq (.block id (.loop a)) rest) Q f H:=by
 refine jY (rV (xk J n h0 fun n f H hJ=>hr n f H _ hJ (fun m f' H' hm h=>⟨m,hm,h⟩) (fun f' H' h=>?_) (fun f' H' h=>h)))
 simp only [aN,aK,if_true]
 exact h
def gI (id:Nat):ACode→Bool
 | .exit i=> !(i==id)
 | .seq a b=>gI id a&&gI id b
 | .cond _ a b=>gI id a&&gI id b
 | .block i a=>i==id||gI id a
 | .loop a=>gI id a
 | _=>true
theorem jy {id:Nat}: ∀(a:ACode) {f:Fr} {H:AHeap} {ex:Ex} {f':Fr} {H':AHeap},Big Γ X a f H ex f' H'→gI id a=true→ex≠ .exit id
 | .skip,_,_,_,_,_,h,_=>by cases h;simp
 | .region _ _,_,_,_,_,_,h,_=>by cases h;simp
 | .ret,_,_,_,_,_,h,_=>by cases h;simp
 | .exit i,_,_,_,_,_,h,hn=>by
  cases h
  simp only [gI,Bool.not_eq_true',beq_eq_false_iff_ne] at hn
  intro he
  cases he
  exact hn rfl
 | .seq a b,_,_,_,_,_,h,hn=>by
  simp only [gI,Bool.and_eq_true] at hn
  cases h with
  |seqN _ hb=>exact jy b hb hn.2
  |seqX ha _=>exact jy a ha hn.1
 | .cond c a b,_,_,_,_,_,h,hn=>by
  simp only [gI,Bool.and_eq_true] at hn
  cases h with
  | @cond _ _ _ _ _ t _ _ _ hc hb=>
   cases t with
   |true=>exact jy a hb hn.1
   |false=>exact jy b hb hn.2
 | .block i a,_,_,_,_,_,h,hn=>by
  simp only [gI,Bool.or_eq_true,beq_iff_eq] at hn
  cases h with
  |block hb hne=>
   rcases hn with rfl|hn
   ·exact hne
   ·exact jy a hb hn
  |blockX _=>simp
 | .loop a,f,H,ex,f',H',h,hn=>by
  simp only [gI] at hn
  have ih:=fun {f H ex f' H'} (hb:Big Γ X a f H ex f' H')=>jy (id:=id) a hb hn
  generalize hl:ACode.loop a=l at h
  clear hn
  revert ih hl
  refine Big.rec (motive_1:=fun l f H ex f' H' _=>(∀{f H ex f' H'},Big Γ X a f H ex f' H'→ex≠ .exit id)→ACode.loop a=l→ex≠ .exit id) (motive_2:=fun _ _ _ _ _ _ _=>True) (motive_3:=fun _ _ _ _ _ _=>True) (motive_4:=fun _ _ _ _ _ _=>True)
   ?_ ?_ ?_ ?_ ?_ ?_ ?_ ?_ ?_ ?_ ?_ ?_ ?_ ?_ ?_ ?_ ?_ ?_ ?_ ?_ h
  case refine_8=>intro a' _ _ _ _ _ _ _ _ _ _ h2 ih hl;exact h2 ih hl
  case refine_9=>intro a' _ _ _ _ _ h1 _ _ ih hl;cases hl;exact ih h1
  all_goals intros;first|trivial|contradiction
theorem bY {id:Nat} {a b:ACode} {Q:Ex→Fr→AHeap→Prop} {f:Fr} {H:AHeap} (hn:gI id a=true) (h:T (.seq a b) Q f H):T (.seq (.block id a) b) Q f H:=by
 obtain ⟨ex,f',H',h1,h2⟩:=h
 cases h1 with
 |seqN ha hb=>exact ⟨_,_,_, .seqN (.block ha (by simp)) hb,h2⟩
 |seqX ha hne=>exact ⟨_,_,_, .seqX (.block ha (jy a ha hn)) hne,h2⟩
theorem bZ {id:Nat} {a:ACode} {Q:Ex→Fr→AHeap→Prop} {f:Fr} {H:AHeap} (hn:gI id a=true) (h:T a Q f H):T (.block id a) Q f H:=by
 obtain ⟨ex,f',H',h1,h2⟩:=h
 exact ⟨_,_,_, .block h1 (jy a h1 hn),h2⟩
theorem VE {g:Nat} {as as':List Value} {H H':AHeap} {K:Value→AHeap→Prop} (h1:as=as') (h2:H=H'):iI g as H K=iI g as' H' K:=by rw [h1,h2]
def el (xs:List Int) (k:Nat):Int:=xs.getD k 0
def iH (H:AHeap) (v:Value) (xs:List Int):Prop:=
 (v= .slice none 0 0∧xs=[])∨ ∃b o blk,v=S b o xs.length 1∧b<H.n∧H.get b=some blk∧o+xs.length≤blk.cells.length∧ ∀i,i<xs.length→blk.cells[o+i]? =some (I (el xs i))
def fQ (lo hi:Nat) (H:AHeap) (v:Value) (xs:List Int):Prop:=
 (v= .slice none 0 0∧xs=[])∨ ∃b rest,v=S b 0 xs.length 1∧lo≤b∧b<hi∧b<H.n∧H.get b=some ⟨xs.map I++rest,true⟩
section
variable {H H':AHeap} {v:Value} {xs:List Int} {lo hi:Nat}
theorem iH.len (h:iH H v xs): ∃a e,v= .slice a xs.length e:=by
 rcases h with ⟨rfl,rfl⟩|⟨b,o,blk,rfl,_⟩
 ·exact ⟨_,_,rfl⟩
 ·exact ⟨_,_,rfl⟩
theorem iH.pos (h:iH H v xs) (hp:0<xs.length): ∃b o blk,v=S b o xs.length 1∧b<H.n∧H.get b=some blk∧o+xs.length≤blk.cells.length∧ ∀i,i<xs.length→blk.cells[o+i]? =some (I (el xs i)):=by
 rcases h with ⟨rfl,rfl⟩|h
 ·simp at hp
 ·exact h
theorem iH.ext (h:iH H v xs) (he:Ext H H'):iH H' v xs:=by
 rcases h with h|⟨b,o,blk,h1,h2,h3,h4,h5⟩
 ·exact .inl h
 ·exact .inr ⟨b,o,blk,h1,Nat.lt_of_lt_of_le h2 he.n,by rw [he.get b h2];exact h3,h4,h5⟩
theorem fQ.is (h:fQ lo hi H v xs):iH H v xs:=by
 rcases h with h|⟨b,rest,h1,h2,h3,h4,h5⟩
 ·exact .inl h
 ·refine .inr ⟨b,0,_,h1,h4,h5,by simp,fun i hi=>?_⟩
  simp [List.getElem?_append_left,hi,List.getD,el]
theorem fQ.len (h:fQ lo hi H v xs): ∃a e,v= .slice a xs.length e:=h.is.len
theorem fQ.ext (h:fQ lo hi H v xs) (he:Ext H H'):fQ lo hi H' v xs:=by
 rcases h with h|⟨b,rest,h1,h2,h3,h4,h5⟩
 ·exact .inl h
 ·exact .inr ⟨b,rest,h1,h2,h3,Nat.lt_of_lt_of_le h4 he.n,by rw [he.get b h4];exact h5⟩
theorem fQ.weak (h:fQ lo hi H v xs) {lo' hi':Nat} (hn:lo'≤lo) (hh:hi≤hi'):fQ lo' hi' H v xs:=by
 rcases h with h|⟨b,rest,h1,h2,h3,h4,h5⟩
 ·exact .inl h
 ·exact .inr ⟨b,rest,h1,Nat.le_trans hn h2,Nat.lt_of_lt_of_le h3 hh,h4,h5⟩
theorem fQ.nil:fQ lo hi H (.slice none 0 0) []:= .inl ⟨rfl,rfl⟩
structure Out (lo hi:Nat) (H H':AHeap):Prop where
 n:H.n≤H'.n
 get: ∀b,b<H.n→b<lo∨hi≤b→H'.get b=H.get b
theorem Out.refl:Out lo hi H H:=⟨Nat.le_refl _,fun _ _ _=>rfl⟩
theorem Out.ext (h:Out lo hi H H') (hl:H.n≤lo):Ext H H':=⟨h.n,fun b hb=>h.get b hb (.inl (by omega))⟩
theorem fQ.out {lo' hi':Nat} (h:fQ lo hi H v xs) (he:Out lo' hi' H H') (hd:hi≤lo'∨hi'≤lo):fQ lo hi H' v xs:=by
 rcases h with h|⟨b,rest,h1,h2,h3,h4,h5⟩
 ·exact .inl h
 ·exact .inr ⟨b,rest,h1,h2,h3,Nat.lt_of_lt_of_le h4 he.n,by rw [he.get b h4 (by omega)];exact h5⟩
end
theorem VF {xs ys:List Int} (hl:xs.length=ys.length) (h: ∀i,i<xs.length→el xs i=el ys i):xs=ys:=by
 apply List.ext_getElem hl
 intro i h1 h2
 have:=h i h1
 simpa [el,List.getD,h1,h2] using this
def marks (k:Int) (n:Nat):List Int:=(List.range n).map fun (i:Nat)=>k+(i:Int)
theorem iH.nil {H:AHeap}:iH H (.slice none 0 0) []:= .inl ⟨rfl,rfl⟩
theorem rW {p:Prop} [Decidable p] (h:p):decide p=true:=decide_eq_true h
theorem rX {p:Prop} [Decidable p] (h: ¬p):decide p=false:=decide_eq_false h
theorem rY {p q:Prop} [Decidable p] [Decidable q] {α:Type} {a b:α} (h:p∧q):(if p∧q then a else b)=a:=if_pos h
theorem rZ {p q:Int} {α:Type} {a b:α} (h:p≤q):(if p≤q then a else b)=a:=if_pos h
theorem su {p q:Int} {α:Type} {a b:α} (h:p<q):(if p<q then a else b)=a:=if_pos h
theorem sD {p q:Int} {α:Type} {a b:α} (h: ¬p<q):(if p<q then a else b)=b:=if_neg h
theorem sF {p q:Nat} {α:Type} {a b:α} (h:p≤q):(if p≤q then a else b)=a:=if_pos h
theorem sG {p q:Nat} {α:Type} {a b:α} (h:p<q):(if p<q then a else b)=a:=if_pos h
theorem fQ.pos {lo hi:Nat} {H:AHeap} {v:Value} {xs:List Int} (h:fQ lo hi H v xs) (hp:0<xs.length): ∃b rest,v=S b 0 xs.length 1∧lo≤b∧b<hi∧b<H.n∧H.get b=some ⟨xs.map I++rest,true⟩:=by
 rcases h with ⟨rfl,rfl⟩|h
 ·simp at hp
 ·exact h
theorem BA (v:Value) (n:Nat):repl [v] n=List.replicate n v:=by
 simp only [repl]
 induction n with
 |zero=>rfl
 |succ n ih=>simp [List.replicate_succ,ih]
theorem VG (H:AHeap) (n:Nat):fQ H.n (H.n+1) (H.alloc (repl [.int .i64 0] n)) (S H.n 0 n 1) (List.replicate n 0):=by
 refine .inr ⟨H.n,[],by simp,Nat.le_refl _,Nat.lt_succ_self _,Nat.lt_succ_self _,?_⟩
 rw [Oc,BA]
 simp
theorem xq {xs:List Int} {rest:List Value} {k:Nat} {y:Int} (h:k<xs.length):splice (xs.map I++rest) k [I y]=(xs.set k y).map I++rest:=by
 simp only [splice,List.length_singleton]
 rw [List.take_append_of_le_length (by simp;omega),List.drop_append_of_le_length (by simp;omega),List.set_eq_take_append_cons_drop]
 simp [h,List.map_take,List.map_drop]
theorem BD {xs:List Int} {rest:List Value} {k:Nat} (h:k<xs.length):(xs.map I++rest)[k]? =some (I (el xs k)):=by
 simp [List.getElem?_append_left,h,el,List.getD]
theorem VH {xs:List Int} {k:Nat} {y:Int} (h:k<xs.length):el (xs.set k y) k=y:=by simp [el,List.getD,h]
theorem VI {xs:List Int} {k i:Nat} {y:Int} (h:k≠i):el (xs.set k y) i=el xs i:=by simp [el,List.getD,h]
theorem Out.set {lo hi:Nat} {H H':AHeap} (h:Out lo hi H H') {b:Nat} (hb:lo≤b∧b<hi) (cs:List Value):Out lo hi H (H'.set b cs):=⟨h.n,fun x hx ho=>by rw [BF _ _ _ _ (by omega)];exact h.get x hx ho⟩
theorem VJ {v:Value}:fillL (repl [v] 0) []=some []:=rfl
theorem VK {v:Value} {k:IntKind} {n:Int}:fillL (repl [v] 1) [(0,1, .int k n)]=some [.int k n]:=rfl
theorem Oe {a b:Int}:(a==b)=decide (a=b):=by rw [Bool.eq_iff_iff];simp
theorem Og {a b:Int}:(a !=b)=decide (¬a=b):=by rw [Bool.eq_iff_iff];simp
def dh (o:Option (Value×AHeap)) (k:Value→AHeap→Prop):Prop:=
 match o with
 |some (v,H)=>k v H
 |none=>False
theorem Oh {v:Value} {H:AHeap} {k:Value→AHeap→Prop}:dh (some (v,H)) k=k v H:=rfl
theorem VN {o o':Option (Value×AHeap)} {k:Value→AHeap→Prop} (h:o=o'):dh o k=dh o' k:=by rw [h]
def aU (o:Option Value) (k:Value→Prop):Prop:=
 match o with
 |some v=>k v
 |none=>False
theorem VO {v:Value} {k:Value→Prop}:aU (some v) k=k v:=rfl
theorem VP {o o':Option Value} {k:Value→Prop} (h:o=o'):aU o k=aU o' k:=by rw [h]
theorem Oi {o:Option Value} {H:AHeap} {k:Value→AHeap→Prop}:dh (o.map fun v=>(v,H)) k=aU o fun v=>k v H:=by cases o<;>rfl
def dn (d:Option Nat):Option Nat:=d.map (· -1)
theorem sH:dn none=none:=rfl
theorem sJ {n:Nat}:dn (some n)=some (n-1):=rfl
def aW (d t:Option Nat) (r:List AOper) (K:Fr→AHeap→Prop) (f:Fr) (H:AHeap):Value→Prop:=fun v=>opsT (dn d) r K (updO f t v) H
def dW (d t:Option Nat) (r:List AOper) (K:Fr→AHeap→Prop) (f:Fr):Value→AHeap→Prop:=fun v H=>opsT (dn d) r K (updO f t v) H
def sK (d t:Option Nat) (r:List AOper) (K:Fr→AHeap→Prop) (f:Fr) (H:AHeap):Value→AHeap→Prop:=fun v H'=>(dP d=true→Ext H H')∧opsT (dn d) r K (updO f t v) H'
theorem ou {d t:Option Nat} {r:List AOper} {K:Fr→AHeap→Prop} {f:Fr} {H:AHeap} {v:Value}:aU (some v) (aW d t r K f H)=opsT (dn d) r K (updO f t v) H:=rfl
theorem oz {d t:Option Nat} {r:List AOper} {K:Fr→AHeap→Prop} {f:Fr} {H:AHeap} {v:Value}:dh (some (v,H)) (dW d t r K f)=opsT (dn d) r K (updO f t v) H:=rfl
theorem BG {d t:Option Nat} {r:List AOper} {K:Fr→AHeap→Prop} {f:Fr} {H H':AHeap} {v:Value}:sK d t r K f H v H'=((dP d=true→Ext H H')∧opsT (dn d) r K (updO f t v) H'):=rfl
theorem sN:dP none=false:=rfl
theorem sO {n:Nat}:dP (some n)=decide (0<n):=rfl
theorem oC {f:Fr} {n:Nat}:ev f (.t n)=f n:=rfl
theorem BI {f:Fr} {v:Value}:ev f (.c v)=v:=rfl
theorem oD {f:Fr} {n:Nat}:ev f (.f n)= .func (.func n) #[] #[]:=rfl
theorem sQ {f:Fr} {n:Nat} {v:Value}:updO f (some n) v=upd f n v:=rfl
theorem sS {f:Fr} {v:Value}:updO f none v=f:=rfl
def oG (b:Bool):Value→Bool
 | .bool x=>x==b
 | _=>false
theorem BJ {x:Bool}:oG true (.bool x)=x:=by cases x<;>rfl
theorem BK {x:Bool}:oG false (.bool x)= !x:=by cases x<;>rfl
theorem BL {b:Bool}:oG b undef=false:=rfl
def oH:Value→Value→Value→Option Value
 | .bool t,a,b=>some (if t then a else b)
 | _,_,_=>none
theorem sU {a b:Value}:oH (.bool true) a b=some a:=rfl
theorem sV {a b:Value}:oH (.bool false) a b=some b:=rfl
theorem VQ {t x y:Bool}:oH (.bool t) (.bool x) (.bool y)=some (.bool ((t&&x)||(!t&&y))):=by cases t<;>cases x<;>cases y<;>rfl
def xu:Value→Option Value
 | .bool b=>some (.bool !b)
 | _=>none
theorem sW {b:Bool}:xu (.bool b)=some (.bool !b):=rfl
def xw:Value→Option Value
 | .int k n=>some (.int k (k.wrap (0-n)))
 | _=>none
theorem sZ {k:IntKind} {n:Int}:xw (.int k n)=some (.int k (k.wrap (0-n))):=rfl
def xA (k:IntKind):Value→Option Value
 | .int _ n=>some (.int k (k.wrap n))
 | _=>none
theorem tq {k k':IntKind} {n:Int}:xA k (.int k' n)=some (.int k (k.wrap n)):=rfl
def tu (neg:Bool):Value→Value→Option Value
 | .bool a, .bool b=>some (.bool (if neg then !(a==b) else (a==b)))
 | _,_=>none
theorem tC {a b:Bool}:tu false (.bool a) (.bool b)=some (.bool (a==b)):=rfl
theorem tH {a b:Bool}:tu true (.bool a) (.bool b)=some (.bool !(a==b)):=rfl
def lenV:Value→Option Value
 | .slice _ n _=>some (.int .i64 n)
 | _=>none
theorem BM {a:Option Addr} {n e:Nat}:lenV (.slice a n e)=some (.int .i64 n):=rfl
def jZ (j:Nat):Value→Option Value
 | .tuple vs=>vs[j]?
 | _=>none
theorem VT {j:Nat} {vs:List Value}:jZ j (.tuple ⟨vs⟩)=vs[j]? :=by simp [jZ]
theorem tJ {a:Value} {l:List Value}:jZ 0 (.tuple ⟨a::l⟩)=some a:=by simp [jZ]
theorem ext1 {a b:Value} {l:List Value}:jZ 1 (.tuple ⟨a::b::l⟩)=some b:=by simp [jZ]
def tK (e:Nat):Value→Value→Option Value
 | .slice (some ⟨b,o,none⟩) len e', .int _ i=>if 0≤i∧i<len∧e'=e then some (P b (o+i.toNat*e)) else none
 | _,_=>none
theorem BN {b o len e:Nat} {k:IntKind} {i:Int}:tK e (S b o len e) (.int k i)=if 0≤i∧i<len then some (P b (o+i.toNat*e)) else none:=by simp [tK]
def tN (n:Option Nat) (H:AHeap):Value→Option Value
 | .pointer (some ⟨b,o,none⟩)=>(match H.get b with|some blk=>getN n blk.cells o|none=>none)
 | _=>none
def xB (blk:Option Blk) (o:Nat):Option Value:=
 match blk with
 |some blk=>blk.cells[o]?
 |none=>none
theorem BO {H:AHeap} {b o:Nat}:tN none H (P b o)=xB (H.get b) o:=by simp only [tN,xB];cases H.get b<;>rfl
theorem BP {blk:Blk} {o:Nat}:xB (some blk) o=blk.cells[o]? :=rfl
def mM (e:Nat) (x:Value) (lo hi:Option Value):Option Value:=
 match x with
 | .slice (some ⟨b,o,none⟩) len e'=>if e'=e then (cutOf (fun| .c v=>v| _=>undef) len (lo.map .c) (hi.map .c)).map fun (l,h)=>S b (o+l*e) (h-l) e else none
 | .slice none 0 0=>(cutOf (fun| .c v=>v| _=>undef) 0 (lo.map .c) (hi.map .c)).map fun _=> .slice none 0 0
 | _=>none
theorem Oj {f:Fr} {len:Nat} {lo hi:Option Opd}:cutOf (fun| .c v=>v| _=>undef) len ((lo.map (ev f)).map .c) ((hi.map (ev f)).map .c)=cutOf (ev f) len lo hi:=by
 cases lo<;>cases hi<;>rfl
theorem BQ {b o len e:Nat} {k:IntKind} {h:Int}:mM e (S b o len e) none (some (.int k h))=if 0≤h∧h≤len then some (S b o h.toNat e) else none:=by
 simp only [mM,if_true,Option.map_none,Option.map_some,cutOf,intOf]
 by_cases hh:0≤h∧h≤len
 ·simp [hh]
 ·rw [if_neg hh,if_neg (by omega)];rfl
theorem BR {e:Nat} {k:IntKind}:mM e (.slice none 0 0) none (some (.int k 0))=some (.slice none 0 0):=rfl
def tV (e n:Nat) (z:List Value) (parts:List (Nat×Nat×Value)) (H:AHeap):Option (Value×AHeap):=
 if n*e≤16777216 then (fillL (repl z n) parts).map fun cs=>(S H.n 0 n e,H.alloc cs) else none
theorem BU {z:Value} {H:AHeap}:tV 1 0 [z] [] H=some (S H.n 0 0 1,H.alloc []):=rfl
theorem BX {z:Value} {H:AHeap} {k:IntKind} {n:Int}:tV 1 1 [z] [(0,1, .int k n)] H=some (S H.n 0 1 1,H.alloc [.int k n]):=rfl
theorem BZ {z:Value} {H:AHeap} {k k':IntKind} {n m:Int}:tV 1 2 [z] [(0,1, .int k n),(1,1, .int k' m)] H=some (S H.n 0 2 1,H.alloc [.int k n, .int k' m]):=rfl
def mkV (e bytes:Nat) (z:List Value) (l c:Value) (H:AHeap):Option (Value×AHeap):=
 match l,c with
 | .int _ l, .int _ c=>if 0≤l∧l≤c∧c*bytes≤140737488355328∧c≤9223372036854775807 then some (S H.n 0 l.toNat e,H.alloc (repl z c.toNat)) else none
 | _,_=>none
theorem Cb {e:Nat} {z:List Value} {k:IntKind} {n:Int} {H:AHeap} (h:0≤n∧n≤1000000000000):mkV e 8 z (.int k n) (.int k n) H=some (S H.n 0 n.toNat e,H.alloc (repl z n.toNat)):=by
 simp only [mkV]
 rw [if_pos (by omega)]
def mO (n:Nat) (a v:Value) (H:AHeap):Option (Value×AHeap):=
 match a with
 | .pointer (some ⟨b,o,none⟩)=>
  (match H.get b with
  |some blk=>
   if blk.rw=true∧(cellsL v).length=n∧o+n≤blk.cells.length∧(cellsL v).all (·.oneCell')=true
   then some (undef,H.set b (splice blk.cells o (cellsL v))) else none
  |none=>none)
 | _=>none
def stB (blk:Option Blk) (H:AHeap) (b o n:Nat) (v:Value):Option (Value×AHeap):=
 match blk with
 |some blk=>
  if blk.rw=true∧(cellsL v).length=n∧o+n≤blk.cells.length∧(cellsL v).all (·.oneCell')=true
  then some (undef,H.set b (splice blk.cells o (cellsL v))) else none
 |none=>none
theorem Cc {H:AHeap} {b o n:Nat} {v:Value}:mO n (P b o) v H=stB (H.get b) H b o n v:=by simp only [mO,stB]
theorem Ce {H:AHeap} {b o:Nat} {xs:List Int} {rest:List Value} {n:Int} (hl:o<xs.length):stB (some ⟨xs.map I++rest,true⟩) H b o 1 (I n)=some (undef,H.set b ((xs.set o n).map I++rest)):=by
 simp only [stB,cellsL,List.length_singleton]
 rw [if_pos ⟨trivial,trivial,by simp;omega,rfl⟩,xq hl]
theorem tX {a b:Value}:foldV max2 [a,b]=max2 a b:=by
 simp only [foldV]
 cases max2 a b<;>simp [foldV]
theorem tY {k:IntKind} {x y:Int}:max2 (.int k x) (.int k y)=some (.int k (if y>x then y else x)):=by simp [max2]
section
variable {k:IntKind} {a b:Int}
theorem tZ:aBin .add (.int k a) (.int k b)=some (.int k (k.wrap (a+b))):=by simp [aBin]
theorem uf:aBin .sub (.int k a) (.int k b)=some (.int k (k.wrap (a-b))):=by simp [aBin]
theorem ug:aBin .mul (.int k a) (.int k b)=some (.int k (k.wrap (a*b))):=by simp [aBin]
theorem uh:aBin .quo (.int k a) (.int k b)=if b=0 then none else some (.int k (k.wrap (a.tdiv b))):=by simp [aBin]
theorem uj:aBin .rem (.int k a) (.int k b)=if b=0 then none else some (.int k (a.tmod b)):=by simp [aBin]
theorem um:aBin .eql (.int k a) (.int k b)=some (.bool (decide (a=b))):=by simp [aBin,Oe]
theorem uo:aBin .neq (.int k a) (.int k b)=some (.bool (decide (¬a=b))):=by simp [aBin,Og]
theorem uq:aBin .lss (.int k a) (.int k b)=some (.bool (decide (a<b))):=by simp [aBin]
theorem uw:aBin .leq (.int k a) (.int k b)=some (.bool (decide (a≤b))):=by simp [aBin]
theorem uy:aBin .gtr (.int k a) (.int k b)=some (.bool (decide (b<a))):=by simp [aBin]
theorem uz:aBin .geq (.int k a) (.int k b)=some (.bool (decide (b≤a))):=by simp [aBin]
theorem Ci:aBin .and (.int k a) (.int k b)=some (.int k (k.wrap ((BitVec.ofInt k.bits a&&&BitVec.ofInt k.bits b).toNat:Int))):=by simp [aBin]
theorem Cj:aBin .xor (.int k a) (.int k b)=some (.int k (k.wrap ((BitVec.ofInt k.bits a^^^BitVec.ofInt k.bits b).toNat:Int))):=by simp [aBin]
theorem Cm {k':IntKind} (h: ¬b<0):aBin .shl (.int k a) (.int k' b)=some (.int k (k.wrap (a*2^(min b.toNat k.bits)))):=by
 simp only [aBin,aSh,if_neg h,ite_self]
theorem CB {k':IntKind} (h: ¬b<0):aBin .shr (.int k a) (.int k' b)=some (.int k (a.fdiv (2^(min b.toNat k.bits)))):=by
 simp only [aBin,aSh,if_neg h,ite_self]
end
section
variable {d:Option Nat} {t:Option Nat} {r:List AOper} {K:Fr→AHeap→Prop} {f:Fr} {H:AHeap}
theorem oI:opsT d [] K f H=K f H:=rfl
theorem oJ {o:AOp} {g:Nat} {b:Bool}:opsT d (⟨t,o,some (g,b)⟩::r) K f H=(if oG b (f g)=true then opsT d (⟨t,o,none⟩::r) K f H else opsT (dn d) r K (updO f t undef) H):=by
 have hw:wantedA (some (g,b)) f=oG b (f g):=by simp only [wantedA];cases f g<;>rfl
 rw [opsT]
 simp only [hw]
 split
 ·conv=>rhs;rw [opsT]
  simp [wantedA]
 ·rfl
theorem oK {g:Nat} {as:List Opd}:opsT d (⟨t, .call g as,none⟩::r) K f H=iI g (as.map (ev f)) H (sK d t r K f H):=by
 rw [opsT]
 simp [wantedA,dn,sK]
 rfl
theorem fO {o:AOp} (h1: ∀n a v,o≠ .store n a v) (h2: ∀e b s x,o≠ .append e b s x) (h3: ∀g as,o≠ .call g as) (h4: ∀g as,o≠ .callv g as) (h5:(∀n a v fl,o≠ .storeF n a v fl)∧(∀e b s x fl,o≠ .appendF e b s x fl)∧ ∀qs x k,o≠ .mapPut qs x k):opsT d (⟨t,o,none⟩::r) K f H=dh (aOp o (ev f) H) (dW d t r K f):=by
 rw [opsT]
 simp only [wantedA,if_true]
 cases o<;>first|rfl|exact absurd rfl (h1 _ _ _)|exact absurd rfl (h2 _ _ _ _)|exact absurd rfl (h3 _ _)|exact absurd rfl (h4 _ _)|exact absurd rfl (h5.1 _ _ _ _)|exact absurd rfl (h5.2.1 _ _ _ _ _)|exact absurd rfl (h5.2.2 _ _ _)
theorem oL {n:Nat} {a v:Opd}:opsT d (⟨t, .store n a v,none⟩::r) K f H=(dP d=false∧dh (mO n (ev f a) (ev f v) H) (dW d t r K f)):=by
 have h:aOp (.store n a v) (ev f) H=mO n (ev f a) (ev f v) H:=by simp only [aOp,mO];rfl
 rw [opsT]
 simp only [wantedA,if_true,dh,h]
 cases mO n (ev f a) (ev f v) H<;>simp [dn,dW]
theorem oN {e b:Nat} {s x:Opd}:opsT d (⟨t, .append e b s x,none⟩::r) K f H=(dP d=false∧dh (aAppend e b (ev f s) (ev f x) H) (dW d t r K f)):=by
 have h:aOp (.append e b s x) (ev f) H=aAppend e b (ev f s) (ev f x) H:=by simp only [aOp]
 rw [opsT]
 simp only [wantedA,if_true,dh,h]
 cases aAppend e b (ev f s) (ev f x) H<;>simp [dn,dW]
theorem oO {x:Opd}:opsT d (⟨t, .move x,none⟩::r) K f H=opsT (dn d) r K (updO f t (ev f x)) H:=by
 rw [fO (by simp) (by simp) (by simp) (by simp) (by simp)];rfl
theorem bD {o:AOp} {w:Option Value} (h1: ∀n a v,o≠ .store n a v) (h2: ∀e b s x,o≠ .append e b s x) (h3: ∀g as,o≠ .call g as) (h4: ∀g as,o≠ .callv g as) (h5:(∀n a v fl,o≠ .storeF n a v fl)∧(∀e b s x fl,o≠ .appendF e b s x fl)∧ ∀qs x k,o≠ .mapPut qs x k) (h:aOp o (ev f) H=w.map fun v=>(v,H)):opsT d (⟨t,o,none⟩::r) K f H=aU w (aW d t r K f H):=by
 rw [fO h1 h2 h3 h4 h5,h]
 show dh _ _=_
 rw [Oi]
 rfl
theorem oQ {c a b:Opd}:opsT d (⟨t, .pick c a b,none⟩::r) K f H=aU (oH (ev f c) (ev f a) (ev f b)) (aW d t r K f H):=
 bD (by simp) (by simp) (by simp) (by simp) (by simp) (by simp only [aOp];cases ev f c<;>rfl)
theorem oU {op:BinOp} {x y:Opd}:opsT d (⟨t, .bin op x y,none⟩::r) K f H=aU (aBin op (ev f x) (ev f y)) (aW d t r K f H):=
 bD (by simp) (by simp) (by simp) (by simp) (by simp) (by rfl)
theorem oV {x:Opd}:opsT d (⟨t, .not x,none⟩::r) K f H=aU (xu (ev f x)) (aW d t r K f H):=
 bD (by simp) (by simp) (by simp) (by simp) (by simp) (by simp only [aOp];cases ev f x<;>rfl)
theorem oW {x:Opd}:opsT d (⟨t, .neg x,none⟩::r) K f H=aU (xw (ev f x)) (aW d t r K f H):=
 bD (by simp) (by simp) (by simp) (by simp) (by simp) (by simp only [aOp];cases ev f x<;>rfl)
theorem oZ {k:IntKind} {x:Opd}:opsT d (⟨t, .conv k x,none⟩::r) K f H=aU (xA k (ev f x)) (aW d t r K f H):=
 bD (by simp) (by simp) (by simp) (by simp) (by simp) (by simp only [aOp];cases ev f x<;>rfl)
theorem o7 {n:Bool} {x y:Opd}:opsT d (⟨t, .eqb n x y,none⟩::r) K f H=aU (tu n (ev f x) (ev f y)) (aW d t r K f H):=
 bD (by simp) (by simp) (by simp) (by simp) (by simp) (by simp only [aOp];cases ev f x<;>cases ev f y<;>rfl)
theorem o8 {x:Opd}:opsT d (⟨t, .len x,none⟩::r) K f H=aU (lenV (ev f x)) (aW d t r K f H):=
 bD (by simp) (by simp) (by simp) (by simp) (by simp) (by simp only [aOp];cases ev f x<;>rfl)
theorem o9 {x:Opd} {j:Nat}:opsT d (⟨t, .extract x j,none⟩::r) K f H=aU (jZ j (ev f x)) (aW d t r K f H):=
 bD (by simp) (by simp) (by simp) (by simp) (by simp) (by simp only [aOp];cases ev f x<;>rfl)
theorem pq {xs:List Opd}:opsT d (⟨t, .max xs,none⟩::r) K f H=aU (foldV max2 (xs.map (ev f))) (aW d t r K f H):=
 bD (by simp) (by simp) (by simp) (by simp) (by simp) (by rfl)
theorem pz {xs:List Opd}:opsT d (⟨t, .min xs,none⟩::r) K f H=aU (foldV min2 (xs.map (ev f))) (aW d t r K f H):=
 bD (by simp) (by simp) (by simp) (by simp) (by simp) (by rfl)
def xC (neg:Bool):Value→Option Value
 | .slice a _ _=>some (.bool (if neg then !a.isNone else a.isNone))
 | _=>none
theorem CG {n e:Nat}:xC false (.slice none n e)=some (.bool true):=rfl
theorem CJ {b o n e:Nat}:xC false (S b o n e)=some (.bool false):=rfl
theorem pF {n:Bool} {x:Opd}:opsT d (⟨t, .eqn n x,none⟩::r) K f H=aU (xC n (ev f x)) (aW d t r K f H):=
 bD (by simp) (by simp) (by simp) (by simp) (by simp) (by simp only [aOp];cases ev f x<;>rfl)
theorem pG {e:Nat} {x i:Opd}:opsT d (⟨t, .indexAddr none e x i,none⟩::r) K f H=aU (tK e (ev f x) (ev f i)) (aW d t r K f H):=
 bD (by simp) (by simp) (by simp) (by simp) (by simp) (by
  simp only [aOp]
  generalize ev f x=vx
  generalize ev f i=vi
  cases vx<;>try rfl
  rename_i a n e'
  cases a<;>try rfl
  rename_i a
  obtain ⟨b,o,sp⟩:=a
  cases sp<;>cases vi<;>try rfl
  simp only [intOf,tK]
  split<;>rfl)
theorem pI {n:Option Nat} {a:Opd}:opsT d (⟨t, .load n a,none⟩::r) K f H=aU (tN n H (ev f a)) (aW d t r K f H):=
 bD (by simp) (by simp) (by simp) (by simp) (by simp) (by
  simp only [aOp,tN]
  repeat' split
  all_goals simp_all)
theorem pJ {e:Nat} {x:Opd} {lo hi:Option Opd}:opsT d (⟨t, .slice e x lo hi,none⟩::r) K f H=aU (mM e (ev f x) (lo.map (ev f)) (hi.map (ev f))) (aW d t r K f H):=
 bD (by simp) (by simp) (by simp) (by simp) (by simp) (by
  have hc:=fun len=>Oj (f:=f) (len:=len) (lo:=lo) (hi:=hi)
  simp only [aOp]
  generalize ev f x=vx
  cases vx<;>try rfl
  rename_i a n e'
  cases a with
  |none=>
   cases n<;>cases e'<;>try rfl
   simp only [mM,hc]
   rw [Option.map_map]
   rfl
  |some a=>
   obtain ⟨b,o,sp⟩:=a
   cases sp<;>try rfl
   simp only [mM,hc]
   split<;>simp [Option.map_map,Function.comp_def])
theorem pK {e n:Nat} {z:List Value} {p:List (Nat×Nat×Opd)}:opsT d (⟨t, .buildSlice e n z p,none⟩::r) K f H=dh (tV e n z (p.map fun p=>(p.1,p.2.1,ev f p.2.2)) H) (dW d t r K f):=by
 rw [fO (by simp) (by simp) (by simp) (by simp) (by simp)];rfl
theorem pO {e b:Nat} {z:List Value} {l c:Opd}:opsT d (⟨t, .makeSlice e b z l c,none⟩::r) K f H=dh (mkV e b z (ev f l) (ev f c) H) (dW d t r K f):=by
 rw [fO (by simp) (by simp) (by simp) (by simp) (by simp)]
 simp only [aOp,mkV]
 rfl
end
theorem Ext.out {lo hi:Nat} {H0 H H':AHeap} (h:Ext H0 H) (ho:Out lo hi H H') (hl:H0.n≤lo):Ext H0 H':=⟨Nat.le_trans h.n ho.n,fun b hb=>(ho.get b (Nat.lt_of_lt_of_le hb h.n) (.inl (by omega))).trans (h.get b hb)⟩
theorem RF:(type_of% @upd_apply)∧(type_of% @rM)∧(type_of% @rO)∧(type_of% @rP)∧(type_of% @rQ)∧(type_of% @rJ):=⟨@upd_apply, @rM, @rO, @rP, @rQ, @rJ⟩
theorem RO:(type_of% @oI)∧(type_of% @oJ)∧(type_of% @oK)∧(type_of% @oL)∧(type_of% @oN)∧(type_of% @oO)∧(type_of% @oQ)∧(type_of% @oU)∧(type_of% @oV)∧(type_of% @oW)∧(type_of% @oZ)∧(type_of% @o7)∧(type_of% @pF)∧(type_of% @CG)∧(type_of% @CJ)∧(type_of% @o8)∧(type_of% @o9)∧(type_of% @pq)∧(type_of% @pz)∧(type_of% @pG)∧(type_of% @pI)∧(type_of% @pJ)∧(type_of% @pK)∧(type_of% @pO)∧(type_of% @oz)∧(type_of% @ou)∧(type_of% @BG)∧(type_of% @sH)∧(type_of% @sJ)∧(type_of% @sN)∧(type_of% @sO)∧(type_of% @oC)∧(type_of% @BI)∧(type_of% @oD)∧(type_of% @sQ)∧(type_of% @sS)∧(type_of% @BJ)∧(type_of% @BK)∧(type_of% @BL)∧(type_of% @sU)∧(type_of% @sV)∧(type_of% @sW)∧(type_of% @sZ)∧(type_of% @tq)∧(type_of% @tC)∧(type_of% @tH)∧(type_of% @BM)∧(type_of% @tJ)∧(type_of% @ext1)∧(type_of% @BN)∧(type_of% @BO)∧(type_of% @BP)∧(type_of% @BQ)∧(type_of% @BR)∧(type_of% @BU)∧(type_of% @BX)∧(type_of% @BZ)∧(type_of% @Cc)∧(type_of% @tX)∧(type_of% @tY)∧(type_of% @tZ)∧(type_of% @uf)∧(type_of% @ug)∧(type_of% @uh)∧(type_of% @uj)∧(type_of% @um)∧(type_of% @uo)∧(type_of% @uq)∧(type_of% @uw)∧(type_of% @uy)∧(type_of% @uz):=⟨@oI, @oJ, @oK, @oL, @oN, @oO, @oQ, @oU, @oV, @oW, @oZ, @o7, @pF, @CG, @CJ, @o8, @o9, @pq, @pz, @pG, @pI, @pJ, @pK, @pO, @oz, @ou, @BG, @sH, @sJ, @sN, @sO, @oC, @BI, @oD, @sQ, @sS, @BJ, @BK, @BL, @sU, @sV, @sW, @sZ, @tq, @tC, @tH, @BM, @tJ, @ext1, @BN, @BO, @BP, @BQ, @BR, @BU, @BX, @BZ, @Cc, @tX, @tY, @tZ, @uf, @ug, @uh, @uj, @um, @uo, @uq, @uw, @uy, @uz⟩
theorem RC:(type_of% @List.map_cons.{0,0})∧(type_of% @List.map_nil.{0,0})∧(type_of% @Option.map_some.{0,0})∧(type_of% @Option.map_none.{0,0})∧(type_of% @ge_iff_le.{0})∧(type_of% @gt_iff_lt.{0})∧(type_of% @decide_eq_true_eq)∧(type_of% @beq_self_eq_true.{0})∧(type_of% @bne_self_eq_false.{0})∧(type_of% @decide_true)∧(type_of% @decide_false)∧(type_of% @Bool.not_true)∧(type_of% @Bool.not_false)∧(type_of% @and_true)∧(type_of% @true_and)∧(type_of% @and_self)∧(type_of% @Bool.false_eq_true)∧(type_of% @beq_iff_eq.{0})∧(type_of% @Int.natCast_nonneg)∧(type_of% @Int.ofNat_lt)∧(type_of% @Int.ofNat_le)∧(type_of% @Int.ofNat_inj)∧(type_of% @Int.toNat_natCast)∧(type_of% @Nat.mul_one)∧(type_of% @Nat.one_mul)∧(type_of% @Nat.zero_add)∧(type_of% @Nat.add_zero)∧(type_of% @Nat.sub_zero)∧(type_of% @List.length_append.{0})∧(type_of% @List.length_map.{0,0})∧(type_of% @List.length_cons.{0})∧(type_of% @List.length_nil.{0})∧(type_of% @List.all_cons.{0})∧(type_of% @List.all_nil.{0})∧(type_of% @Bool.and_true)∧(type_of% @Bool.true_and)∧(type_of% @Bool.not_eq_true)∧(type_of% @beq_true)∧(type_of% @beq_false)∧(type_of% @true_implies)∧(type_of% @false_implies)∧(type_of% @decide_eq_false_iff_not)∧(type_of% @bne_iff_ne.{0})∧(type_of% @ne_eq.{1})∧(type_of% @not_true_eq_false)∧(type_of% @not_false_eq_true)∧(type_of% @Int.natCast_zero)∧(type_of% @Int.toNat_zero):=⟨@List.map_cons.{0,0}, @List.map_nil.{0,0}, @Option.map_some.{0,0}, @Option.map_none.{0,0}, @ge_iff_le.{0}, @gt_iff_lt.{0}, @decide_eq_true_eq, @beq_self_eq_true.{0}, @bne_self_eq_false.{0}, @decide_true, @decide_false, @Bool.not_true, @Bool.not_false, @and_true, @true_and, @and_self, @Bool.false_eq_true, @beq_iff_eq.{0}, @Int.natCast_nonneg, @Int.ofNat_lt, @Int.ofNat_le, @Int.ofNat_inj, @Int.toNat_natCast, @Nat.mul_one, @Nat.one_mul, @Nat.zero_add, @Nat.add_zero, @Nat.sub_zero, @List.length_append.{0}, @List.length_map.{0,0}, @List.length_cons.{0}, @List.length_nil.{0}, @List.all_cons.{0}, @List.all_nil.{0}, @Bool.and_true, @Bool.true_and, @Bool.not_eq_true, @beq_true, @beq_false, @true_implies, @false_implies, @decide_eq_false_iff_not, @bne_iff_ne.{0}, @ne_eq.{1}, @not_true_eq_false, @not_false_eq_true, @Int.natCast_zero, @Int.toNat_zero⟩
theorem RD:(type_of% @rW)∧(type_of% @rX)∧(type_of% @Ce)∧(type_of% @Cb)∧(type_of% @rU)∧(type_of% @rY)∧(type_of% @rZ)∧(type_of% @su)∧(type_of% @sD)∧(type_of% @sF)∧(type_of% @sG)∧(type_of% @xq)∧(type_of% @BD):=⟨@rW, @rX, @Ce, @Cb, @rU, @rY, @rZ, @su, @sD, @sF, @sG, @xq, @BD⟩
theorem RN:(type_of% @aB)∧(type_of% @og)∧(type_of% @oh)∧(type_of% @oq)∧(type_of% @Bq)∧(type_of% @Bv)∧(type_of% @Bz):=⟨@aB, @og, @oh, @oq, @Bq, @Bv, @Bz⟩
end Go.Am
