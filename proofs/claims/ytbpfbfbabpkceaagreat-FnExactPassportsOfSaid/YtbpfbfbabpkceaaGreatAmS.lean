/- Slices of whole numbers in the small machine's memory, and more rules. -/
import Derived.Test.YtbpfbfbabpkceaaGreatAmT
set_option linter.unusedVariables false
set_option linter.unusedSimpArgs false
namespace Go.Am
open Go
theorem zY (t:Nat):frame0 [] t=undef:=by simp [frame0]
theorem zZ (a:Value) (as:List Value):frame0 (a::as) 0=a:=rfl
theorem Aa (a b:Value) (as:List Value):frame0 (a::b::as) 1=b:=rfl
theorem Ac (a b c:Value) (as:List Value):frame0 (a::b::c::as) 2=c:=rfl
theorem Ad (a b c d:Value) (as:List Value):frame0 (a::b::c::d::as) 3=d:=rfl
theorem wW {n:Int} (h0: -9223372036854775808≤n) (h1:n<9223372036854775808):IntKind.i64.wrap n=n:=by
 have hb:(2:Int)^(64:Nat)=18446744073709551616:=by decide
 have hb':(2:Int)^(63:Nat)=9223372036854775808:=by decide
 simp only [IntKind.wrap,IntKind.bits,IntKind.signed,hb,hb']
 simp only [Bool.true_and,decide_eq_true_eq]
 omega
theorem aB {a b c:ACode} {Q:Ex→Fr→AHeap→Prop} {f:Fr} {H:AHeap}:T (.seq (.seq a b) c) Q f H=T (.seq a (.seq b c)) Q f H:=by
 refine propext ⟨fun h=>?_,WV⟩
 obtain ⟨ex,f',H',h1,h2⟩:=h
 cases h1 with
 |seqN hab hc=>
  cases hab with
  |seqN ha hb=>exact ⟨_,_,_, .seqN ha (.seqN hb hc),h2⟩
  |seqX ha hne=>exact absurd rfl hne
 |seqX hab hne=>
  cases hab with
  |seqN ha hb=>exact ⟨_,_,_, .seqN ha (.seqX hb hne),h2⟩
  |seqX ha hne=>exact ⟨_,_,_, .seqX ha hne,h2⟩
theorem wX {b:ACode} {Q:Ex→Fr→AHeap→Prop} {f:Fr} {H:AHeap}:T (.seq .skip b) Q f H=T b Q f H:=by
 refine propext ⟨fun h=>?_,WW⟩
 obtain ⟨ex,f',H',h1,h2⟩:=h
 cases h1 with
 |seqN ha hb=>cases ha;exact ⟨_,_,_,hb,h2⟩
 |seqX ha hne=>cases ha;exact absurd rfl hne
theorem wY {b:ACode} {Q:Ex→Fr→AHeap→Prop} {f:Fr} {H:AHeap}:T (.seq .ret b) Q f H=T .ret Q f H:=by
 refine propext ⟨fun h=>?_,fun h=>?_⟩
 ·obtain ⟨ex,f',H',h1,h2⟩:=h
  cases h1 with
  |seqN ha hb=>cases ha
  |seqX ha hne=>exact ⟨_,_,_,ha,h2⟩
 ·obtain ⟨ex,f',H',h1,h2⟩:=h
  cases h1
  exact ⟨_,_,_, .seqX .ret (by simp),h2⟩
theorem wZ {i:Nat} {b:ACode} {Q:Ex→Fr→AHeap→Prop} {f:Fr} {H:AHeap}:T (.seq (.exit i) b) Q f H=Q (.exit i) f H:=by
 refine propext ⟨fun h=>?_,fun h=>⟨_,_,_, .seqX .exit (by simp),h⟩⟩
 obtain ⟨ex,f',H',h1,h2⟩:=h
 cases h1 with
 |seqN ha hb=>cases ha
 |seqX ha hne=>cases ha;exact h2
theorem Jz {Q:Ex→Fr→AHeap→Prop} {f:Fr} {H:AHeap}:T .ret Q f H=Q .ret f H:=by
 refine propext ⟨fun h=>?_,fun h=>⟨_,_,_, .ret,h⟩⟩
 obtain ⟨ex,f',H',h1,h2⟩:=h
 cases h1;exact h2
theorem JA {i:Nat} {Q:Ex→Fr→AHeap→Prop} {f:Fr} {H:AHeap}:T (.exit i) Q f H=Q (.exit i) f H:=by
 refine propext ⟨fun h=>?_,fun h=>⟨_,_,_, .exit,h⟩⟩
 obtain ⟨ex,f',H',h1,h2⟩:=h
 cases h1;exact h2
theorem JB {Q:Ex→Fr→AHeap→Prop} {f:Fr} {H:AHeap}:T .skip Q f H=Q .normal f H:=by
 refine propext ⟨fun h=>?_,fun h=>⟨_,_,_, .skip,h⟩⟩
 obtain ⟨ex,f',H',h1,h2⟩:=h
 cases h1;exact h2
theorem aW {id:Nat} {a rest:ACode} {Q:Ex→Fr→AHeap→Prop} {f:Fr} {H:AHeap} (J:Nat→Fr→AHeap→Prop) (n:Nat) (h0:J n f H)
  (hr: ∀n f H (R:Ex→Fr→AHeap→Prop),J n f H→(∀m f' H',m<n→J m f' H'→R .normal f' H')→(∀f' H',T rest Q f' H'→R (.exit id) f' H')→(∀f' H',Q .ret f' H'→R .ret f' H')→T a R f H):
  T (.seq (.block id (.loop a)) rest) Q f H:=by
 refine pG (uK (Ey J n h0 fun n f H hJ=>hr n f H _ hJ (fun m f' H' hm h=>⟨m,hm,h⟩) (fun f' H' h=>?_) (fun f' H' h=>h)))
 simp only [dG,bW,if_true]
 exact h
def kQ (id:Nat):ACode→Bool
 | .exit i=> !(i==id)
 | .seq a b=>kQ id a&&kQ id b
 | .cond _ a b=>kQ id a&&kQ id b
 | .block i a=>i==id||kQ id a
 | .loop a=>kQ id a
 | _=>true
theorem oN {id:Nat}: ∀(a:ACode) {f:Fr} {H:AHeap} {ex:Ex} {f':Fr} {H':AHeap},Big Γ X a f H ex f' H'→kQ id a=true→ex≠ .exit id
 | .skip,_,_,_,_,_,h,_=>by cases h;simp
 | .region _ _,_,_,_,_,_,h,_=>by cases h;simp
 | .ret,_,_,_,_,_,h,_=>by cases h;simp
 | .exit i,_,_,_,_,_,h,hn=>by
  cases h
  simp only [kQ,Bool.not_eq_true',beq_eq_false_iff_ne] at hn
  intro he
  cases he
  exact hn rfl
 | .seq a b,_,_,_,_,_,h,hn=>by
  simp only [kQ,Bool.and_eq_true] at hn
  cases h with
  |seqN _ hb=>exact oN b hb hn.2
  |seqX ha _=>exact oN a ha hn.1
 | .cond c a b,_,_,_,_,_,h,hn=>by
  simp only [kQ,Bool.and_eq_true] at hn
  cases h with
  | @cond _ _ _ _ _ t _ _ _ hc hb=>
   cases t with
   |true=>exact oN a hb hn.1
   |false=>exact oN b hb hn.2
 | .block i a,_,_,_,_,_,h,hn=>by
  simp only [kQ,Bool.or_eq_true,beq_iff_eq] at hn
  cases h with
  |block hb hne=>
   rcases hn with rfl|hn
   ·exact hne
   ·exact oN a hb hn
  |blockX _=>simp
 | .loop a,f,H,ex,f',H',h,hn=>by
  simp only [kQ] at hn
  have ih:=fun {f H ex f' H'} (hb:Big Γ X a f H ex f' H')=>oN (id:=id) a hb hn
  generalize hl:ACode.loop a=l at h
  clear hn
  revert ih hl
  refine Big.rec (motive_1:=fun l f H ex f' H' _=>(∀{f H ex f' H'},Big Γ X a f H ex f' H'→ex≠ .exit id)→ACode.loop a=l→ex≠ .exit id) (motive_2:=fun _ _ _ _ _ _ _=>True) (motive_3:=fun _ _ _ _ _ _=>True) (motive_4:=fun _ _ _ _ _ _=>True)
   ?_ ?_ ?_ ?_ ?_ ?_ ?_ ?_ ?_ ?_ ?_ ?_ ?_ ?_ ?_ ?_ ?_ ?_ ?_ ?_ h
  case refine_8=>intro a' _ _ _ _ _ _ _ _ _ _ h2 ih hl;exact h2 ih hl
  case refine_9=>intro a' _ _ _ _ _ h1 _ _ ih hl;cases hl;exact ih h1
  all_goals intros;first|trivial|contradiction
theorem fV {id:Nat} {a b:ACode} {Q:Ex→Fr→AHeap→Prop} {f:Fr} {H:AHeap} (hn:kQ id a=true) (h:T (.seq a b) Q f H):T (.seq (.block id a) b) Q f H:=by
 obtain ⟨ex,f',H',h1,h2⟩:=h
 cases h1 with
 |seqN ha hb=>exact ⟨_,_,_, .seqN (.block ha (by simp)) hb,h2⟩
 |seqX ha hne=>exact ⟨_,_,_, .seqX (.block ha (oN a ha hn)) hne,h2⟩
theorem fZ {id:Nat} {a:ACode} {Q:Ex→Fr→AHeap→Prop} {f:Fr} {H:AHeap} (hn:kQ id a=true) (h:T a Q f H):T (.block id a) Q f H:=by
 obtain ⟨ex,f',H',h1,h2⟩:=h
 exact ⟨_,_,_, .block h1 (oN a h1 hn),h2⟩
theorem aga {g:Nat} {as as':List Value} {H H':AHeap} {K:Value→AHeap→Prop} (h1:as=as') (h2:H=H'):mW g as H K=mW g as' H' K:=by rw [h1,h2]
def el (xs:List Int) (k:Nat):Int:=xs.getD k 0
def mV (H:AHeap) (v:Value) (xs:List Int):Prop:=
 (v= .slice none 0 0∧xs=[])∨ ∃b o blk,v=S b o xs.length 1∧b<H.n∧H.get b=some blk∧o+xs.length≤blk.cells.length∧ ∀i,i<xs.length→blk.cells[o+i]? =some (I (el xs i))
def kF (lo hi:Nat) (H:AHeap) (v:Value) (xs:List Int):Prop:=
 (v= .slice none 0 0∧xs=[])∨ ∃b rest,v=S b 0 xs.length 1∧lo≤b∧b<hi∧b<H.n∧H.get b=some ⟨xs.map I++rest,true⟩
section
variable {H H':AHeap} {v:Value} {xs:List Int} {lo hi:Nat}
theorem mV.len (h:mV H v xs): ∃a e,v= .slice a xs.length e:=by
 rcases h with ⟨rfl,rfl⟩|⟨b,o,blk,rfl,_⟩
 ·exact ⟨_,_,rfl⟩
 ·exact ⟨_,_,rfl⟩
theorem mV.pos (h:mV H v xs) (hp:0<xs.length): ∃b o blk,v=S b o xs.length 1∧b<H.n∧H.get b=some blk∧o+xs.length≤blk.cells.length∧ ∀i,i<xs.length→blk.cells[o+i]? =some (I (el xs i)):=by
 rcases h with ⟨rfl,rfl⟩|h
 ·simp at hp
 ·exact h
theorem mV.ext (h:mV H v xs) (he:Ext H H'):mV H' v xs:=by
 rcases h with h|⟨b,o,blk,h1,h2,h3,h4,h5⟩
 ·exact .inl h
 ·exact .inr ⟨b,o,blk,h1,Nat.lt_of_lt_of_le h2 he.n,by rw [he.get b h2];exact h3,h4,h5⟩
theorem kF.is (h:kF lo hi H v xs):mV H v xs:=by
 rcases h with h|⟨b,rest,h1,h2,h3,h4,h5⟩
 ·exact .inl h
 ·refine .inr ⟨b,0,_,h1,h4,h5,by simp,fun i hi=>?_⟩
  simp [List.getElem?_append_left,hi,List.getD,el]
theorem kF.len (h:kF lo hi H v xs): ∃a e,v= .slice a xs.length e:=h.is.len
theorem kF.ext (h:kF lo hi H v xs) (he:Ext H H'):kF lo hi H' v xs:=by
 rcases h with h|⟨b,rest,h1,h2,h3,h4,h5⟩
 ·exact .inl h
 ·exact .inr ⟨b,rest,h1,h2,h3,Nat.lt_of_lt_of_le h4 he.n,by rw [he.get b h4];exact h5⟩
theorem kF.weak (h:kF lo hi H v xs) {lo' hi':Nat} (hn:lo'≤lo) (hh:hi≤hi'):kF lo' hi' H v xs:=by
 rcases h with h|⟨b,rest,h1,h2,h3,h4,h5⟩
 ·exact .inl h
 ·exact .inr ⟨b,rest,h1,Nat.le_trans hn h2,Nat.lt_of_lt_of_le h3 hh,h4,h5⟩
theorem kF.nil:kF lo hi H (.slice none 0 0) []:= .inl ⟨rfl,rfl⟩
structure Out (lo hi:Nat) (H H':AHeap):Prop where
 n:H.n≤H'.n
 get: ∀b,b<H.n→b<lo∨hi≤b→H'.get b=H.get b
theorem Out.refl:Out lo hi H H:=⟨Nat.le_refl _,fun _ _ _=>rfl⟩
theorem Out.ext (h:Out lo hi H H') (hl:H.n≤lo):Ext H H':=⟨h.n,fun b hb=>h.get b hb (.inl (by omega))⟩
theorem kF.out {lo' hi':Nat} (h:kF lo hi H v xs) (he:Out lo' hi' H H') (hd:hi≤lo'∨hi'≤lo):kF lo hi H' v xs:=by
 rcases h with h|⟨b,rest,h1,h2,h3,h4,h5⟩
 ·exact .inl h
 ·exact .inr ⟨b,rest,h1,h2,h3,Nat.lt_of_lt_of_le h4 he.n,by rw [he.get b h4 (by omega)];exact h5⟩
end
theorem WX {xs ys:List Int} (hl:xs.length=ys.length) (h: ∀i,i<xs.length→el xs i=el ys i):xs=ys:=by
 apply List.ext_getElem hl
 intro i h1 h2
 have:=h i h1
 simpa [el,List.getD,h1,h2] using this
def marks (k:Int) (n:Nat):List Int:=(List.range n).map fun (i:Nat)=>k+(i:Int)
theorem mV.nil {H:AHeap}:mV H (.slice none 0 0) []:= .inl ⟨rfl,rfl⟩
theorem Ae {p:Prop} [Decidable p] (h:p):decide p=true:=decide_eq_true h
theorem Af {p:Prop} [Decidable p] (h: ¬p):decide p=false:=decide_eq_false h
theorem Ag {p q:Prop} [Decidable p] [Decidable q] {α:Type} {a b:α} (h:p∧q):(if p∧q then a else b)=a:=if_pos h
theorem Ah {p q:Int} {α:Type} {a b:α} (h:p≤q):(if p≤q then a else b)=a:=if_pos h
theorem Ai {p q:Int} {α:Type} {a b:α} (h:p<q):(if p<q then a else b)=a:=if_pos h
theorem Aj {p q:Int} {α:Type} {a b:α} (h: ¬p<q):(if p<q then a else b)=b:=if_neg h
theorem Ak {p q:Nat} {α:Type} {a b:α} (h:p≤q):(if p≤q then a else b)=a:=if_pos h
theorem Ap {p q:Nat} {α:Type} {a b:α} (h:p<q):(if p<q then a else b)=a:=if_pos h
theorem kF.pos {lo hi:Nat} {H:AHeap} {v:Value} {xs:List Int} (h:kF lo hi H v xs) (hp:0<xs.length): ∃b rest,v=S b 0 xs.length 1∧lo≤b∧b<hi∧b<H.n∧H.get b=some ⟨xs.map I++rest,true⟩:=by
 rcases h with ⟨rfl,rfl⟩|h
 ·simp at hp
 ·exact h
theorem JC (v:Value) (n:Nat):repl [v] n=List.replicate n v:=by
 simp only [repl]
 induction n with
 |zero=>rfl
 |succ n ih=>simp [List.replicate_succ,ih]
theorem agb (H:AHeap) (n:Nat):kF H.n (H.n+1) (H.alloc (repl [.int .i64 0] n)) (S H.n 0 n 1) (List.replicate n 0):=by
 refine .inr ⟨H.n,[],by simp,Nat.le_refl _,Nat.lt_succ_self _,Nat.lt_succ_self _,?_⟩
 rw [WY,JC]
 simp
theorem Ez {xs:List Int} {rest:List Value} {k:Nat} {y:Int} (h:k<xs.length):splice (xs.map I++rest) k [I y]=(xs.set k y).map I++rest:=by
 simp only [splice,List.length_singleton]
 rw [List.take_append_of_le_length (by simp;omega),List.drop_append_of_le_length (by simp;omega),List.set_eq_take_append_cons_drop]
 simp [h,List.map_take,List.map_drop]
theorem JD {xs:List Int} {rest:List Value} {k:Nat} (h:k<xs.length):(xs.map I++rest)[k]? =some (I (el xs k)):=by
 simp [List.getElem?_append_left,h,el,List.getD]
theorem agc {xs:List Int} {k:Nat} {y:Int} (h:k<xs.length):el (xs.set k y) k=y:=by simp [el,List.getD,h]
theorem agd {xs:List Int} {k i:Nat} {y:Int} (h:k≠i):el (xs.set k y) i=el xs i:=by simp [el,List.getD,h]
theorem Out.set {lo hi:Nat} {H H':AHeap} (h:Out lo hi H H') {b:Nat} (hb:lo≤b∧b<hi) (cs:List Value):Out lo hi H (H'.set b cs):=⟨h.n,fun x hx ho=>by rw [JE _ _ _ _ (by omega)];exact h.get x hx ho⟩
theorem agf {v:Value}:fillL (repl [v] 0) []=some []:=rfl
theorem agh {v:Value} {k:IntKind} {n:Int}:fillL (repl [v] 1) [(0,1, .int k n)]=some [.int k n]:=rfl
theorem WZ {a b:Int}:(a==b)=decide (a=b):=by rw [Bool.eq_iff_iff];simp
theorem W9 {a b:Int}:(a !=b)=decide (¬a=b):=by rw [Bool.eq_iff_iff];simp
def fO (o:Option (Value×AHeap)) (k:Value→AHeap→Prop):Prop:=
 match o with
 |some (v,H)=>k v H
 |none=>False
theorem Xa {v:Value} {H:AHeap} {k:Value→AHeap→Prop}:fO (some (v,H)) k=k v H:=rfl
theorem agi {o o':Option (Value×AHeap)} {k:Value→AHeap→Prop} (h:o=o'):fO o k=fO o' k:=by rw [h]
def bJ (o:Option Value) (k:Value→Prop):Prop:=
 match o with
 |some v=>k v
 |none=>False
theorem agj {v:Value} {k:Value→Prop}:bJ (some v) k=k v:=rfl
theorem agk {o o':Option Value} {k:Value→Prop} (h:o=o'):bJ o k=bJ o' k:=by rw [h]
theorem Xb {o:Option Value} {H:AHeap} {k:Value→AHeap→Prop}:fO (o.map fun v=>(v,H)) k=bJ o fun v=>k v H:=by cases o<;>rfl
def dn (d:Option Nat):Option Nat:=d.map (· -1)
theorem Aq:dn none=none:=rfl
theorem Ar {n:Nat}:dn (some n)=some (n-1):=rfl
def bQ (d t:Option Nat) (r:List AOper) (K:Fr→AHeap→Prop) (f:Fr) (H:AHeap):Value→Prop:=fun v=>opsT (dn d) r K (updO f t v) H
def iE (d t:Option Nat) (r:List AOper) (K:Fr→AHeap→Prop) (f:Fr):Value→AHeap→Prop:=fun v H=>opsT (dn d) r K (updO f t v) H
def Au (d t:Option Nat) (r:List AOper) (K:Fr→AHeap→Prop) (f:Fr) (H:AHeap):Value→AHeap→Prop:=fun v H'=>(gX d=true→Ext H H')∧opsT (dn d) r K (updO f t v) H'
theorem xg {d t:Option Nat} {r:List AOper} {K:Fr→AHeap→Prop} {f:Fr} {H:AHeap} {v:Value}:bJ (some v) (bQ d t r K f H)=opsT (dn d) r K (updO f t v) H:=rfl
theorem xk {d t:Option Nat} {r:List AOper} {K:Fr→AHeap→Prop} {f:Fr} {H:AHeap} {v:Value}:fO (some (v,H)) (iE d t r K f)=opsT (dn d) r K (updO f t v) H:=rfl
theorem JF {d t:Option Nat} {r:List AOper} {K:Fr→AHeap→Prop} {f:Fr} {H H':AHeap} {v:Value}:Au d t r K f H v H'=((gX d=true→Ext H H')∧opsT (dn d) r K (updO f t v) H'):=rfl
theorem Aw:gX none=false:=rfl
theorem Az {n:Nat}:gX (some n)=decide (0<n):=rfl
theorem xq {f:Fr} {n:Nat}:ev f (.t n)=f n:=rfl
theorem JG {f:Fr} {v:Value}:ev f (.c v)=v:=rfl
theorem xu {f:Fr} {n:Nat}:ev f (.f n)= .func (.func n) #[] #[]:=rfl
theorem AA {f:Fr} {n:Nat} {v:Value}:updO f (some n) v=upd f n v:=rfl
theorem AB {f:Fr} {v:Value}:updO f none v=f:=rfl
def xw (b:Bool):Value→Bool
 | .bool x=>x==b
 | _=>false
theorem JH {x:Bool}:xw true (.bool x)=x:=by cases x<;>rfl
theorem JI {x:Bool}:xw false (.bool x)= !x:=by cases x<;>rfl
theorem JJ {b:Bool}:xw b undef=false:=rfl
def xA:Value→Value→Value→Option Value
 | .bool t,a,b=>some (if t then a else b)
 | _,_,_=>none
theorem AL {a b:Value}:xA (.bool true) a b=some a:=rfl
theorem AO {a b:Value}:xA (.bool false) a b=some b:=rfl
theorem agl {t x y:Bool}:xA (.bool t) (.bool x) (.bool y)=some (.bool ((t&&x)||(!t&&y))):=by cases t<;>cases x<;>cases y<;>rfl
def EC:Value→Option Value
 | .bool b=>some (.bool !b)
 | _=>none
theorem AP {b:Bool}:EC (.bool b)=some (.bool !b):=rfl
def ED:Value→Option Value
 | .int k n=>some (.int k (k.wrap (0-n)))
 | _=>none
theorem AQ {k:IntKind} {n:Int}:ED (.int k n)=some (.int k (k.wrap (0-n))):=rfl
def EF (k:IntKind):Value→Option Value
 | .int _ n=>some (.int k (k.wrap n))
 | _=>none
theorem AU {k k':IntKind} {n:Int}:EF k (.int k' n)=some (.int k (k.wrap n)):=rfl
def AV (neg:Bool):Value→Value→Option Value
 | .bool a, .bool b=>some (.bool (if neg then !(a==b) else (a==b)))
 | _,_=>none
theorem AX {a b:Bool}:AV false (.bool a) (.bool b)=some (.bool (a==b)):=rfl
theorem AY {a b:Bool}:AV true (.bool a) (.bool b)=some (.bool !(a==b)):=rfl
def lenV:Value→Option Value
 | .slice _ n _=>some (.int .i64 n)
 | _=>none
theorem JK {a:Option Addr} {n e:Nat}:lenV (.slice a n e)=some (.int .i64 n):=rfl
def qH (j:Nat):Value→Option Value
 | .tuple vs=>vs[j]?
 | _=>none
theorem agm {j:Nat} {vs:List Value}:qH j (.tuple ⟨vs⟩)=vs[j]? :=by simp [qH]
theorem AZ {a:Value} {l:List Value}:qH 0 (.tuple ⟨a::l⟩)=some a:=by simp [qH]
theorem ext1 {a b:Value} {l:List Value}:qH 1 (.tuple ⟨a::b::l⟩)=some b:=by simp [qH]
def A8 (e:Nat):Value→Value→Option Value
 | .slice (some ⟨b,o,none⟩) len e', .int _ i=>if 0≤i∧i<len∧e'=e then some (P b (o+i.toNat*e)) else none
 | _,_=>none
theorem JL {b o len e:Nat} {k:IntKind} {i:Int}:A8 e (S b o len e) (.int k i)=if 0≤i∧i<len then some (P b (o+i.toNat*e)) else none:=by simp [A8]
def Ba (n:Option Nat) (H:AHeap):Value→Option Value
 | .pointer (some ⟨b,o,none⟩)=>(match H.get b with|some blk=>getN n blk.cells o|none=>none)
 | _=>none
def EG (blk:Option Blk) (o:Nat):Option Value:=
 match blk with
 |some blk=>blk.cells[o]?
 |none=>none
theorem JM {H:AHeap} {b o:Nat}:Ba none H (P b o)=EG (H.get b) o:=by simp only [Ba,EG];cases H.get b<;>rfl
theorem JO {blk:Blk} {o:Nat}:EG (some blk) o=blk.cells[o]? :=rfl
def uM (e:Nat) (x:Value) (lo hi:Option Value):Option Value:=
 match x with
 | .slice (some ⟨b,o,none⟩) len e'=>if e'=e then (cutOf (fun| .c v=>v| _=>undef) len (lo.map .c) (hi.map .c)).map fun (l,h)=>S b (o+l*e) (h-l) e else none
 | .slice none 0 0=>(cutOf (fun| .c v=>v| _=>undef) 0 (lo.map .c) (hi.map .c)).map fun _=> .slice none 0 0
 | _=>none
theorem Xc {f:Fr} {len:Nat} {lo hi:Option Opd}:cutOf (fun| .c v=>v| _=>undef) len ((lo.map (ev f)).map .c) ((hi.map (ev f)).map .c)=cutOf (ev f) len lo hi:=by
 cases lo<;>cases hi<;>rfl
theorem JQ {b o len e:Nat} {k:IntKind} {h:Int}:uM e (S b o len e) none (some (.int k h))=if 0≤h∧h≤len then some (S b o h.toNat e) else none:=by
 simp only [uM,if_true,Option.map_none,Option.map_some,cutOf,intOf]
 by_cases hh:0≤h∧h≤len
 ·simp [hh]
 ·rw [if_neg hh,if_neg (by omega)];rfl
theorem JR {e:Nat} {k:IntKind}:uM e (.slice none 0 0) none (some (.int k 0))=some (.slice none 0 0):=rfl
def Bc (e n:Nat) (z:List Value) (parts:List (Nat×Nat×Value)) (H:AHeap):Option (Value×AHeap):=
 if n*e≤16777216 then (fillL (repl z n) parts).map fun cs=>(S H.n 0 n e,H.alloc cs) else none
theorem JU {z:Value} {H:AHeap}:Bc 1 0 [z] [] H=some (S H.n 0 0 1,H.alloc []):=rfl
theorem JV {z:Value} {H:AHeap} {k:IntKind} {n:Int}:Bc 1 1 [z] [(0,1, .int k n)] H=some (S H.n 0 1 1,H.alloc [.int k n]):=rfl
theorem JW {z:Value} {H:AHeap} {k k':IntKind} {n m:Int}:Bc 1 2 [z] [(0,1, .int k n),(1,1, .int k' m)] H=some (S H.n 0 2 1,H.alloc [.int k n, .int k' m]):=rfl
def mkV (e bytes:Nat) (z:List Value) (l c:Value) (H:AHeap):Option (Value×AHeap):=
 match l,c with
 | .int _ l, .int _ c=>if 0≤l∧l≤c∧c*bytes≤140737488355328∧c≤9223372036854775807 then some (S H.n 0 l.toNat e,H.alloc (repl z c.toNat)) else none
 | _,_=>none
theorem JX {e:Nat} {z:List Value} {k:IntKind} {n:Int} {H:AHeap} (h:0≤n∧n≤1000000000000):mkV e 8 z (.int k n) (.int k n) H=some (S H.n 0 n.toNat e,H.alloc (repl z n.toNat)):=by
 simp only [mkV]
 rw [if_pos (by omega)]
def uN (n:Nat) (a v:Value) (H:AHeap):Option (Value×AHeap):=
 match a with
 | .pointer (some ⟨b,o,none⟩)=>
  (match H.get b with
  |some blk=>
   if blk.rw=true∧(cellsL v).length=n∧o+n≤blk.cells.length∧(cellsL v).all (·.oneCell')=true
   then some (undef,H.set b (splice blk.cells o (cellsL v))) else none
  |none=>none)
 | _=>none
def stB (blk:Option Blk) (H:AHeap) (b o n:Nat) (v:Value):Option (Value×AHeap):=
 match blk with
 |some blk=>
  if blk.rw=true∧(cellsL v).length=n∧o+n≤blk.cells.length∧(cellsL v).all (·.oneCell')=true
  then some (undef,H.set b (splice blk.cells o (cellsL v))) else none
 |none=>none
theorem JY {H:AHeap} {b o n:Nat} {v:Value}:uN n (P b o) v H=stB (H.get b) H b o n v:=by simp only [uN,stB]
theorem JZ {H:AHeap} {b o:Nat} {xs:List Int} {rest:List Value} {n:Int} (hl:o<xs.length):stB (some ⟨xs.map I++rest,true⟩) H b o 1 (I n)=some (undef,H.set b ((xs.set o n).map I++rest)):=by
 simp only [stB,cellsL,List.length_singleton]
 rw [if_pos ⟨trivial,trivial,by simp;omega,rfl⟩,Ez hl]
theorem Bd {a b:Value}:foldV max2 [a,b]=max2 a b:=by
 simp only [foldV]
 cases max2 a b<;>simp [foldV]
theorem Bf {k:IntKind} {x y:Int}:max2 (.int k x) (.int k y)=some (.int k (if y>x then y else x)):=by simp [max2]
section
variable {k:IntKind} {a b:Int}
theorem Bg:aBin .add (.int k a) (.int k b)=some (.int k (k.wrap (a+b))):=by simp [aBin]
theorem Bh:aBin .sub (.int k a) (.int k b)=some (.int k (k.wrap (a-b))):=by simp [aBin]
theorem Bj:aBin .mul (.int k a) (.int k b)=some (.int k (k.wrap (a*b))):=by simp [aBin]
theorem Bl:aBin .quo (.int k a) (.int k b)=if b=0 then none else some (.int k (k.wrap (a.tdiv b))):=by simp [aBin]
theorem Bo:aBin .rem (.int k a) (.int k b)=if b=0 then none else some (.int k (a.tmod b)):=by simp [aBin]
theorem Bq:aBin .eql (.int k a) (.int k b)=some (.bool (decide (a=b))):=by simp [aBin,WZ]
theorem Bv:aBin .neq (.int k a) (.int k b)=some (.bool (decide (¬a=b))):=by simp [aBin,W9]
theorem Bz:aBin .lss (.int k a) (.int k b)=some (.bool (decide (a<b))):=by simp [aBin]
theorem BA:aBin .leq (.int k a) (.int k b)=some (.bool (decide (a≤b))):=by simp [aBin]
theorem BD:aBin .gtr (.int k a) (.int k b)=some (.bool (decide (b<a))):=by simp [aBin]
theorem BF:aBin .geq (.int k a) (.int k b)=some (.bool (decide (b≤a))):=by simp [aBin]
theorem J3:aBin .and (.int k a) (.int k b)=some (.int k (k.wrap ((BitVec.ofInt k.bits a&&&BitVec.ofInt k.bits b).toNat:Int))):=by simp [aBin]
theorem J4:aBin .xor (.int k a) (.int k b)=some (.int k (k.wrap ((BitVec.ofInt k.bits a^^^BitVec.ofInt k.bits b).toNat:Int))):=by simp [aBin]
theorem J5 {k':IntKind} (h: ¬b<0):aBin .shl (.int k a) (.int k' b)=some (.int k (k.wrap (a*2^(min b.toNat k.bits)))):=by
 simp only [aBin,aSh,if_neg h,ite_self]
theorem J6 {k':IntKind} (h: ¬b<0):aBin .shr (.int k a) (.int k' b)=some (.int k (a.fdiv (2^(min b.toNat k.bits)))):=by
 simp only [aBin,aSh,if_neg h,ite_self]
end
section
variable {d:Option Nat} {t:Option Nat} {r:List AOper} {K:Fr→AHeap→Prop} {f:Fr} {H:AHeap}
theorem xB:opsT d [] K f H=K f H:=rfl
theorem xC {o:AOp} {g:Nat} {b:Bool}:opsT d (⟨t,o,some (g,b)⟩::r) K f H=(if xw b (f g)=true then opsT d (⟨t,o,none⟩::r) K f H else opsT (dn d) r K (updO f t undef) H):=by
 have hw:wantedA (some (g,b)) f=xw b (f g):=by simp only [wantedA];cases f g<;>rfl
 rw [opsT]
 simp only [hw]
 split
 ·conv=>rhs;rw [opsT]
  simp [wantedA]
 ·rfl
theorem xE {g:Nat} {as:List Opd}:opsT d (⟨t, .call g as,none⟩::r) K f H=mW g (as.map (ev f)) H (Au d t r K f H):=by
 rw [opsT]
 simp [wantedA,dn,Au]
 rfl
theorem jW {o:AOp} (h1: ∀n a v,o≠ .store n a v) (h2: ∀e b s x,o≠ .append e b s x) (h3: ∀g as,o≠ .call g as) (h4: ∀g as,o≠ .callv g as) (h5:(∀n a v fl,o≠ .storeF n a v fl)∧(∀e b s x fl,o≠ .appendF e b s x fl)∧(∀qs x k,o≠ .mapPut qs x k)∧ ∀z x,o≠ .kR z x):opsT d (⟨t,o,none⟩::r) K f H=fO (aOp o (ev f) H) (iE d t r K f):=by
 rw [opsT]
 simp only [wantedA,if_true]
 cases o<;>first|rfl|exact absurd rfl (h1 _ _ _)|exact absurd rfl (h2 _ _ _ _)|exact absurd rfl (h3 _ _)|exact absurd rfl (h4 _ _)|exact absurd rfl (h5.1 _ _ _ _)|exact absurd rfl (h5.2.1 _ _ _ _ _)|exact absurd rfl (h5.2.2.1 _ _ _)|exact absurd rfl (h5.2.2.2 _ _)
theorem xF {n:Nat} {a v:Opd}:opsT d (⟨t, .store n a v,none⟩::r) K f H=(gX d=false∧fO (uN n (ev f a) (ev f v) H) (iE d t r K f)):=by
 have h:aOp (.store n a v) (ev f) H=uN n (ev f a) (ev f v) H:=by simp only [aOp,uN];rfl
 rw [opsT]
 simp only [wantedA,if_true,fO,h]
 cases uN n (ev f a) (ev f v) H<;>simp [dn,iE]
theorem xG {e b:Nat} {s x:Opd}:opsT d (⟨t, .append e b s x,none⟩::r) K f H=(gX d=false∧fO (aAppend e b (ev f s) (ev f x) H) (iE d t r K f)):=by
 have h:aOp (.append e b s x) (ev f) H=aAppend e b (ev f s) (ev f x) H:=by simp only [aOp]
 rw [opsT]
 simp only [wantedA,if_true,fO,h]
 cases aAppend e b (ev f s) (ev f x) H<;>simp [dn,iE]
theorem xH {x:Opd}:opsT d (⟨t, .move x,none⟩::r) K f H=opsT (dn d) r K (updO f t (ev f x)) H:=by
 rw [jW (by simp) (by simp) (by simp) (by simp) (by simp)];rfl
theorem dB {o:AOp} {w:Option Value} (h1: ∀n a v,o≠ .store n a v) (h2: ∀e b s x,o≠ .append e b s x) (h3: ∀g as,o≠ .call g as) (h4: ∀g as,o≠ .callv g as) (h5:(∀n a v fl,o≠ .storeF n a v fl)∧(∀e b s x fl,o≠ .appendF e b s x fl)∧(∀qs x k,o≠ .mapPut qs x k)∧ ∀z x,o≠ .kR z x) (h:aOp o (ev f) H=w.map fun v=>(v,H)):opsT d (⟨t,o,none⟩::r) K f H=bJ w (bQ d t r K f H):=by
 rw [jW h1 h2 h3 h4 h5,h]
 show fO _ _=_
 rw [Xb]
 rfl
theorem xI {c a b:Opd}:opsT d (⟨t, .pick c a b,none⟩::r) K f H=bJ (xA (ev f c) (ev f a) (ev f b)) (bQ d t r K f H):=
 dB (by simp) (by simp) (by simp) (by simp) (by simp) (by simp only [aOp];cases ev f c<;>rfl)
theorem xJ {op:BinOp} {x y:Opd}:opsT d (⟨t, .bin op x y,none⟩::r) K f H=bJ (aBin op (ev f x) (ev f y)) (bQ d t r K f H):=
 dB (by simp) (by simp) (by simp) (by simp) (by simp) (by rfl)
theorem xK {x:Opd}:opsT d (⟨t, .not x,none⟩::r) K f H=bJ (EC (ev f x)) (bQ d t r K f H):=
 dB (by simp) (by simp) (by simp) (by simp) (by simp) (by simp only [aOp];cases ev f x<;>rfl)
theorem xM {x:Opd}:opsT d (⟨t, .neg x,none⟩::r) K f H=bJ (ED (ev f x)) (bQ d t r K f H):=
 dB (by simp) (by simp) (by simp) (by simp) (by simp) (by simp only [aOp];cases ev f x<;>rfl)
theorem xO {k:IntKind} {x:Opd}:opsT d (⟨t, .conv k x,none⟩::r) K f H=bJ (EF k (ev f x)) (bQ d t r K f H):=
 dB (by simp) (by simp) (by simp) (by simp) (by simp) (by simp only [aOp];cases ev f x<;>rfl)
theorem xP {n:Bool} {x y:Opd}:opsT d (⟨t, .eqb n x y,none⟩::r) K f H=bJ (AV n (ev f x) (ev f y)) (bQ d t r K f H):=
 dB (by simp) (by simp) (by simp) (by simp) (by simp) (by simp only [aOp];cases ev f x<;>cases ev f y<;>rfl)
theorem xQ {x:Opd}:opsT d (⟨t, .len x,none⟩::r) K f H=bJ (lenV (ev f x)) (bQ d t r K f H):=
 dB (by simp) (by simp) (by simp) (by simp) (by simp) (by simp only [aOp];cases ev f x<;>rfl)
theorem xR {x:Opd} {j:Nat}:opsT d (⟨t, .extract x j,none⟩::r) K f H=bJ (qH j (ev f x)) (bQ d t r K f H):=
 dB (by simp) (by simp) (by simp) (by simp) (by simp) (by simp only [aOp];cases ev f x<;>rfl)
theorem xU {xs:List Opd}:opsT d (⟨t, .max xs,none⟩::r) K f H=bJ (foldV max2 (xs.map (ev f))) (bQ d t r K f H):=
 dB (by simp) (by simp) (by simp) (by simp) (by simp) (by rfl)
theorem xW {xs:List Opd}:opsT d (⟨t, .min xs,none⟩::r) K f H=bJ (foldV min2 (xs.map (ev f))) (bQ d t r K f H):=
 dB (by simp) (by simp) (by simp) (by simp) (by simp) (by rfl)
def EH (neg:Bool):Value→Option Value
 | .slice a _ _=>some (.bool (if neg then !a.isNone else a.isNone))
 | _=>none
theorem J7 {n e:Nat}:EH false (.slice none n e)=some (.bool true):=rfl
theorem J8 {b o n e:Nat}:EH false (S b o n e)=some (.bool false):=rfl
theorem xX {n:Bool} {x:Opd}:opsT d (⟨t, .eqn n x,none⟩::r) K f H=bJ (EH n (ev f x)) (bQ d t r K f H):=
 dB (by simp) (by simp) (by simp) (by simp) (by simp) (by simp only [aOp];cases ev f x<;>rfl)
theorem xY {e:Nat} {x i:Opd}:opsT d (⟨t, .indexAddr none e x i,none⟩::r) K f H=bJ (A8 e (ev f x) (ev f i)) (bQ d t r K f H):=
 dB (by simp) (by simp) (by simp) (by simp) (by simp) (by
  simp only [aOp]
  generalize ev f x=vx
  generalize ev f i=vi
  cases vx<;>try rfl
  rename_i a n e'
  cases a<;>try rfl
  rename_i a
  obtain ⟨b,o,sp⟩:=a
  cases sp<;>cases vi<;>try rfl
  simp only [intOf,A8]
  split<;>rfl)
theorem xZ {n:Option Nat} {a:Opd}:opsT d (⟨t, .load n a,none⟩::r) K f H=bJ (Ba n H (ev f a)) (bQ d t r K f H):=
 dB (by simp) (by simp) (by simp) (by simp) (by simp) (by
  simp only [aOp,Ba]
  repeat' split
  all_goals simp_all)
theorem yc {e:Nat} {x:Opd} {lo hi:Option Opd}:opsT d (⟨t, .slice e x lo hi,none⟩::r) K f H=bJ (uM e (ev f x) (lo.map (ev f)) (hi.map (ev f))) (bQ d t r K f H):=
 dB (by simp) (by simp) (by simp) (by simp) (by simp) (by
  have hc:=fun len=>Xc (f:=f) (len:=len) (lo:=lo) (hi:=hi)
  simp only [aOp]
  generalize ev f x=vx
  cases vx<;>try rfl
  rename_i a n e'
  cases a with
  |none=>
   cases n<;>cases e'<;>try rfl
   simp only [uM,hc]
   rw [Option.map_map]
   rfl
  |some a=>
   obtain ⟨b,o,sp⟩:=a
   cases sp<;>try rfl
   simp only [uM,hc]
   split<;>simp [Option.map_map,Function.comp_def])
theorem yg {e n:Nat} {z:List Value} {p:List (Nat×Nat×Opd)}:opsT d (⟨t, .buildSlice e n z p,none⟩::r) K f H=fO (Bc e n z (p.map fun p=>(p.1,p.2.1,ev f p.2.2)) H) (iE d t r K f):=by
 rw [jW (by simp) (by simp) (by simp) (by simp) (by simp)];rfl
theorem yh {e b:Nat} {z:List Value} {l c:Opd}:opsT d (⟨t, .makeSlice e b z l c,none⟩::r) K f H=fO (mkV e b z (ev f l) (ev f c) H) (iE d t r K f):=by
 rw [jW (by simp) (by simp) (by simp) (by simp) (by simp)]
 simp only [aOp,mkV]
 rfl
end
theorem Ext.out {lo hi:Nat} {H0 H H':AHeap} (h:Ext H0 H) (ho:Out lo hi H H') (hl:H0.n≤lo):Ext H0 H':=⟨Nat.le_trans h.n ho.n,fun b hb=>(ho.get b (Nat.lt_of_lt_of_le hb h.n) (.inl (by omega))).trans (h.get b hb)⟩
theorem RF:(type_of% @upd_apply)∧(type_of% @zZ)∧(type_of% @Aa)∧(type_of% @Ac)∧(type_of% @Ad)∧(type_of% @zY):=⟨@upd_apply, @zZ, @Aa, @Ac, @Ad, @zY⟩
theorem RO:(type_of% @xB)∧(type_of% @xC)∧(type_of% @xE)∧(type_of% @xF)∧(type_of% @xG)∧(type_of% @xH)∧(type_of% @xI)∧(type_of% @xJ)∧(type_of% @xK)∧(type_of% @xM)∧(type_of% @xO)∧(type_of% @xP)∧(type_of% @xX)∧(type_of% @J7)∧(type_of% @J8)∧(type_of% @xQ)∧(type_of% @xR)∧(type_of% @xU)∧(type_of% @xW)∧(type_of% @xY)∧(type_of% @xZ)∧(type_of% @yc)∧(type_of% @yg)∧(type_of% @yh)∧(type_of% @xk)∧(type_of% @xg)∧(type_of% @JF)∧(type_of% @Aq)∧(type_of% @Ar)∧(type_of% @Aw)∧(type_of% @Az)∧(type_of% @xq)∧(type_of% @JG)∧(type_of% @xu)∧(type_of% @AA)∧(type_of% @AB)∧(type_of% @JH)∧(type_of% @JI)∧(type_of% @JJ)∧(type_of% @AL)∧(type_of% @AO)∧(type_of% @AP)∧(type_of% @AQ)∧(type_of% @AU)∧(type_of% @AX)∧(type_of% @AY)∧(type_of% @JK)∧(type_of% @AZ)∧(type_of% @ext1)∧(type_of% @JL)∧(type_of% @JM)∧(type_of% @JO)∧(type_of% @JQ)∧(type_of% @JR)∧(type_of% @JU)∧(type_of% @JV)∧(type_of% @JW)∧(type_of% @JY)∧(type_of% @Bd)∧(type_of% @Bf)∧(type_of% @Bg)∧(type_of% @Bh)∧(type_of% @Bj)∧(type_of% @Bl)∧(type_of% @Bo)∧(type_of% @Bq)∧(type_of% @Bv)∧(type_of% @Bz)∧(type_of% @BA)∧(type_of% @BD)∧(type_of% @BF):=⟨@xB, @xC, @xE, @xF, @xG, @xH, @xI, @xJ, @xK, @xM, @xO, @xP, @xX, @J7, @J8, @xQ, @xR, @xU, @xW, @xY, @xZ, @yc, @yg, @yh, @xk, @xg, @JF, @Aq, @Ar, @Aw, @Az, @xq, @JG, @xu, @AA, @AB, @JH, @JI, @JJ, @AL, @AO, @AP, @AQ, @AU, @AX, @AY, @JK, @AZ, @ext1, @JL, @JM, @JO, @JQ, @JR, @JU, @JV, @JW, @JY, @Bd, @Bf, @Bg, @Bh, @Bj, @Bl, @Bo, @Bq, @Bv, @Bz, @BA, @BD, @BF⟩
theorem RC:(type_of% @List.map_cons.{0,0})∧(type_of% @List.map_nil.{0,0})∧(type_of% @Option.map_some.{0,0})∧(type_of% @Option.map_none.{0,0})∧(type_of% @ge_iff_le.{0})∧(type_of% @gt_iff_lt.{0})∧(type_of% @decide_eq_true_eq)∧(type_of% @beq_self_eq_true.{0})∧(type_of% @bne_self_eq_false.{0})∧(type_of% @decide_true)∧(type_of% @decide_false)∧(type_of% @Bool.not_true)∧(type_of% @Bool.not_false)∧(type_of% @and_true)∧(type_of% @true_and)∧(type_of% @and_self)∧(type_of% @Bool.false_eq_true)∧(type_of% @beq_iff_eq.{0})∧(type_of% @Int.natCast_nonneg)∧(type_of% @Int.ofNat_lt)∧(type_of% @Int.ofNat_le)∧(type_of% @Int.ofNat_inj)∧(type_of% @Int.toNat_natCast)∧(type_of% @Nat.mul_one)∧(type_of% @Nat.one_mul)∧(type_of% @Nat.zero_add)∧(type_of% @Nat.add_zero)∧(type_of% @Nat.sub_zero)∧(type_of% @List.length_append.{0})∧(type_of% @List.length_map.{0,0})∧(type_of% @List.length_cons.{0})∧(type_of% @List.length_nil.{0})∧(type_of% @List.all_cons.{0})∧(type_of% @List.all_nil.{0})∧(type_of% @Bool.and_true)∧(type_of% @Bool.true_and)∧(type_of% @Bool.not_eq_true)∧(type_of% @beq_true)∧(type_of% @beq_false)∧(type_of% @true_implies)∧(type_of% @false_implies)∧(type_of% @decide_eq_false_iff_not)∧(type_of% @bne_iff_ne.{0})∧(type_of% @ne_eq.{1})∧(type_of% @not_true_eq_false)∧(type_of% @not_false_eq_true)∧(type_of% @Int.natCast_zero)∧(type_of% @Int.toNat_zero):=⟨@List.map_cons.{0,0}, @List.map_nil.{0,0}, @Option.map_some.{0,0}, @Option.map_none.{0,0}, @ge_iff_le.{0}, @gt_iff_lt.{0}, @decide_eq_true_eq, @beq_self_eq_true.{0}, @bne_self_eq_false.{0}, @decide_true, @decide_false, @Bool.not_true, @Bool.not_false, @and_true, @true_and, @and_self, @Bool.false_eq_true, @beq_iff_eq.{0}, @Int.natCast_nonneg, @Int.ofNat_lt, @Int.ofNat_le, @Int.ofNat_inj, @Int.toNat_natCast, @Nat.mul_one, @Nat.one_mul, @Nat.zero_add, @Nat.add_zero, @Nat.sub_zero, @List.length_append.{0}, @List.length_map.{0,0}, @List.length_cons.{0}, @List.length_nil.{0}, @List.all_cons.{0}, @List.all_nil.{0}, @Bool.and_true, @Bool.true_and, @Bool.not_eq_true, @beq_true, @beq_false, @true_implies, @false_implies, @decide_eq_false_iff_not, @bne_iff_ne.{0}, @ne_eq.{1}, @not_true_eq_false, @not_false_eq_true, @Int.natCast_zero, @Int.toNat_zero⟩
theorem RD:(type_of% @Ae)∧(type_of% @Af)∧(type_of% @JZ)∧(type_of% @JX)∧(type_of% @wW)∧(type_of% @Ag)∧(type_of% @Ah)∧(type_of% @Ai)∧(type_of% @Aj)∧(type_of% @Ak)∧(type_of% @Ap)∧(type_of% @Ez)∧(type_of% @JD):=⟨@Ae, @Af, @JZ, @JX, @wW, @Ag, @Ah, @Ai, @Aj, @Ak, @Ap, @Ez, @JD⟩
theorem RN:(type_of% @aB)∧(type_of% @wX)∧(type_of% @wY)∧(type_of% @wZ)∧(type_of% @Jz)∧(type_of% @JA)∧(type_of% @JB):=⟨@aB, @wX, @wY, @wZ, @Jz, @JA, @JB⟩
end Go.Am
