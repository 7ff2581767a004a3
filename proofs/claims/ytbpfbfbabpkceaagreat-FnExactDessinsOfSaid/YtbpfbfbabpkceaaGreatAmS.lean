/- Slices of whole numbers in the small machine's memory, and more rules. -/
import Derived.Test.YtbpfbfbabpkceaaGreatAmT
set_option linter.unusedVariables false
set_option linter.unusedSimpArgs false
namespace Go.Am
open Go
theorem yD (t:Nat):frame0 [] t=undef:=by simp [frame0]
theorem yE (a:Value) (as:List Value):frame0 (a::as) 0=a:=rfl
theorem yF (a b:Value) (as:List Value):frame0 (a::b::as) 1=b:=rfl
theorem yG (a b c:Value) (as:List Value):frame0 (a::b::c::as) 2=c:=rfl
theorem yH (a b c d:Value) (as:List Value):frame0 (a::b::c::d::as) 3=d:=rfl
theorem uT {n:Int} (h0: -9223372036854775808≤n) (h1:n<9223372036854775808):IntKind.i64.wrap n=n:=by
 have hb:(2:Int)^(64:Nat)=18446744073709551616:=by decide
 have hb':(2:Int)^(63:Nat)=9223372036854775808:=by decide
 simp only [IntKind.wrap,IntKind.bits,IntKind.signed,hb,hb']
 simp only [Bool.true_and,decide_eq_true_eq]
 omega
theorem aA {a b c:ACode} {Q:Ex→Fr→AHeap→Prop} {f:Fr} {H:AHeap}:T (.seq (.seq a b) c) Q f H=T (.seq a (.seq b c)) Q f H:=by
 refine propext ⟨fun h=>?_,Uk⟩
 obtain ⟨ex,f',H',h1,h2⟩:=h
 cases h1 with
 |seqN hab hc=>
  cases hab with
  |seqN ha hb=>exact ⟨_,_,_, .seqN ha (.seqN hb hc),h2⟩
  |seqX ha hne=>exact absurd rfl hne
 |seqX hab hne=>
  cases hab with
  |seqN ha hb=>exact ⟨_,_,_, .seqN ha (.seqX hb hne),h2⟩
  |seqX ha hne=>exact ⟨_,_,_, .seqX ha hne,h2⟩
theorem uU {b:ACode} {Q:Ex→Fr→AHeap→Prop} {f:Fr} {H:AHeap}:T (.seq .skip b) Q f H=T b Q f H:=by
 refine propext ⟨fun h=>?_,Ul⟩
 obtain ⟨ex,f',H',h1,h2⟩:=h
 cases h1 with
 |seqN ha hb=>cases ha;exact ⟨_,_,_,hb,h2⟩
 |seqX ha hne=>cases ha;exact absurd rfl hne
theorem uV {b:ACode} {Q:Ex→Fr→AHeap→Prop} {f:Fr} {H:AHeap}:T (.seq .ret b) Q f H=T .ret Q f H:=by
 refine propext ⟨fun h=>?_,fun h=>?_⟩
 ·obtain ⟨ex,f',H',h1,h2⟩:=h
  cases h1 with
  |seqN ha hb=>cases ha
  |seqX ha hne=>exact ⟨_,_,_,ha,h2⟩
 ·obtain ⟨ex,f',H',h1,h2⟩:=h
  cases h1
  exact ⟨_,_,_, .seqX .ret (by simp),h2⟩
theorem uX {i:Nat} {b:ACode} {Q:Ex→Fr→AHeap→Prop} {f:Fr} {H:AHeap}:T (.seq (.exit i) b) Q f H=Q (.exit i) f H:=by
 refine propext ⟨fun h=>?_,fun h=>⟨_,_,_, .seqX .exit (by simp),h⟩⟩
 obtain ⟨ex,f',H',h1,h2⟩:=h
 cases h1 with
 |seqN ha hb=>cases ha
 |seqX ha hne=>cases ha;exact h2
theorem Gu {Q:Ex→Fr→AHeap→Prop} {f:Fr} {H:AHeap}:T .ret Q f H=Q .ret f H:=by
 refine propext ⟨fun h=>?_,fun h=>⟨_,_,_, .ret,h⟩⟩
 obtain ⟨ex,f',H',h1,h2⟩:=h
 cases h1;exact h2
theorem Gv {i:Nat} {Q:Ex→Fr→AHeap→Prop} {f:Fr} {H:AHeap}:T (.exit i) Q f H=Q (.exit i) f H:=by
 refine propext ⟨fun h=>?_,fun h=>⟨_,_,_, .exit,h⟩⟩
 obtain ⟨ex,f',H',h1,h2⟩:=h
 cases h1;exact h2
theorem Gw {Q:Ex→Fr→AHeap→Prop} {f:Fr} {H:AHeap}:T .skip Q f H=Q .normal f H:=by
 refine propext ⟨fun h=>?_,fun h=>⟨_,_,_, .skip,h⟩⟩
 obtain ⟨ex,f',H',h1,h2⟩:=h
 cases h1;exact h2
theorem aS {id:Nat} {a rest:ACode} {Q:Ex→Fr→AHeap→Prop} {f:Fr} {H:AHeap} (J:Nat→Fr→AHeap→Prop) (n:Nat) (h0:J n f H)
  (hr: ∀n f H (R:Ex→Fr→AHeap→Prop),J n f H→(∀m f' H',m<n→J m f' H'→R .normal f' H')→(∀f' H',T rest Q f' H'→R (.exit id) f' H')→(∀f' H',Q .ret f' H'→R .ret f' H')→T a R f H):
  T (.seq (.block id (.loop a)) rest) Q f H:=by
 refine oJ (uY (BR J n h0 fun n f H hJ=>hr n f H _ hJ (fun m f' H' hm h=>⟨m,hm,h⟩) (fun f' H' h=>?_) (fun f' H' h=>h)))
 simp only [aI,aH,if_true]
 exact h
def jX (id:Nat):ACode→Bool
 | .exit i=> !(i==id)
 | .seq a b=>jX id a&&jX id b
 | .cond _ a b=>jX id a&&jX id b
 | .block i a=>i==id||jX id a
 | .loop a=>jX id a
 | _=>true
theorem nO {id:Nat}: ∀(a:ACode) {f:Fr} {H:AHeap} {ex:Ex} {f':Fr} {H':AHeap},Big Γ X a f H ex f' H'→jX id a=true→ex≠ .exit id
 | .skip,_,_,_,_,_,h,_=>by cases h;simp
 | .region _ _,_,_,_,_,_,h,_=>by cases h;simp
 | .ret,_,_,_,_,_,h,_=>by cases h;simp
 | .exit i,_,_,_,_,_,h,hn=>by
  cases h
  simp only [jX,Bool.not_eq_true',beq_eq_false_iff_ne] at hn
  intro he
  cases he
  exact hn rfl
 | .seq a b,_,_,_,_,_,h,hn=>by
  simp only [jX,Bool.and_eq_true] at hn
  cases h with
  |seqN _ hb=>exact nO b hb hn.2
  |seqX ha _=>exact nO a ha hn.1
 | .cond c a b,_,_,_,_,_,h,hn=>by
  simp only [jX,Bool.and_eq_true] at hn
  cases h with
  | @cond _ _ _ _ _ t _ _ _ hc hb=>
   cases t with
   |true=>exact nO a hb hn.1
   |false=>exact nO b hb hn.2
 | .block i a,_,_,_,_,_,h,hn=>by
  simp only [jX,Bool.or_eq_true,beq_iff_eq] at hn
  cases h with
  |block hb hne=>
   rcases hn with rfl|hn
   ·exact hne
   ·exact nO a hb hn
  |blockX _=>simp
 | .loop a,f,H,ex,f',H',h,hn=>by
  simp only [jX] at hn
  have ih:=fun {f H ex f' H'} (hb:Big Γ X a f H ex f' H')=>nO (id:=id) a hb hn
  generalize hl:ACode.loop a=l at h
  clear hn
  revert ih hl
  refine Big.rec (motive_1:=fun l f H ex f' H' _=>(∀{f H ex f' H'},Big Γ X a f H ex f' H'→ex≠ .exit id)→ACode.loop a=l→ex≠ .exit id) (motive_2:=fun _ _ _ _ _ _ _=>True) (motive_3:=fun _ _ _ _ _ _=>True) (motive_4:=fun _ _ _ _ _ _=>True)
   ?_ ?_ ?_ ?_ ?_ ?_ ?_ ?_ ?_ ?_ ?_ ?_ ?_ ?_ ?_ ?_ ?_ ?_ ?_ ?_ h
  case refine_8=>intro a' _ _ _ _ _ _ _ _ _ _ h2 ih hl;exact h2 ih hl
  case refine_9=>intro a' _ _ _ _ _ h1 _ _ ih hl;cases hl;exact ih h1
  all_goals intros;first|trivial|contradiction
theorem cZ {id:Nat} {a b:ACode} {Q:Ex→Fr→AHeap→Prop} {f:Fr} {H:AHeap} (hn:jX id a=true) (h:T (.seq a b) Q f H):T (.seq (.block id a) b) Q f H:=by
 obtain ⟨ex,f',H',h1,h2⟩:=h
 cases h1 with
 |seqN ha hb=>exact ⟨_,_,_, .seqN (.block ha (by simp)) hb,h2⟩
 |seqX ha hne=>exact ⟨_,_,_, .seqX (.block ha (nO a ha hn)) hne,h2⟩
theorem dh {id:Nat} {a:ACode} {Q:Ex→Fr→AHeap→Prop} {f:Fr} {H:AHeap} (hn:jX id a=true) (h:T a Q f H):T (.block id a) Q f H:=by
 obtain ⟨ex,f',H',h1,h2⟩:=h
 exact ⟨_,_,_, .block h1 (nO a h1 hn),h2⟩
theorem adp {g:Nat} {as as':List Value} {H H':AHeap} {K:Value→AHeap→Prop} (h1:as=as') (h2:H=H'):lM g as H K=lM g as' H' K:=by rw [h1,h2]
def el (xs:List Int) (k:Nat):Int:=xs.getD k 0
def kJ (H:AHeap) (v:Value) (xs:List Int):Prop:=
 (v= .slice none 0 0∧xs=[])∨ ∃b o blk,v=S b o xs.length 1∧b<H.n∧H.get b=some blk∧o+xs.length≤blk.cells.length∧ ∀i,i<xs.length→blk.cells[o+i]? =some (I (el xs i))
def jI (lo hi:Nat) (H:AHeap) (v:Value) (xs:List Int):Prop:=
 (v= .slice none 0 0∧xs=[])∨ ∃b rest,v=S b 0 xs.length 1∧lo≤b∧b<hi∧b<H.n∧H.get b=some ⟨xs.map I++rest,true⟩
section
variable {H H':AHeap} {v:Value} {xs:List Int} {lo hi:Nat}
theorem kJ.len (h:kJ H v xs): ∃a e,v= .slice a xs.length e:=by
 rcases h with ⟨rfl,rfl⟩|⟨b,o,blk,rfl,_⟩
 ·exact ⟨_,_,rfl⟩
 ·exact ⟨_,_,rfl⟩
theorem kJ.pos (h:kJ H v xs) (hp:0<xs.length): ∃b o blk,v=S b o xs.length 1∧b<H.n∧H.get b=some blk∧o+xs.length≤blk.cells.length∧ ∀i,i<xs.length→blk.cells[o+i]? =some (I (el xs i)):=by
 rcases h with ⟨rfl,rfl⟩|h
 ·simp at hp
 ·exact h
theorem kJ.ext (h:kJ H v xs) (he:Ext H H'):kJ H' v xs:=by
 rcases h with h|⟨b,o,blk,h1,h2,h3,h4,h5⟩
 ·exact .inl h
 ·exact .inr ⟨b,o,blk,h1,Nat.lt_of_lt_of_le h2 he.n,by rw [he.get b h2];exact h3,h4,h5⟩
theorem jI.is (h:jI lo hi H v xs):kJ H v xs:=by
 rcases h with h|⟨b,rest,h1,h2,h3,h4,h5⟩
 ·exact .inl h
 ·refine .inr ⟨b,0,_,h1,h4,h5,by simp,fun i hi=>?_⟩
  simp [List.getElem?_append_left,hi,List.getD,el]
theorem jI.len (h:jI lo hi H v xs): ∃a e,v= .slice a xs.length e:=h.is.len
theorem jI.ext (h:jI lo hi H v xs) (he:Ext H H'):jI lo hi H' v xs:=by
 rcases h with h|⟨b,rest,h1,h2,h3,h4,h5⟩
 ·exact .inl h
 ·exact .inr ⟨b,rest,h1,h2,h3,Nat.lt_of_lt_of_le h4 he.n,by rw [he.get b h4];exact h5⟩
theorem jI.weak (h:jI lo hi H v xs) {lo' hi':Nat} (hn:lo'≤lo) (hh:hi≤hi'):jI lo' hi' H v xs:=by
 rcases h with h|⟨b,rest,h1,h2,h3,h4,h5⟩
 ·exact .inl h
 ·exact .inr ⟨b,rest,h1,Nat.le_trans hn h2,Nat.lt_of_lt_of_le h3 hh,h4,h5⟩
theorem jI.nil:jI lo hi H (.slice none 0 0) []:= .inl ⟨rfl,rfl⟩
structure Out (lo hi:Nat) (H H':AHeap):Prop where
 n:H.n≤H'.n
 get: ∀b,b<H.n→b<lo∨hi≤b→H'.get b=H.get b
theorem Out.refl:Out lo hi H H:=⟨Nat.le_refl _,fun _ _ _=>rfl⟩
theorem Out.ext (h:Out lo hi H H') (hl:H.n≤lo):Ext H H':=⟨h.n,fun b hb=>h.get b hb (.inl (by omega))⟩
theorem jI.out {lo' hi':Nat} (h:jI lo hi H v xs) (he:Out lo' hi' H H') (hd:hi≤lo'∨hi'≤lo):jI lo hi H' v xs:=by
 rcases h with h|⟨b,rest,h1,h2,h3,h4,h5⟩
 ·exact .inl h
 ·exact .inr ⟨b,rest,h1,h2,h3,Nat.lt_of_lt_of_le h4 he.n,by rw [he.get b h4 (by omega)];exact h5⟩
end
theorem Um {xs ys:List Int} (hl:xs.length=ys.length) (h: ∀i,i<xs.length→el xs i=el ys i):xs=ys:=by
 apply List.ext_getElem hl
 intro i h1 h2
 have:=h i h1
 simpa [el,List.getD,h1,h2] using this
def marks (k:Int) (n:Nat):List Int:=(List.range n).map fun (i:Nat)=>k+(i:Int)
theorem kJ.nil {H:AHeap}:kJ H (.slice none 0 0) []:= .inl ⟨rfl,rfl⟩
theorem yI {p:Prop} [Decidable p] (h:p):decide p=true:=decide_eq_true h
theorem yJ {p:Prop} [Decidable p] (h: ¬p):decide p=false:=decide_eq_false h
theorem yK {p q:Prop} [Decidable p] [Decidable q] {α:Type} {a b:α} (h:p∧q):(if p∧q then a else b)=a:=if_pos h
theorem yL {p q:Int} {α:Type} {a b:α} (h:p≤q):(if p≤q then a else b)=a:=if_pos h
theorem yM {p q:Int} {α:Type} {a b:α} (h:p<q):(if p<q then a else b)=a:=if_pos h
theorem yN {p q:Int} {α:Type} {a b:α} (h: ¬p<q):(if p<q then a else b)=b:=if_neg h
theorem yO {p q:Nat} {α:Type} {a b:α} (h:p≤q):(if p≤q then a else b)=a:=if_pos h
theorem yP {p q:Nat} {α:Type} {a b:α} (h:p<q):(if p<q then a else b)=a:=if_pos h
theorem jI.pos {lo hi:Nat} {H:AHeap} {v:Value} {xs:List Int} (h:jI lo hi H v xs) (hp:0<xs.length): ∃b rest,v=S b 0 xs.length 1∧lo≤b∧b<hi∧b<H.n∧H.get b=some ⟨xs.map I++rest,true⟩:=by
 rcases h with ⟨rfl,rfl⟩|h
 ·simp at hp
 ·exact h
theorem Gx (v:Value) (n:Nat):repl [v] n=List.replicate n v:=by
 simp only [repl]
 induction n with
 |zero=>rfl
 |succ n ih=>simp [List.replicate_succ,ih]
theorem adq (H:AHeap) (n:Nat):jI H.n (H.n+1) (H.alloc (repl [.int .i64 0] n)) (S H.n 0 n 1) (List.replicate n 0):=by
 refine .inr ⟨H.n,[],by simp,Nat.le_refl _,Nat.lt_succ_self _,Nat.lt_succ_self _,?_⟩
 rw [Un,Gx]
 simp
theorem BU {xs:List Int} {rest:List Value} {k:Nat} {y:Int} (h:k<xs.length):splice (xs.map I++rest) k [I y]=(xs.set k y).map I++rest:=by
 simp only [splice,List.length_singleton]
 rw [List.take_append_of_le_length (by simp;omega),List.drop_append_of_le_length (by simp;omega),List.set_eq_take_append_cons_drop]
 simp [h,List.map_take,List.map_drop]
theorem Gy {xs:List Int} {rest:List Value} {k:Nat} (h:k<xs.length):(xs.map I++rest)[k]? =some (I (el xs k)):=by
 simp [List.getElem?_append_left,h,el,List.getD]
theorem adr {xs:List Int} {k:Nat} {y:Int} (h:k<xs.length):el (xs.set k y) k=y:=by simp [el,List.getD,h]
theorem ads {xs:List Int} {k i:Nat} {y:Int} (h:k≠i):el (xs.set k y) i=el xs i:=by simp [el,List.getD,h]
theorem Out.set {lo hi:Nat} {H H':AHeap} (h:Out lo hi H H') {b:Nat} (hb:lo≤b∧b<hi) (cs:List Value):Out lo hi H (H'.set b cs):=⟨h.n,fun x hx ho=>by rw [Gz _ _ _ _ (by omega)];exact h.get x hx ho⟩
theorem adt {v:Value}:fillL (repl [v] 0) []=some []:=rfl
theorem adu {v:Value} {k:IntKind} {n:Int}:fillL (repl [v] 1) [(0,1, .int k n)]=some [.int k n]:=rfl
theorem Uo {a b:Int}:(a==b)=decide (a=b):=by rw [Bool.eq_iff_iff];simp
theorem Ur {a b:Int}:(a !=b)=decide (¬a=b):=by rw [Bool.eq_iff_iff];simp
def eu (o:Option (Value×AHeap)) (k:Value→AHeap→Prop):Prop:=
 match o with
 |some (v,H)=>k v H
 |none=>False
theorem Us {v:Value} {H:AHeap} {k:Value→AHeap→Prop}:eu (some (v,H)) k=k v H:=rfl
theorem adv {o o':Option (Value×AHeap)} {k:Value→AHeap→Prop} (h:o=o'):eu o k=eu o' k:=by rw [h]
def bH (o:Option Value) (k:Value→Prop):Prop:=
 match o with
 |some v=>k v
 |none=>False
theorem adw {v:Value} {k:Value→Prop}:bH (some v) k=k v:=rfl
theorem adx {o o':Option Value} {k:Value→Prop} (h:o=o'):bH o k=bH o' k:=by rw [h]
theorem Ut {o:Option Value} {H:AHeap} {k:Value→AHeap→Prop}:eu (o.map fun v=>(v,H)) k=bH o fun v=>k v H:=by cases o<;>rfl
def dn (d:Option Nat):Option Nat:=d.map (· -1)
theorem yQ:dn none=none:=rfl
theorem yR {n:Nat}:dn (some n)=some (n-1):=rfl
def bJ (d t:Option Nat) (r:List AOper) (K:Fr→AHeap→Prop) (f:Fr) (H:AHeap):Value→Prop:=fun v=>opsT (dn d) r K (updO f t v) H
def gU (d t:Option Nat) (r:List AOper) (K:Fr→AHeap→Prop) (f:Fr):Value→AHeap→Prop:=fun v H=>opsT (dn d) r K (updO f t v) H
def yS (d t:Option Nat) (r:List AOper) (K:Fr→AHeap→Prop) (f:Fr) (H:AHeap):Value→AHeap→Prop:=fun v H'=>(fU d=true→Ext H H')∧opsT (dn d) r K (updO f t v) H'
theorem uZ {d t:Option Nat} {r:List AOper} {K:Fr→AHeap→Prop} {f:Fr} {H:AHeap} {v:Value}:bH (some v) (bJ d t r K f H)=opsT (dn d) r K (updO f t v) H:=rfl
theorem vg {d t:Option Nat} {r:List AOper} {K:Fr→AHeap→Prop} {f:Fr} {H:AHeap} {v:Value}:eu (some (v,H)) (gU d t r K f)=opsT (dn d) r K (updO f t v) H:=rfl
theorem GH {d t:Option Nat} {r:List AOper} {K:Fr→AHeap→Prop} {f:Fr} {H H':AHeap} {v:Value}:yS d t r K f H v H'=((fU d=true→Ext H H')∧opsT (dn d) r K (updO f t v) H'):=rfl
theorem yT:fU none=false:=rfl
theorem yU {n:Nat}:fU (some n)=decide (0<n):=rfl
theorem vk {f:Fr} {n:Nat}:ev f (.t n)=f n:=rfl
theorem GI {f:Fr} {v:Value}:ev f (.c v)=v:=rfl
theorem vw {f:Fr} {n:Nat}:ev f (.f n)= .func (.func n) #[] #[]:=rfl
theorem yV {f:Fr} {n:Nat} {v:Value}:updO f (some n) v=upd f n v:=rfl
theorem yX {f:Fr} {v:Value}:updO f none v=f:=rfl
def vC (b:Bool):Value→Bool
 | .bool x=>x==b
 | _=>false
theorem GK {x:Bool}:vC true (.bool x)=x:=by cases x<;>rfl
theorem GL {x:Bool}:vC false (.bool x)= !x:=by cases x<;>rfl
theorem GN {b:Bool}:vC b undef=false:=rfl
def vF:Value→Value→Value→Option Value
 | .bool t,a,b=>some (if t then a else b)
 | _,_,_=>none
theorem yY {a b:Value}:vF (.bool true) a b=some a:=rfl
theorem yZ {a b:Value}:vF (.bool false) a b=some b:=rfl
theorem ady {t x y:Bool}:vF (.bool t) (.bool x) (.bool y)=some (.bool ((t&&x)||(!t&&y))):=by cases t<;>cases x<;>cases y<;>rfl
def BX:Value→Option Value
 | .bool b=>some (.bool !b)
 | _=>none
theorem y5 {b:Bool}:BX (.bool b)=some (.bool !b):=rfl
def BZ:Value→Option Value
 | .int k n=>some (.int k (k.wrap (0-n)))
 | _=>none
theorem y7 {k:IntKind} {n:Int}:BZ (.int k n)=some (.int k (k.wrap (0-n))):=rfl
def Cb (k:IntKind):Value→Option Value
 | .int _ n=>some (.int k (k.wrap n))
 | _=>none
theorem y8 {k k':IntKind} {n:Int}:Cb k (.int k' n)=some (.int k (k.wrap n)):=rfl
def y9 (neg:Bool):Value→Value→Option Value
 | .bool a, .bool b=>some (.bool (if neg then !(a==b) else (a==b)))
 | _,_=>none
theorem zf {a b:Bool}:y9 false (.bool a) (.bool b)=some (.bool (a==b)):=rfl
theorem zh {a b:Bool}:y9 true (.bool a) (.bool b)=some (.bool !(a==b)):=rfl
def lenV:Value→Option Value
 | .slice _ n _=>some (.int .i64 n)
 | _=>none
theorem GR {a:Option Addr} {n e:Nat}:lenV (.slice a n e)=some (.int .i64 n):=rfl
def pX (j:Nat):Value→Option Value
 | .tuple vs=>vs[j]?
 | _=>none
theorem adz {j:Nat} {vs:List Value}:pX j (.tuple ⟨vs⟩)=vs[j]? :=by simp [pX]
theorem zi {a:Value} {l:List Value}:pX 0 (.tuple ⟨a::l⟩)=some a:=by simp [pX]
theorem ext1 {a b:Value} {l:List Value}:pX 1 (.tuple ⟨a::b::l⟩)=some b:=by simp [pX]
def zk (e:Nat):Value→Value→Option Value
 | .slice (some ⟨b,o,none⟩) len e', .int _ i=>if 0≤i∧i<len∧e'=e then some (P b (o+i.toNat*e)) else none
 | _,_=>none
theorem GU {b o len e:Nat} {k:IntKind} {i:Int}:zk e (S b o len e) (.int k i)=if 0≤i∧i<len then some (P b (o+i.toNat*e)) else none:=by simp [zk]
def zl (n:Option Nat) (H:AHeap):Value→Option Value
 | .pointer (some ⟨b,o,none⟩)=>(match H.get b with|some blk=>getN n blk.cells o|none=>none)
 | _=>none
def Cc (blk:Option Blk) (o:Nat):Option Value:=
 match blk with
 |some blk=>blk.cells[o]?
 |none=>none
theorem GV {H:AHeap} {b o:Nat}:zl none H (P b o)=Cc (H.get b) o:=by simp only [zl,Cc];cases H.get b<;>rfl
theorem GX {blk:Blk} {o:Nat}:Cc (some blk) o=blk.cells[o]? :=rfl
def sZ (e:Nat) (x:Value) (lo hi:Option Value):Option Value:=
 match x with
 | .slice (some ⟨b,o,none⟩) len e'=>if e'=e then (cutOf (fun| .c v=>v| _=>undef) len (lo.map .c) (hi.map .c)).map fun (l,h)=>S b (o+l*e) (h-l) e else none
 | .slice none 0 0=>(cutOf (fun| .c v=>v| _=>undef) 0 (lo.map .c) (hi.map .c)).map fun _=> .slice none 0 0
 | _=>none
theorem Uu {f:Fr} {len:Nat} {lo hi:Option Opd}:cutOf (fun| .c v=>v| _=>undef) len ((lo.map (ev f)).map .c) ((hi.map (ev f)).map .c)=cutOf (ev f) len lo hi:=by
 cases lo<;>cases hi<;>rfl
theorem GY {b o len e:Nat} {k:IntKind} {h:Int}:sZ e (S b o len e) none (some (.int k h))=if 0≤h∧h≤len then some (S b o h.toNat e) else none:=by
 simp only [sZ,if_true,Option.map_none,Option.map_some,cutOf,intOf]
 by_cases hh:0≤h∧h≤len
 ·simp [hh]
 ·rw [if_neg hh,if_neg (by omega)];rfl
theorem GZ {e:Nat} {k:IntKind}:sZ e (.slice none 0 0) none (some (.int k 0))=some (.slice none 0 0):=rfl
def zo (e n:Nat) (z:List Value) (parts:List (Nat×Nat×Value)) (H:AHeap):Option (Value×AHeap):=
 if n*e≤16777216 then (fillL (repl z n) parts).map fun cs=>(S H.n 0 n e,H.alloc cs) else none
theorem G5 {z:Value} {H:AHeap}:zo 1 0 [z] [] H=some (S H.n 0 0 1,H.alloc []):=rfl
theorem G6 {z:Value} {H:AHeap} {k:IntKind} {n:Int}:zo 1 1 [z] [(0,1, .int k n)] H=some (S H.n 0 1 1,H.alloc [.int k n]):=rfl
theorem G7 {z:Value} {H:AHeap} {k k':IntKind} {n m:Int}:zo 1 2 [z] [(0,1, .int k n),(1,1, .int k' m)] H=some (S H.n 0 2 1,H.alloc [.int k n, .int k' m]):=rfl
def mkV (e bytes:Nat) (z:List Value) (l c:Value) (H:AHeap):Option (Value×AHeap):=
 match l,c with
 | .int _ l, .int _ c=>if 0≤l∧l≤c∧c*bytes≤140737488355328∧c≤9223372036854775807 then some (S H.n 0 l.toNat e,H.alloc (repl z c.toNat)) else none
 | _,_=>none
theorem G8 {e:Nat} {z:List Value} {k:IntKind} {n:Int} {H:AHeap} (h:0≤n∧n≤1000000000000):mkV e 8 z (.int k n) (.int k n) H=some (S H.n 0 n.toNat e,H.alloc (repl z n.toNat)):=by
 simp only [mkV]
 rw [if_pos (by omega)]
def tq (n:Nat) (a v:Value) (H:AHeap):Option (Value×AHeap):=
 match a with
 | .pointer (some ⟨b,o,none⟩)=>
  (match H.get b with
  |some blk=>
   if blk.rw=true∧(cellsL v).length=n∧o+n≤blk.cells.length∧(cellsL v).all (·.oneCell')=true
   then some (undef,H.set b (splice blk.cells o (cellsL v))) else none
  |none=>none)
 | _=>none
def stB (blk:Option Blk) (H:AHeap) (b o n:Nat) (v:Value):Option (Value×AHeap):=
 match blk with
 |some blk=>
  if blk.rw=true∧(cellsL v).length=n∧o+n≤blk.cells.length∧(cellsL v).all (·.oneCell')=true
  then some (undef,H.set b (splice blk.cells o (cellsL v))) else none
 |none=>none
theorem G9 {H:AHeap} {b o n:Nat} {v:Value}:tq n (P b o) v H=stB (H.get b) H b o n v:=by simp only [tq,stB]
theorem He {H:AHeap} {b o:Nat} {xs:List Int} {rest:List Value} {n:Int} (hl:o<xs.length):stB (some ⟨xs.map I++rest,true⟩) H b o 1 (I n)=some (undef,H.set b ((xs.set o n).map I++rest)):=by
 simp only [stB,cellsL,List.length_singleton]
 rw [if_pos ⟨trivial,trivial,by simp;omega,rfl⟩,BU hl]
theorem zq {a b:Value}:foldV max2 [a,b]=max2 a b:=by
 simp only [foldV]
 cases max2 a b<;>simp [foldV]
theorem zu {k:IntKind} {x y:Int}:max2 (.int k x) (.int k y)=some (.int k (if y>x then y else x)):=by simp [max2]
section
variable {k:IntKind} {a b:Int}
theorem zy:aBin .add (.int k a) (.int k b)=some (.int k (k.wrap (a+b))):=by simp [aBin]
theorem zA:aBin .sub (.int k a) (.int k b)=some (.int k (k.wrap (a-b))):=by simp [aBin]
theorem zB:aBin .mul (.int k a) (.int k b)=some (.int k (k.wrap (a*b))):=by simp [aBin]
theorem zC:aBin .quo (.int k a) (.int k b)=if b=0 then none else some (.int k (k.wrap (a.tdiv b))):=by simp [aBin]
theorem zD:aBin .rem (.int k a) (.int k b)=if b=0 then none else some (.int k (a.tmod b)):=by simp [aBin]
theorem zF:aBin .eql (.int k a) (.int k b)=some (.bool (decide (a=b))):=by simp [aBin,Uo]
theorem zG:aBin .neq (.int k a) (.int k b)=some (.bool (decide (¬a=b))):=by simp [aBin,Ur]
theorem zH:aBin .lss (.int k a) (.int k b)=some (.bool (decide (a<b))):=by simp [aBin]
theorem zI:aBin .leq (.int k a) (.int k b)=some (.bool (decide (a≤b))):=by simp [aBin]
theorem zJ:aBin .gtr (.int k a) (.int k b)=some (.bool (decide (b<a))):=by simp [aBin]
theorem zK:aBin .geq (.int k a) (.int k b)=some (.bool (decide (b≤a))):=by simp [aBin]
theorem Hf:aBin .and (.int k a) (.int k b)=some (.int k (k.wrap ((BitVec.ofInt k.bits a&&&BitVec.ofInt k.bits b).toNat:Int))):=by simp [aBin]
theorem Hg:aBin .xor (.int k a) (.int k b)=some (.int k (k.wrap ((BitVec.ofInt k.bits a^^^BitVec.ofInt k.bits b).toNat:Int))):=by simp [aBin]
theorem Hl {k':IntKind} (h: ¬b<0):aBin .shl (.int k a) (.int k' b)=some (.int k (k.wrap (a*2^(min b.toNat k.bits)))):=by
 simp only [aBin,aSh,if_neg h,ite_self]
theorem Ho {k':IntKind} (h: ¬b<0):aBin .shr (.int k a) (.int k' b)=some (.int k (a.fdiv (2^(min b.toNat k.bits)))):=by
 simp only [aBin,aSh,if_neg h,ite_self]
end
section
variable {d:Option Nat} {t:Option Nat} {r:List AOper} {K:Fr→AHeap→Prop} {f:Fr} {H:AHeap}
theorem vG:opsT d [] K f H=K f H:=rfl
theorem vH {o:AOp} {g:Nat} {b:Bool}:opsT d (⟨t,o,some (g,b)⟩::r) K f H=(if vC b (f g)=true then opsT d (⟨t,o,none⟩::r) K f H else opsT (dn d) r K (updO f t undef) H):=by
 have hw:wantedA (some (g,b)) f=vC b (f g):=by simp only [wantedA];cases f g<;>rfl
 rw [opsT]
 simp only [hw]
 split
 ·conv=>rhs;rw [opsT]
  simp [wantedA]
 ·rfl
theorem vJ {g:Nat} {as:List Opd}:opsT d (⟨t, .call g as,none⟩::r) K f H=lM g (as.map (ev f)) H (yS d t r K f H):=by
 rw [opsT]
 simp [wantedA,dn,yS]
 rfl
theorem jv {o:AOp} (h1: ∀n a v,o≠ .store n a v) (h2: ∀e b s x,o≠ .append e b s x) (h3: ∀g as,o≠ .call g as) (h4: ∀g as,o≠ .callv g as) (h5:(∀n a v fl,o≠ .storeF n a v fl)∧(∀e b s x fl,o≠ .appendF e b s x fl)∧ ∀qs x k,o≠ .mapPut qs x k):opsT d (⟨t,o,none⟩::r) K f H=eu (aOp o (ev f) H) (gU d t r K f):=by
 rw [opsT]
 simp only [wantedA,if_true]
 cases o<;>first|rfl|exact absurd rfl (h1 _ _ _)|exact absurd rfl (h2 _ _ _ _)|exact absurd rfl (h3 _ _)|exact absurd rfl (h4 _ _)|exact absurd rfl (h5.1 _ _ _ _)|exact absurd rfl (h5.2.1 _ _ _ _ _)|exact absurd rfl (h5.2.2 _ _ _)
theorem vK {n:Nat} {a v:Opd}:opsT d (⟨t, .store n a v,none⟩::r) K f H=(fU d=false∧eu (tq n (ev f a) (ev f v) H) (gU d t r K f)):=by
 have h:aOp (.store n a v) (ev f) H=tq n (ev f a) (ev f v) H:=by simp only [aOp,tq];rfl
 rw [opsT]
 simp only [wantedA,if_true,eu,h]
 cases tq n (ev f a) (ev f v) H<;>simp [dn,gU]
theorem vM {e b:Nat} {s x:Opd}:opsT d (⟨t, .append e b s x,none⟩::r) K f H=(fU d=false∧eu (aAppend e b (ev f s) (ev f x) H) (gU d t r K f)):=by
 have h:aOp (.append e b s x) (ev f) H=aAppend e b (ev f s) (ev f x) H:=by simp only [aOp]
 rw [opsT]
 simp only [wantedA,if_true,eu,h]
 cases aAppend e b (ev f s) (ev f x) H<;>simp [dn,gU]
theorem vN {x:Opd}:opsT d (⟨t, .move x,none⟩::r) K f H=opsT (dn d) r K (updO f t (ev f x)) H:=by
 rw [jv (by simp) (by simp) (by simp) (by simp) (by simp)];rfl
theorem bW {o:AOp} {w:Option Value} (h1: ∀n a v,o≠ .store n a v) (h2: ∀e b s x,o≠ .append e b s x) (h3: ∀g as,o≠ .call g as) (h4: ∀g as,o≠ .callv g as) (h5:(∀n a v fl,o≠ .storeF n a v fl)∧(∀e b s x fl,o≠ .appendF e b s x fl)∧ ∀qs x k,o≠ .mapPut qs x k) (h:aOp o (ev f) H=w.map fun v=>(v,H)):opsT d (⟨t,o,none⟩::r) K f H=bH w (bJ d t r K f H):=by
 rw [jv h1 h2 h3 h4 h5,h]
 show eu _ _=_
 rw [Ut]
 rfl
theorem vO {c a b:Opd}:opsT d (⟨t, .pick c a b,none⟩::r) K f H=bH (vF (ev f c) (ev f a) (ev f b)) (bJ d t r K f H):=
 bW (by simp) (by simp) (by simp) (by simp) (by simp) (by simp only [aOp];cases ev f c<;>rfl)
theorem vP {op:BinOp} {x y:Opd}:opsT d (⟨t, .bin op x y,none⟩::r) K f H=bH (aBin op (ev f x) (ev f y)) (bJ d t r K f H):=
 bW (by simp) (by simp) (by simp) (by simp) (by simp) (by rfl)
theorem vT {x:Opd}:opsT d (⟨t, .not x,none⟩::r) K f H=bH (BX (ev f x)) (bJ d t r K f H):=
 bW (by simp) (by simp) (by simp) (by simp) (by simp) (by simp only [aOp];cases ev f x<;>rfl)
theorem vU {x:Opd}:opsT d (⟨t, .neg x,none⟩::r) K f H=bH (BZ (ev f x)) (bJ d t r K f H):=
 bW (by simp) (by simp) (by simp) (by simp) (by simp) (by simp only [aOp];cases ev f x<;>rfl)
theorem vV {k:IntKind} {x:Opd}:opsT d (⟨t, .conv k x,none⟩::r) K f H=bH (Cb k (ev f x)) (bJ d t r K f H):=
 bW (by simp) (by simp) (by simp) (by simp) (by simp) (by simp only [aOp];cases ev f x<;>rfl)
theorem vW {n:Bool} {x y:Opd}:opsT d (⟨t, .eqb n x y,none⟩::r) K f H=bH (y9 n (ev f x) (ev f y)) (bJ d t r K f H):=
 bW (by simp) (by simp) (by simp) (by simp) (by simp) (by simp only [aOp];cases ev f x<;>cases ev f y<;>rfl)
theorem vX {x:Opd}:opsT d (⟨t, .len x,none⟩::r) K f H=bH (lenV (ev f x)) (bJ d t r K f H):=
 bW (by simp) (by simp) (by simp) (by simp) (by simp) (by simp only [aOp];cases ev f x<;>rfl)
theorem vY {x:Opd} {j:Nat}:opsT d (⟨t, .extract x j,none⟩::r) K f H=bH (pX j (ev f x)) (bJ d t r K f H):=
 bW (by simp) (by simp) (by simp) (by simp) (by simp) (by simp only [aOp];cases ev f x<;>rfl)
theorem vZ {xs:List Opd}:opsT d (⟨t, .max xs,none⟩::r) K f H=bH (foldV max2 (xs.map (ev f))) (bJ d t r K f H):=
 bW (by simp) (by simp) (by simp) (by simp) (by simp) (by rfl)
theorem wo {xs:List Opd}:opsT d (⟨t, .min xs,none⟩::r) K f H=bH (foldV min2 (xs.map (ev f))) (bJ d t r K f H):=
 bW (by simp) (by simp) (by simp) (by simp) (by simp) (by rfl)
def Ce (neg:Bool):Value→Option Value
 | .slice a _ _=>some (.bool (if neg then !a.isNone else a.isNone))
 | _=>none
theorem Hq {n e:Nat}:Ce false (.slice none n e)=some (.bool true):=rfl
theorem Hr {b o n e:Nat}:Ce false (S b o n e)=some (.bool false):=rfl
theorem wu {n:Bool} {x:Opd}:opsT d (⟨t, .eqn n x,none⟩::r) K f H=bH (Ce n (ev f x)) (bJ d t r K f H):=
 bW (by simp) (by simp) (by simp) (by simp) (by simp) (by simp only [aOp];cases ev f x<;>rfl)
theorem wz {e:Nat} {x i:Opd}:opsT d (⟨t, .indexAddr none e x i,none⟩::r) K f H=bH (zk e (ev f x) (ev f i)) (bJ d t r K f H):=
 bW (by simp) (by simp) (by simp) (by simp) (by simp) (by
  simp only [aOp]
  generalize ev f x=vx
  generalize ev f i=vi
  cases vx<;>try rfl
  rename_i a n e'
  cases a<;>try rfl
  rename_i a
  obtain ⟨b,o,sp⟩:=a
  cases sp<;>cases vi<;>try rfl
  simp only [intOf,zk]
  split<;>rfl)
theorem wB {n:Option Nat} {a:Opd}:opsT d (⟨t, .load n a,none⟩::r) K f H=bH (zl n H (ev f a)) (bJ d t r K f H):=
 bW (by simp) (by simp) (by simp) (by simp) (by simp) (by
  simp only [aOp,zl]
  repeat' split
  all_goals simp_all)
theorem wC {e:Nat} {x:Opd} {lo hi:Option Opd}:opsT d (⟨t, .slice e x lo hi,none⟩::r) K f H=bH (sZ e (ev f x) (lo.map (ev f)) (hi.map (ev f))) (bJ d t r K f H):=
 bW (by simp) (by simp) (by simp) (by simp) (by simp) (by
  have hc:=fun len=>Uu (f:=f) (len:=len) (lo:=lo) (hi:=hi)
  simp only [aOp]
  generalize ev f x=vx
  cases vx<;>try rfl
  rename_i a n e'
  cases a with
  |none=>
   cases n<;>cases e'<;>try rfl
   simp only [sZ,hc]
   rw [Option.map_map]
   rfl
  |some a=>
   obtain ⟨b,o,sp⟩:=a
   cases sp<;>try rfl
   simp only [sZ,hc]
   split<;>simp [Option.map_map,Function.comp_def])
theorem wE {e n:Nat} {z:List Value} {p:List (Nat×Nat×Opd)}:opsT d (⟨t, .buildSlice e n z p,none⟩::r) K f H=eu (zo e n z (p.map fun p=>(p.1,p.2.1,ev f p.2.2)) H) (gU d t r K f):=by
 rw [jv (by simp) (by simp) (by simp) (by simp) (by simp)];rfl
theorem wF {e b:Nat} {z:List Value} {l c:Opd}:opsT d (⟨t, .makeSlice e b z l c,none⟩::r) K f H=eu (mkV e b z (ev f l) (ev f c) H) (gU d t r K f):=by
 rw [jv (by simp) (by simp) (by simp) (by simp) (by simp)]
 simp only [aOp,mkV]
 rfl
end
theorem Ext.out {lo hi:Nat} {H0 H H':AHeap} (h:Ext H0 H) (ho:Out lo hi H H') (hl:H0.n≤lo):Ext H0 H':=⟨Nat.le_trans h.n ho.n,fun b hb=>(ho.get b (Nat.lt_of_lt_of_le hb h.n) (.inl (by omega))).trans (h.get b hb)⟩
theorem RF:(type_of% @upd_apply)∧(type_of% @yE)∧(type_of% @yF)∧(type_of% @yG)∧(type_of% @yH)∧(type_of% @yD):=⟨@upd_apply, @yE, @yF, @yG, @yH, @yD⟩
theorem RO:(type_of% @vG)∧(type_of% @vH)∧(type_of% @vJ)∧(type_of% @vK)∧(type_of% @vM)∧(type_of% @vN)∧(type_of% @vO)∧(type_of% @vP)∧(type_of% @vT)∧(type_of% @vU)∧(type_of% @vV)∧(type_of% @vW)∧(type_of% @wu)∧(type_of% @Hq)∧(type_of% @Hr)∧(type_of% @vX)∧(type_of% @vY)∧(type_of% @vZ)∧(type_of% @wo)∧(type_of% @wz)∧(type_of% @wB)∧(type_of% @wC)∧(type_of% @wE)∧(type_of% @wF)∧(type_of% @vg)∧(type_of% @uZ)∧(type_of% @GH)∧(type_of% @yQ)∧(type_of% @yR)∧(type_of% @yT)∧(type_of% @yU)∧(type_of% @vk)∧(type_of% @GI)∧(type_of% @vw)∧(type_of% @yV)∧(type_of% @yX)∧(type_of% @GK)∧(type_of% @GL)∧(type_of% @GN)∧(type_of% @yY)∧(type_of% @yZ)∧(type_of% @y5)∧(type_of% @y7)∧(type_of% @y8)∧(type_of% @zf)∧(type_of% @zh)∧(type_of% @GR)∧(type_of% @zi)∧(type_of% @ext1)∧(type_of% @GU)∧(type_of% @GV)∧(type_of% @GX)∧(type_of% @GY)∧(type_of% @GZ)∧(type_of% @G5)∧(type_of% @G6)∧(type_of% @G7)∧(type_of% @G9)∧(type_of% @zq)∧(type_of% @zu)∧(type_of% @zy)∧(type_of% @zA)∧(type_of% @zB)∧(type_of% @zC)∧(type_of% @zD)∧(type_of% @zF)∧(type_of% @zG)∧(type_of% @zH)∧(type_of% @zI)∧(type_of% @zJ)∧(type_of% @zK):=⟨@vG, @vH, @vJ, @vK, @vM, @vN, @vO, @vP, @vT, @vU, @vV, @vW, @wu, @Hq, @Hr, @vX, @vY, @vZ, @wo, @wz, @wB, @wC, @wE, @wF, @vg, @uZ, @GH, @yQ, @yR, @yT, @yU, @vk, @GI, @vw, @yV, @yX, @GK, @GL, @GN, @yY, @yZ, @y5, @y7, @y8, @zf, @zh, @GR, @zi, @ext1, @GU, @GV, @GX, @GY, @GZ, @G5, @G6, @G7, @G9, @zq, @zu, @zy, @zA, @zB, @zC, @zD, @zF, @zG, @zH, @zI, @zJ, @zK⟩
theorem RC:(type_of% @List.map_cons.{0,0})∧(type_of% @List.map_nil.{0,0})∧(type_of% @Option.map_some.{0,0})∧(type_of% @Option.map_none.{0,0})∧(type_of% @ge_iff_le.{0})∧(type_of% @gt_iff_lt.{0})∧(type_of% @decide_eq_true_eq)∧(type_of% @beq_self_eq_true.{0})∧(type_of% @bne_self_eq_false.{0})∧(type_of% @decide_true)∧(type_of% @decide_false)∧(type_of% @Bool.not_true)∧(type_of% @Bool.not_false)∧(type_of% @and_true)∧(type_of% @true_and)∧(type_of% @and_self)∧(type_of% @Bool.false_eq_true)∧(type_of% @beq_iff_eq.{0})∧(type_of% @Int.natCast_nonneg)∧(type_of% @Int.ofNat_lt)∧(type_of% @Int.ofNat_le)∧(type_of% @Int.ofNat_inj)∧(type_of% @Int.toNat_natCast)∧(type_of% @Nat.mul_one)∧(type_of% @Nat.one_mul)∧(type_of% @Nat.zero_add)∧(type_of% @Nat.add_zero)∧(type_of% @Nat.sub_zero)∧(type_of% @List.length_append.{0})∧(type_of% @List.length_map.{0,0})∧(type_of% @List.length_cons.{0})∧(type_of% @List.length_nil.{0})∧(type_of% @List.all_cons.{0})∧(type_of% @List.all_nil.{0})∧(type_of% @Bool.and_true)∧(type_of% @Bool.true_and)∧(type_of% @Bool.not_eq_true)∧(type_of% @beq_true)∧(type_of% @beq_false)∧(type_of% @true_implies)∧(type_of% @false_implies)∧(type_of% @decide_eq_false_iff_not)∧(type_of% @bne_iff_ne.{0})∧(type_of% @ne_eq.{1})∧(type_of% @not_true_eq_false)∧(type_of% @not_false_eq_true)∧(type_of% @Int.natCast_zero)∧(type_of% @Int.toNat_zero):=⟨@List.map_cons.{0,0}, @List.map_nil.{0,0}, @Option.map_some.{0,0}, @Option.map_none.{0,0}, @ge_iff_le.{0}, @gt_iff_lt.{0}, @decide_eq_true_eq, @beq_self_eq_true.{0}, @bne_self_eq_false.{0}, @decide_true, @decide_false, @Bool.not_true, @Bool.not_false, @and_true, @true_and, @and_self, @Bool.false_eq_true, @beq_iff_eq.{0}, @Int.natCast_nonneg, @Int.ofNat_lt, @Int.ofNat_le, @Int.ofNat_inj, @Int.toNat_natCast, @Nat.mul_one, @Nat.one_mul, @Nat.zero_add, @Nat.add_zero, @Nat.sub_zero, @List.length_append.{0}, @List.length_map.{0,0}, @List.length_cons.{0}, @List.length_nil.{0}, @List.all_cons.{0}, @List.all_nil.{0}, @Bool.and_true, @Bool.true_and, @Bool.not_eq_true, @beq_true, @beq_false, @true_implies, @false_implies, @decide_eq_false_iff_not, @bne_iff_ne.{0}, @ne_eq.{1}, @not_true_eq_false, @not_false_eq_true, @Int.natCast_zero, @Int.toNat_zero⟩
theorem RD:(type_of% @yI)∧(type_of% @yJ)∧(type_of% @He)∧(type_of% @G8)∧(type_of% @uT)∧(type_of% @yK)∧(type_of% @yL)∧(type_of% @yM)∧(type_of% @yN)∧(type_of% @yO)∧(type_of% @yP)∧(type_of% @BU)∧(type_of% @Gy):=⟨@yI, @yJ, @He, @G8, @uT, @yK, @yL, @yM, @yN, @yO, @yP, @BU, @Gy⟩
theorem RN:(type_of% @aA)∧(type_of% @uU)∧(type_of% @uV)∧(type_of% @uX)∧(type_of% @Gu)∧(type_of% @Gv)∧(type_of% @Gw):=⟨@aA, @uU, @uV, @uX, @Gu, @Gv, @Gw⟩
end Go.Am
