/- Slices of whole numbers in the small machine's memory, and more rules. -/
import Derived.Test.YtkapkmjofpoebaaAmT
set_option linter.unusedVariables false
set_option linter.unusedSimpArgs false
namespace Go.Am
open Go
theorem BX (t:Nat):lU [] t=undef:=by simp [lU]
theorem BZ (a:Value) (as:List Value):lU (a::as) 0=a:=rfl
theorem Cb (a b:Value) (as:List Value):lU (a::b::as) 1=b:=rfl
theorem Cc (a b c:Value) (as:List Value):lU (a::b::c::as) 2=c:=rfl
theorem Ce (a b c d:Value) (as:List Value):lU (a::b::c::d::as) 3=d:=rfl
theorem tq {n:Int} (h0: -9223372036854775808≤n) (h1:n<9223372036854775808):IntKind.i64.wrap n=n:=by
 have hb:(2:Int)^(64:Nat)=18446744073709551616:=by decide
 have hb':(2:Int)^(63:Nat)=9223372036854775808:=by decide
 simp only [IntKind.wrap,IntKind.bits,IntKind.signed,hb,hb']
 simp only [Bool.true_and,decide_eq_true_eq]
 omega
theorem aI {a b c:aj} {Q:Ex→Fr→aA→Prop} {f:Fr} {H:aA}:T (.seq (.seq a b) c) Q f H=T (.seq a (.seq b c)) Q f H:=by
 refine propext ⟨fun h=>?_,Yp⟩
 obtain ⟨ex,f',H',h1,h2⟩:=h
 cases h1 with
 |eF hab hc=>
  cases hab with
  |eF ha hb=>exact ⟨_,_,_, .eF ha (.eF hb hc),h2⟩
  |dW ha hne=>exact absurd rfl hne
 |dW hab hne=>
  cases hab with
  |eF ha hb=>exact ⟨_,_,_, .eF ha (.dW hb hne),h2⟩
  |dW ha hne=>exact ⟨_,_,_, .dW ha hne,h2⟩
theorem yU {b:aj} {Q:Ex→Fr→aA→Prop} {f:Fr} {H:aA}:T (.seq .skip b) Q f H=T b Q f H:=by
 refine propext ⟨fun h=>?_,Yq⟩
 obtain ⟨ex,f',H',h1,h2⟩:=h
 cases h1 with
 |eF ha hb=>cases ha;exact ⟨_,_,_,hb,h2⟩
 |dW ha hne=>cases ha;exact absurd rfl hne
theorem yV {b:aj} {Q:Ex→Fr→aA→Prop} {f:Fr} {H:aA}:T (.seq .ret b) Q f H=T .ret Q f H:=by
 refine propext ⟨fun h=>?_,fun h=>?_⟩
 ·obtain ⟨ex,f',H',h1,h2⟩:=h
  cases h1 with
  |eF ha hb=>cases ha
  |dW ha hne=>exact ⟨_,_,_,ha,h2⟩
 ·obtain ⟨ex,f',H',h1,h2⟩:=h
  cases h1
  exact ⟨_,_,_, .dW .ret (by simp),h2⟩
theorem yX {i:Nat} {b:aj} {Q:Ex→Fr→aA→Prop} {f:Fr} {H:aA}:T (.seq (.exit i) b) Q f H=Q (.exit i) f H:=by
 refine propext ⟨fun h=>?_,fun h=>⟨_,_,_, .dW .exit (by simp),h⟩⟩
 obtain ⟨ex,f',H',h1,h2⟩:=h
 cases h1 with
 |eF ha hb=>cases ha
 |dW ha hne=>cases ha;exact h2
theorem KQ {Q:Ex→Fr→aA→Prop} {f:Fr} {H:aA}:T .ret Q f H=Q .ret f H:=by
 refine propext ⟨fun h=>?_,fun h=>⟨_,_,_, .ret,h⟩⟩
 obtain ⟨ex,f',H',h1,h2⟩:=h
 cases h1;exact h2
theorem KR {i:Nat} {Q:Ex→Fr→aA→Prop} {f:Fr} {H:aA}:T (.exit i) Q f H=Q (.exit i) f H:=by
 refine propext ⟨fun h=>?_,fun h=>⟨_,_,_, .exit,h⟩⟩
 obtain ⟨ex,f',H',h1,h2⟩:=h
 cases h1;exact h2
theorem KT {Q:Ex→Fr→aA→Prop} {f:Fr} {H:aA}:T .skip Q f H=Q .normal f H:=by
 refine propext ⟨fun h=>?_,fun h=>⟨_,_,_, .skip,h⟩⟩
 obtain ⟨ex,f',H',h1,h2⟩:=h
 cases h1;exact h2
theorem bU {id:Nat} {a rest:aj} {Q:Ex→Fr→aA→Prop} {f:Fr} {H:aA} (J:Nat→Fr→aA→Prop) (n:Nat) (h0:J n f H)
  (hr: ∀n f H (R:Ex→Fr→aA→Prop),J n f H→(∀m f' H',m<n→J m f' H'→R .normal f' H')→(∀f' H',T rest Q f' H'→R (.exit id) f' H')→(∀f' H',Q .ret f' H'→R .ret f' H')→T a R f H):
  T (.seq (.block id (.loop a)) rest) Q f H:=by
 refine lV (ou (Gp J n h0 fun n f H hJ=>hr n f H _ hJ (fun m f' H' hm h=>⟨m,hm,h⟩) (fun f' H' h=>?_) (fun f' H' h=>h)))
 simp only [aN,aK,if_true]
 exact h
def lD (id:Nat):aj→Bool
 | .exit i=> !(i==id)
 | .seq a b=>lD id a&&lD id b
 | .cond _ a b=>lD id a&&lD id b
 | .block i a=>i==id||lD id a
 | .loop a=>lD id a
 | _=>true
theorem qC {id:Nat}: ∀(a:aj) {f:Fr} {H:aA} {ex:Ex} {f':Fr} {H':aA},Big Γ X a f H ex f' H'→lD id a=true→ex≠ .exit id
 | .skip,_,_,_,_,_,h,_=>by cases h;simp
 | .region _ _,_,_,_,_,_,h,_=>by cases h;simp
 | .ret,_,_,_,_,_,h,_=>by cases h;simp
 | .exit i,_,_,_,_,_,h,hn=>by
  cases h
  simp only [lD,Bool.not_eq_true',beq_eq_false_iff_ne] at hn
  intro he
  cases he
  exact hn rfl
 | .seq a b,_,_,_,_,_,h,hn=>by
  simp only [lD,Bool.and_eq_true] at hn
  cases h with
  |eF _ hb=>exact qC b hb hn.2
  |dW ha _=>exact qC a ha hn.1
 | .cond c a b,_,_,_,_,_,h,hn=>by
  simp only [lD,Bool.and_eq_true] at hn
  cases h with
  | @cond _ _ _ _ _ t _ _ _ hc hb=>
   cases t with
   |true=>exact qC a hb hn.1
   |false=>exact qC b hb hn.2
 | .block i a,_,_,_,_,_,h,hn=>by
  simp only [lD,Bool.or_eq_true,beq_iff_eq] at hn
  cases h with
  |block hb hne=>
   rcases hn with rfl|hn
   ·exact hne
   ·exact qC a hb hn
  |Gq _=>simp
 | .loop a,f,H,ex,f',H',h,hn=>by
  simp only [lD] at hn
  have ih:=fun {f H ex f' H'} (hb:Big Γ X a f H ex f' H')=>qC (id:=id) a hb hn
  generalize hl:aj.loop a=l at h
  clear hn
  revert ih hl
  refine Big.rec (motive_1:=fun l f H ex f' H' _=>(∀{f H ex f' H'},Big Γ X a f H ex f' H'→ex≠ .exit id)→aj.loop a=l→ex≠ .exit id) (motive_2:=fun _ _ _ _ _ _ _=>True) (motive_3:=fun _ _ _ _ _ _=>True) (motive_4:=fun _ _ _ _ _ _=>True)
   ?_ ?_ ?_ ?_ ?_ ?_ ?_ ?_ ?_ ?_ ?_ ?_ ?_ ?_ ?_ ?_ ?_ ?_ ?_ ?_ h
  case refine_8=>intro a' _ _ _ _ _ _ _ _ _ _ h2 ih hl;exact h2 ih hl
  case refine_9=>intro a' _ _ _ _ _ h1 _ _ ih hl;cases hl;exact ih h1
  all_goals intros;first|trivial|contradiction
theorem bP {id:Nat} {a b:aj} {Q:Ex→Fr→aA→Prop} {f:Fr} {H:aA} (hn:lD id a=true) (h:T (.seq a b) Q f H):T (.seq (.block id a) b) Q f H:=by
 obtain ⟨ex,f',H',h1,h2⟩:=h
 cases h1 with
 |eF ha hb=>exact ⟨_,_,_, .eF (.block ha (by simp)) hb,h2⟩
 |dW ha hne=>exact ⟨_,_,_, .dW (.block ha (qC a ha hn)) hne,h2⟩
theorem bQ {id:Nat} {a:aj} {Q:Ex→Fr→aA→Prop} {f:Fr} {H:aA} (hn:lD id a=true) (h:T a Q f H):T (.block id a) Q f H:=by
 obtain ⟨ex,f',H',h1,h2⟩:=h
 exact ⟨_,_,_, .block h1 (qC a h1 hn),h2⟩
theorem aib {g:Nat} {as as':List Value} {H H':aA} {K:Value→aA→Prop} (h1:as=as') (h2:H=H'):oq g as H K=oq g as' H' K:=by rw [h1,h2]
def el (xs:List Int) (k:Nat):Int:=xs.getD k 0
def oh (H:aA) (v:Value) (xs:List Int):Prop:=
 (v= .slice none 0 0∧xs=[])∨ ∃b o blk,v=S b o xs.length 1∧b<H.n∧H.get b=some blk∧o+xs.length≤blk.cells.length∧ ∀i,i<xs.length→blk.cells[o+i]? =some (I (el xs i))
def kK (lo hi:Nat) (H:aA) (v:Value) (xs:List Int):Prop:=
 (v= .slice none 0 0∧xs=[])∨ ∃b rest,v=S b 0 xs.length 1∧lo≤b∧b<hi∧b<H.n∧H.get b=some ⟨xs.map I++rest,true⟩
section
variable {H H':aA} {v:Value} {xs:List Int} {lo hi:Nat}
theorem oh.len (h:oh H v xs): ∃a e,v= .slice a xs.length e:=by
 rcases h with ⟨rfl,rfl⟩|⟨b,o,blk,rfl,_⟩
 ·exact ⟨_,_,rfl⟩
 ·exact ⟨_,_,rfl⟩
theorem oh.pos (h:oh H v xs) (hp:0<xs.length): ∃b o blk,v=S b o xs.length 1∧b<H.n∧H.get b=some blk∧o+xs.length≤blk.cells.length∧ ∀i,i<xs.length→blk.cells[o+i]? =some (I (el xs i)):=by
 rcases h with ⟨rfl,rfl⟩|h
 ·simp at hp
 ·exact h
theorem oh.ext (h:oh H v xs) (he:Ext H H'):oh H' v xs:=by
 rcases h with h|⟨b,o,blk,h1,h2,h3,h4,h5⟩
 ·exact .inl h
 ·exact .inr ⟨b,o,blk,h1,Nat.lt_of_lt_of_le h2 he.n,by rw [he.get b h2];exact h3,h4,h5⟩
theorem kK.is (h:kK lo hi H v xs):oh H v xs:=by
 rcases h with h|⟨b,rest,h1,h2,h3,h4,h5⟩
 ·exact .inl h
 ·refine .inr ⟨b,0,_,h1,h4,h5,by simp,fun i hi=>?_⟩
  simp [List.getElem?_append_left,hi,List.getD,el]
theorem kK.len (h:kK lo hi H v xs): ∃a e,v= .slice a xs.length e:=h.is.len
theorem kK.ext (h:kK lo hi H v xs) (he:Ext H H'):kK lo hi H' v xs:=by
 rcases h with h|⟨b,rest,h1,h2,h3,h4,h5⟩
 ·exact .inl h
 ·exact .inr ⟨b,rest,h1,h2,h3,Nat.lt_of_lt_of_le h4 he.n,by rw [he.get b h4];exact h5⟩
theorem kK.weak (h:kK lo hi H v xs) {lo' hi':Nat} (hn:lo'≤lo) (hh:hi≤hi'):kK lo' hi' H v xs:=by
 rcases h with h|⟨b,rest,h1,h2,h3,h4,h5⟩
 ·exact .inl h
 ·exact .inr ⟨b,rest,h1,Nat.le_trans hn h2,Nat.lt_of_lt_of_le h3 hh,h4,h5⟩
theorem kK.nil:kK lo hi H (.slice none 0 0) []:= .inl ⟨rfl,rfl⟩
structure Out (lo hi:Nat) (H H':aA):Prop where
 n:H.n≤H'.n
 get: ∀b,b<H.n→b<lo∨hi≤b→H'.get b=H.get b
theorem Out.refl:Out lo hi H H:=⟨Nat.le_refl _,fun _ _ _=>rfl⟩
theorem Out.ext (h:Out lo hi H H') (hl:H.n≤lo):Ext H H':=⟨h.n,fun b hb=>h.get b hb (.inl (by omega))⟩
theorem kK.out {lo' hi':Nat} (h:kK lo hi H v xs) (he:Out lo' hi' H H') (hd:hi≤lo'∨hi'≤lo):kK lo hi H' v xs:=by
 rcases h with h|⟨b,rest,h1,h2,h3,h4,h5⟩
 ·exact .inl h
 ·exact .inr ⟨b,rest,h1,h2,h3,Nat.lt_of_lt_of_le h4 he.n,by rw [he.get b h4 (by omega)];exact h5⟩
end
theorem Yr {xs ys:List Int} (hl:xs.length=ys.length) (h: ∀i,i<xs.length→el xs i=el ys i):xs=ys:=by
 apply List.ext_getElem hl
 intro i h1 h2
 have:=h i h1
 simpa [el,List.getD,h1,h2] using this
def marks (k:Int) (n:Nat):List Int:=(List.range n).map fun (i:Nat)=>k+(i:Int)
theorem oh.nil {H:aA}:oh H (.slice none 0 0) []:= .inl ⟨rfl,rfl⟩
theorem Ci {p:Prop} [Decidable p] (h:p):decide p=true:=decide_eq_true h
theorem Cj {p:Prop} [Decidable p] (h: ¬p):decide p=false:=decide_eq_false h
theorem Cm {p q:Prop} [Decidable p] [Decidable q] {α:Type} {a b:α} (h:p∧q):(if p∧q then a else b)=a:=if_pos h
theorem CB {p q:Int} {α:Type} {a b:α} (h:p≤q):(if p≤q then a else b)=a:=if_pos h
theorem CG {p q:Int} {α:Type} {a b:α} (h:p<q):(if p<q then a else b)=a:=if_pos h
theorem CJ {p q:Int} {α:Type} {a b:α} (h: ¬p<q):(if p<q then a else b)=b:=if_neg h
theorem CO {p q:Nat} {α:Type} {a b:α} (h:p≤q):(if p≤q then a else b)=a:=if_pos h
theorem CP {p q:Nat} {α:Type} {a b:α} (h:p<q):(if p<q then a else b)=a:=if_pos h
theorem kK.pos {lo hi:Nat} {H:aA} {v:Value} {xs:List Int} (h:kK lo hi H v xs) (hp:0<xs.length): ∃b rest,v=S b 0 xs.length 1∧lo≤b∧b<hi∧b<H.n∧H.get b=some ⟨xs.map I++rest,true⟩:=by
 rcases h with ⟨rfl,rfl⟩|h
 ·simp at hp
 ·exact h
theorem KU (v:Value) (n:Nat):dA [v] n=List.replicate n v:=by
 simp only [dA]
 induction n with
 |zero=>rfl
 |succ n ih=>simp [List.replicate_succ,ih]
theorem aic (H:aA) (n:Nat):kK H.n (H.n+1) (H.alloc (dA [.int .i64 0] n)) (S H.n 0 n 1) (List.replicate n 0):=by
 refine .inr ⟨H.n,[],by simp,Nat.le_refl _,Nat.lt_succ_self _,Nat.lt_succ_self _,?_⟩
 rw [Yt,KU]
 simp
theorem Gs {xs:List Int} {rest:List Value} {k:Nat} {y:Int} (h:k<xs.length):splice (xs.map I++rest) k [I y]=(xs.set k y).map I++rest:=by
 simp only [splice,List.length_singleton]
 rw [List.take_append_of_le_length (by simp;omega),List.drop_append_of_le_length (by simp;omega),List.set_eq_take_append_cons_drop]
 simp [h,List.map_take,List.map_drop]
theorem KW {xs:List Int} {rest:List Value} {k:Nat} (h:k<xs.length):(xs.map I++rest)[k]? =some (I (el xs k)):=by
 simp [List.getElem?_append_left,h,el,List.getD]
theorem aie {xs:List Int} {k:Nat} {y:Int} (h:k<xs.length):el (xs.set k y) k=y:=by simp [el,List.getD,h]
theorem aif {xs:List Int} {k i:Nat} {y:Int} (h:k≠i):el (xs.set k y) i=el xs i:=by simp [el,List.getD,h]
theorem Out.set {lo hi:Nat} {H H':aA} (h:Out lo hi H H') {b:Nat} (hb:lo≤b∧b<hi) (cs:List Value):Out lo hi H (H'.set b cs):=⟨h.n,fun x hx ho=>by rw [KX _ _ _ _ (by omega)];exact h.get x hx ho⟩
theorem aii {v:Value}:bK (dA [v] 0) []=some []:=rfl
theorem aij {v:Value} {k:IntKind} {n:Int}:bK (dA [v] 1) [(0,1, .int k n)]=some [.int k n]:=rfl
theorem Yu {a b:Int}:(a==b)=decide (a=b):=by rw [Bool.eq_iff_iff];simp
theorem Yv {a b:Int}:(a !=b)=decide (¬a=b):=by rw [Bool.eq_iff_iff];simp
def iw (o:Option (Value×aA)) (k:Value→aA→Prop):Prop:=
 match o with
 |some (v,H)=>k v H
 |none=>False
theorem Yw {v:Value} {H:aA} {k:Value→aA→Prop}:iw (some (v,H)) k=k v H:=rfl
theorem aik {o o':Option (Value×aA)} {k:Value→aA→Prop} (h:o=o'):iw o k=iw o' k:=by rw [h]
def dH (o:Option Value) (k:Value→Prop):Prop:=
 match o with
 |some v=>k v
 |none=>False
theorem ail {v:Value} {k:Value→Prop}:dH (some v) k=k v:=rfl
theorem ain {o o':Option Value} {k:Value→Prop} (h:o=o'):dH o k=dH o' k:=by rw [h]
theorem Yx {o:Option Value} {H:aA} {k:Value→aA→Prop}:iw (o.map fun v=>(v,H)) k=dH o fun v=>k v H:=by cases o<;>rfl
def dn (d:Option Nat):Option Nat:=d.map (· -1)
theorem CQ:dn none=none:=rfl
theorem CS {n:Nat}:dn (some n)=some (n-1):=rfl
def dK (d t:Option Nat) (r:List bT) (K:Fr→aA→Prop) (f:Fr) (H:aA):Value→Prop:=fun v=>opsT (dn d) r K (dF f t v) H
def jE (d t:Option Nat) (r:List bT) (K:Fr→aA→Prop) (f:Fr):Value→aA→Prop:=fun v H=>opsT (dn d) r K (dF f t v) H
def CU (d t:Option Nat) (r:List bT) (K:Fr→aA→Prop) (f:Fr) (H:aA):Value→aA→Prop:=fun v H'=>(iW d=true→Ext H H')∧opsT (dn d) r K (dF f t v) H'
theorem yY {d t:Option Nat} {r:List bT} {K:Fr→aA→Prop} {f:Fr} {H:aA} {v:Value}:dH (some v) (dK d t r K f H)=opsT (dn d) r K (dF f t v) H:=rfl
theorem yZ {d t:Option Nat} {r:List bT} {K:Fr→aA→Prop} {f:Fr} {H:aA} {v:Value}:iw (some (v,H)) (jE d t r K f)=opsT (dn d) r K (dF f t v) H:=rfl
theorem KY {d t:Option Nat} {r:List bT} {K:Fr→aA→Prop} {f:Fr} {H H':aA} {v:Value}:CU d t r K f H v H'=((iW d=true→Ext H H')∧opsT (dn d) r K (dF f t v) H'):=rfl
theorem CV:iW none=false:=rfl
theorem CW {n:Nat}:iW (some n)=decide (0<n):=rfl
theorem y5 {f:Fr} {n:Nat}:ev f (.t n)=f n:=rfl
theorem KZ {f:Fr} {v:Value}:ev f (.c v)=v:=rfl
theorem y7 {f:Fr} {n:Nat}:ev f (.f n)= .func (.func n) #[] #[]:=rfl
theorem CX {f:Fr} {n:Nat} {v:Value}:dF f (some n) v=upd f n v:=rfl
theorem CY {f:Fr} {v:Value}:dF f none v=f:=rfl
def y8 (b:Bool):Value→Bool
 | .bool x=>x==b
 | _=>false
theorem La {x:Bool}:y8 true (.bool x)=x:=by cases x<;>rfl
theorem Lc {x:Bool}:y8 false (.bool x)= !x:=by cases x<;>rfl
theorem Ld {b:Bool}:y8 b undef=false:=rfl
def y9:Value→Value→Value→Option Value
 | .bool t,a,b=>some (if t then a else b)
 | _,_,_=>none
theorem CZ {a b:Value}:y9 (.bool true) a b=some a:=rfl
theorem C9 {a b:Value}:y9 (.bool false) a b=some b:=rfl
theorem aio {t x y:Bool}:y9 (.bool t) (.bool x) (.bool y)=some (.bool ((t&&x)||(!t&&y))):=by cases t<;>cases x<;>cases y<;>rfl
def Gt:Value→Option Value
 | .bool b=>some (.bool !b)
 | _=>none
theorem Dc {b:Bool}:Gt (.bool b)=some (.bool !b):=rfl
def Gu:Value→Option Value
 | .int k n=>some (.int k (k.wrap (0-n)))
 | _=>none
theorem Df {k:IntKind} {n:Int}:Gu (.int k n)=some (.int k (k.wrap (0-n))):=rfl
def Gv (k:IntKind):Value→Option Value
 | .int _ n=>some (.int k (k.wrap n))
 | _=>none
theorem Dh {k k':IntKind} {n:Int}:Gv k (.int k' n)=some (.int k (k.wrap n)):=rfl
def Di (neg:Bool):Value→Value→Option Value
 | .bool a, .bool b=>some (.bool (if neg then !(a==b) else (a==b)))
 | _,_=>none
theorem Dj {a b:Bool}:Di false (.bool a) (.bool b)=some (.bool (a==b)):=rfl
theorem Dk {a b:Bool}:Di true (.bool a) (.bool b)=some (.bool !(a==b)):=rfl
def lenV:Value→Option Value
 | .slice _ n _=>some (.int .i64 n)
 | _=>none
theorem Le {a:Option Addr} {n e:Nat}:lenV (.slice a n e)=some (.int .i64 n):=rfl
def tu (j:Nat):Value→Option Value
 | .tuple vs=>vs[j]?
 | _=>none
theorem aip {j:Nat} {vs:List Value}:tu j (.tuple ⟨vs⟩)=vs[j]? :=by simp [tu]
theorem Dl {a:Value} {l:List Value}:tu 0 (.tuple ⟨a::l⟩)=some a:=by simp [tu]
theorem ext1 {a b:Value} {l:List Value}:tu 1 (.tuple ⟨a::b::l⟩)=some b:=by simp [tu]
def Dn (e:Nat):Value→Value→Option Value
 | .slice (some ⟨b,o,none⟩) len e', .int _ i=>if 0≤i∧i<len∧e'=e then some (P b (o+i.toNat*e)) else none
 | _,_=>none
theorem Lh {b o len e:Nat} {k:IntKind} {i:Int}:Dn e (S b o len e) (.int k i)=if 0≤i∧i<len then some (P b (o+i.toNat*e)) else none:=by simp [Dn]
def Dp (n:Option Nat) (H:aA):Value→Option Value
 | .pointer (some ⟨b,o,none⟩)=>(match H.get b with|some blk=>aY n blk.cells o|none=>none)
 | _=>none
def Gw (blk:Option bY) (o:Nat):Option Value:=
 match blk with
 |some blk=>blk.cells[o]?
 |none=>none
theorem Lj {H:aA} {b o:Nat}:Dp none H (P b o)=Gw (H.get b) o:=by simp only [Dp,Gw];cases H.get b<;>rfl
theorem Ll {blk:bY} {o:Nat}:Gw (some blk) o=blk.cells[o]? :=rfl
def wV (e:Nat) (x:Value) (lo hi:Option Value):Option Value:=
 match x with
 | .slice (some ⟨b,o,none⟩) len e'=>if e'=e then (gG (fun| .c v=>v| _=>undef) len (lo.map .c) (hi.map .c)).map fun (l,h)=>S b (o+l*e) (h-l) e else none
 | .slice none 0 0=>(gG (fun| .c v=>v| _=>undef) 0 (lo.map .c) (hi.map .c)).map fun _=> .slice none 0 0
 | _=>none
theorem Yy {f:Fr} {len:Nat} {lo hi:Option aB}:gG (fun| .c v=>v| _=>undef) len ((lo.map (ev f)).map .c) ((hi.map (ev f)).map .c)=gG (ev f) len lo hi:=by
 cases lo<;>cases hi<;>rfl
theorem Lm {b o len e:Nat} {k:IntKind} {h:Int}:wV e (S b o len e) none (some (.int k h))=if 0≤h∧h≤len then some (S b o h.toNat e) else none:=by
 simp only [wV,if_true,Option.map_none,Option.map_some,gG,intOf]
 by_cases hh:0≤h∧h≤len
 ·simp [hh]
 ·rw [if_neg hh,if_neg (by omega)];rfl
theorem Lp {e:Nat} {k:IntKind}:wV e (.slice none 0 0) none (some (.int k 0))=some (.slice none 0 0):=rfl
def Dq (e n:Nat) (z:List Value) (parts:List (Nat×Nat×Value)) (H:aA):Option (Value×aA):=
 if n*e≤16777216 then (bK (dA z n) parts).map fun cs=>(S H.n 0 n e,H.alloc cs) else none
theorem Lr {z:Value} {H:aA}:Dq 1 0 [z] [] H=some (S H.n 0 0 1,H.alloc []):=rfl
theorem Ls {z:Value} {H:aA} {k:IntKind} {n:Int}:Dq 1 1 [z] [(0,1, .int k n)] H=some (S H.n 0 1 1,H.alloc [.int k n]):=rfl
theorem Lu {z:Value} {H:aA} {k k':IntKind} {n m:Int}:Dq 1 2 [z] [(0,1, .int k n),(1,1, .int k' m)] H=some (S H.n 0 2 1,H.alloc [.int k n, .int k' m]):=rfl
def mkV (e bytes:Nat) (z:List Value) (l c:Value) (H:aA):Option (Value×aA):=
 match l,c with
 | .int _ l, .int _ c=>if 0≤l∧l≤c∧c*bytes≤140737488355328∧c≤9223372036854775807 then some (S H.n 0 l.toNat e,H.alloc (dA z c.toNat)) else none
 | _,_=>none
theorem LC {e:Nat} {z:List Value} {k:IntKind} {n:Int} {H:aA} (h:0≤n∧n≤1000000000000):mkV e 8 z (.int k n) (.int k n) H=some (S H.n 0 n.toNat e,H.alloc (dA z n.toNat)):=by
 simp only [mkV]
 rw [if_pos (by omega)]
def wW (n:Nat) (a v:Value) (H:aA):Option (Value×aA):=
 match a with
 | .pointer (some ⟨b,o,none⟩)=>
  (match H.get b with
  |some blk=>
   if blk.rw=true∧(dL v).length=n∧o+n≤blk.cells.length∧(dL v).all (·.oneCell')=true
   then some (undef,H.set b (splice blk.cells o (dL v))) else none
  |none=>none)
 | _=>none
def stB (blk:Option bY) (H:aA) (b o n:Nat) (v:Value):Option (Value×aA):=
 match blk with
 |some blk=>
  if blk.rw=true∧(dL v).length=n∧o+n≤blk.cells.length∧(dL v).all (·.oneCell')=true
  then some (undef,H.set b (splice blk.cells o (dL v))) else none
 |none=>none
theorem LD {H:aA} {b o n:Nat} {v:Value}:wW n (P b o) v H=stB (H.get b) H b o n v:=by simp only [wW,stB]
theorem LG {H:aA} {b o:Nat} {xs:List Int} {rest:List Value} {n:Int} (hl:o<xs.length):stB (some ⟨xs.map I++rest,true⟩) H b o 1 (I n)=some (undef,H.set b ((xs.set o n).map I++rest)):=by
 simp only [stB,dL,List.length_singleton]
 rw [if_pos ⟨trivial,trivial,by simp;omega,rfl⟩,Gs hl]
theorem Dt {a b:Value}:iU max2 [a,b]=max2 a b:=by
 simp only [iU]
 cases max2 a b<;>simp [iU]
theorem Du {k:IntKind} {x y:Int}:max2 (.int k x) (.int k y)=some (.int k (if y>x then y else x)):=by simp [max2]
section
variable {k:IntKind} {a b:Int}
theorem Dv:dZ .add (.int k a) (.int k b)=some (.int k (k.wrap (a+b))):=by simp [dZ]
theorem Dw:dZ .sub (.int k a) (.int k b)=some (.int k (k.wrap (a-b))):=by simp [dZ]
theorem Dx:dZ .mul (.int k a) (.int k b)=some (.int k (k.wrap (a*b))):=by simp [dZ]
theorem Dy:dZ .quo (.int k a) (.int k b)=if b=0 then none else some (.int k (k.wrap (a.tdiv b))):=by simp [dZ]
theorem Dz:dZ .rem (.int k a) (.int k b)=if b=0 then none else some (.int k (a.tmod b)):=by simp [dZ]
theorem DF:dZ .eql (.int k a) (.int k b)=some (.bool (decide (a=b))):=by simp [dZ,Yu]
theorem DI:dZ .neq (.int k a) (.int k b)=some (.bool (decide (¬a=b))):=by simp [dZ,Yv]
theorem DJ:dZ .lss (.int k a) (.int k b)=some (.bool (decide (a<b))):=by simp [dZ]
theorem DK:dZ .leq (.int k a) (.int k b)=some (.bool (decide (a≤b))):=by simp [dZ]
theorem DL:dZ .gtr (.int k a) (.int k b)=some (.bool (decide (b<a))):=by simp [dZ]
theorem DN:dZ .geq (.int k a) (.int k b)=some (.bool (decide (b≤a))):=by simp [dZ]
theorem LH:dZ .and (.int k a) (.int k b)=some (.int k (k.wrap ((BitVec.ofInt k.bits a&&&BitVec.ofInt k.bits b).toNat:Int))):=by simp [dZ]
theorem LJ:dZ .xor (.int k a) (.int k b)=some (.int k (k.wrap ((BitVec.ofInt k.bits a^^^BitVec.ofInt k.bits b).toNat:Int))):=by simp [dZ]
theorem LK {k':IntKind} (h: ¬b<0):dZ .shl (.int k a) (.int k' b)=some (.int k (k.wrap (a*2^(min b.toNat k.bits)))):=by
 simp only [dZ,qE,if_neg h,ite_self]
theorem LM {k':IntKind} (h: ¬b<0):dZ .shr (.int k a) (.int k' b)=some (.int k (a.fdiv (2^(min b.toNat k.bits)))):=by
 simp only [dZ,qE,if_neg h,ite_self]
end
section
variable {d:Option Nat} {t:Option Nat} {r:List bT} {K:Fr→aA→Prop} {f:Fr} {H:aA}
theorem zf:opsT d [] K f H=K f H:=rfl
theorem zh {o:iO} {g:Nat} {b:Bool}:opsT d (⟨t,o,some (g,b)⟩::r) K f H=(if y8 b (f g)=true then opsT d (⟨t,o,none⟩::r) K f H else opsT (dn d) r K (dF f t undef) H):=by
 have hw:fV (some (g,b)) f=y8 b (f g):=by simp only [fV];cases f g<;>rfl
 rw [opsT]
 simp only [hw]
 split
 ·conv=>rhs;rw [opsT]
  simp [fV]
 ·rfl
theorem zi {g:Nat} {as:List aB}:opsT d (⟨t, .call g as,none⟩::r) K f H=oq g (as.map (ev f)) H (CU d t r K f H):=by
 rw [opsT]
 simp [fV,dn,CU]
 rfl
theorem kS {o:iO} (h1: ∀n a v,o≠ .store n a v) (h2: ∀e b s x,o≠ .append e b s x) (h3: ∀g as,o≠ .call g as) (h4: ∀g as,o≠ .jF g as) (h5:(∀n a v fl,o≠ .fE n a v fl)∧ ∀e b s x fl,o≠ .jG e b s x fl):opsT d (⟨t,o,none⟩::r) K f H=iw (aJ o (ev f) H) (jE d t r K f):=by
 rw [opsT]
 simp only [fV,if_true]
 cases o<;>first|rfl|exact absurd rfl (h1 _ _ _)|exact absurd rfl (h2 _ _ _ _)|exact absurd rfl (h3 _ _)|exact absurd rfl (h4 _ _)|exact absurd rfl (h5.1 _ _ _ _)|exact absurd rfl (h5.2 _ _ _ _ _)
theorem zk {n:Nat} {a v:aB}:opsT d (⟨t, .store n a v,none⟩::r) K f H=(iW d=false∧iw (wW n (ev f a) (ev f v) H) (jE d t r K f)):=by
 have h:aJ (.store n a v) (ev f) H=wW n (ev f a) (ev f v) H:=by simp only [aJ,wW];rfl
 rw [opsT]
 simp only [fV,if_true,iw,h]
 cases wW n (ev f a) (ev f v) H<;>simp [dn,jE]
theorem zl {e b:Nat} {s x:aB}:opsT d (⟨t, .append e b s x,none⟩::r) K f H=(iW d=false∧iw (kE e b (ev f s) (ev f x) H) (jE d t r K f)):=by
 have h:aJ (.append e b s x) (ev f) H=kE e b (ev f s) (ev f x) H:=by simp only [aJ]
 rw [opsT]
 simp only [fV,if_true,iw,h]
 cases kE e b (ev f s) (ev f x) H<;>simp [dn,jE]
theorem zo {x:aB}:opsT d (⟨t, .move x,none⟩::r) K f H=opsT (dn d) r K (dF f t (ev f x)) H:=by
 rw [kS (by simp) (by simp) (by simp) (by simp) (by simp)];rfl
theorem dS {o:iO} {w:Option Value} (h1: ∀n a v,o≠ .store n a v) (h2: ∀e b s x,o≠ .append e b s x) (h3: ∀g as,o≠ .call g as) (h4: ∀g as,o≠ .jF g as) (h5:(∀n a v fl,o≠ .fE n a v fl)∧ ∀e b s x fl,o≠ .jG e b s x fl) (h:aJ o (ev f) H=w.map fun v=>(v,H)):opsT d (⟨t,o,none⟩::r) K f H=dH w (dK d t r K f H):=by
 rw [kS h1 h2 h3 h4 h5,h]
 show iw _ _=_
 rw [Yx]
 rfl
theorem zq {c a b:aB}:opsT d (⟨t, .pick c a b,none⟩::r) K f H=dH (y9 (ev f c) (ev f a) (ev f b)) (dK d t r K f H):=
 dS (by simp) (by simp) (by simp) (by simp) (by simp) (by simp only [aJ];cases ev f c<;>rfl)
theorem zu {op:BinOp} {x y:aB}:opsT d (⟨t, .bin op x y,none⟩::r) K f H=dH (dZ op (ev f x) (ev f y)) (dK d t r K f H):=
 dS (by simp) (by simp) (by simp) (by simp) (by simp) (by rfl)
theorem zy {x:aB}:opsT d (⟨t, .not x,none⟩::r) K f H=dH (Gt (ev f x)) (dK d t r K f H):=
 dS (by simp) (by simp) (by simp) (by simp) (by simp) (by simp only [aJ];cases ev f x<;>rfl)
theorem zA {x:aB}:opsT d (⟨t, .neg x,none⟩::r) K f H=dH (Gu (ev f x)) (dK d t r K f H):=
 dS (by simp) (by simp) (by simp) (by simp) (by simp) (by simp only [aJ];cases ev f x<;>rfl)
theorem zB {k:IntKind} {x:aB}:opsT d (⟨t, .conv k x,none⟩::r) K f H=dH (Gv k (ev f x)) (dK d t r K f H):=
 dS (by simp) (by simp) (by simp) (by simp) (by simp) (by simp only [aJ];cases ev f x<;>rfl)
theorem zC {n:Bool} {x y:aB}:opsT d (⟨t, .rO n x y,none⟩::r) K f H=dH (Di n (ev f x) (ev f y)) (dK d t r K f H):=
 dS (by simp) (by simp) (by simp) (by simp) (by simp) (by simp only [aJ];cases ev f x<;>cases ev f y<;>rfl)
theorem zD {x:aB}:opsT d (⟨t, .len x,none⟩::r) K f H=dH (lenV (ev f x)) (dK d t r K f H):=
 dS (by simp) (by simp) (by simp) (by simp) (by simp) (by simp only [aJ];cases ev f x<;>rfl)
theorem zF {x:aB} {j:Nat}:opsT d (⟨t, .extract x j,none⟩::r) K f H=dH (tu j (ev f x)) (dK d t r K f H):=
 dS (by simp) (by simp) (by simp) (by simp) (by simp) (by simp only [aJ];cases ev f x<;>rfl)
theorem zG {xs:List aB}:opsT d (⟨t, .max xs,none⟩::r) K f H=dH (iU max2 (xs.map (ev f))) (dK d t r K f H):=
 dS (by simp) (by simp) (by simp) (by simp) (by simp) (by rfl)
theorem zH {xs:List aB}:opsT d (⟨t, .min xs,none⟩::r) K f H=dH (iU min2 (xs.map (ev f))) (dK d t r K f H):=
 dS (by simp) (by simp) (by simp) (by simp) (by simp) (by rfl)
def Gx (neg:Bool):Value→Option Value
 | .slice a _ _=>some (.bool (if neg then !a.isNone else a.isNone))
 | _=>none
theorem LP {n e:Nat}:Gx false (.slice none n e)=some (.bool true):=rfl
theorem LQ {b o n e:Nat}:Gx false (S b o n e)=some (.bool false):=rfl
theorem zI {n:Bool} {x:aB}:opsT d (⟨t, .eqn n x,none⟩::r) K f H=dH (Gx n (ev f x)) (dK d t r K f H):=
 dS (by simp) (by simp) (by simp) (by simp) (by simp) (by simp only [aJ];cases ev f x<;>rfl)
theorem zJ {e:Nat} {x i:aB}:opsT d (⟨t, .indexAddr none e x i,none⟩::r) K f H=dH (Dn e (ev f x) (ev f i)) (dK d t r K f H):=
 dS (by simp) (by simp) (by simp) (by simp) (by simp) (by
  simp only [aJ]
  generalize ev f x=vx
  generalize ev f i=vi
  cases vx<;>try rfl
  rename_i a n e'
  cases a<;>try rfl
  rename_i a
  obtain ⟨b,o,sp⟩:=a
  cases sp<;>cases vi<;>try rfl
  simp only [intOf,Dn]
  split<;>rfl)
theorem zK {n:Option Nat} {a:aB}:opsT d (⟨t, .load n a,none⟩::r) K f H=dH (Dp n H (ev f a)) (dK d t r K f H):=
 dS (by simp) (by simp) (by simp) (by simp) (by simp) (by
  simp only [aJ,Dp]
  repeat' split
  all_goals simp_all)
theorem zL {e:Nat} {x:aB} {lo hi:Option aB}:opsT d (⟨t, .slice e x lo hi,none⟩::r) K f H=dH (wV e (ev f x) (lo.map (ev f)) (hi.map (ev f))) (dK d t r K f H):=
 dS (by simp) (by simp) (by simp) (by simp) (by simp) (by
  have hc:=fun len=>Yy (f:=f) (len:=len) (lo:=lo) (hi:=hi)
  simp only [aJ]
  generalize ev f x=vx
  cases vx<;>try rfl
  rename_i a n e'
  cases a with
  |none=>
   cases n<;>cases e'<;>try rfl
   simp only [wV,hc]
   rw [Option.map_map]
   rfl
  |some a=>
   obtain ⟨b,o,sp⟩:=a
   cases sp<;>try rfl
   simp only [wV,hc]
   split<;>simp [Option.map_map,Function.comp_def])
theorem zM {e n:Nat} {z:List Value} {p:List (Nat×Nat×aB)}:opsT d (⟨t, .buildSlice e n z p,none⟩::r) K f H=iw (Dq e n z (p.map fun p=>(p.1,p.2.1,ev f p.2.2)) H) (jE d t r K f):=by
 rw [kS (by simp) (by simp) (by simp) (by simp) (by simp)];rfl
theorem zN {e b:Nat} {z:List Value} {l c:aB}:opsT d (⟨t, .makeSlice e b z l c,none⟩::r) K f H=iw (mkV e b z (ev f l) (ev f c) H) (jE d t r K f):=by
 rw [kS (by simp) (by simp) (by simp) (by simp) (by simp)]
 simp only [aJ,mkV]
 rfl
end
theorem Ext.out {lo hi:Nat} {H0 H H':aA} (h:Ext H0 H) (ho:Out lo hi H H') (hl:H0.n≤lo):Ext H0 H':=⟨Nat.le_trans h.n ho.n,fun b hb=>(ho.get b (Nat.lt_of_lt_of_le hb h.n) (.inl (by omega))).trans (h.get b hb)⟩
theorem RF:(type_of% @DR)∧(type_of% @BZ)∧(type_of% @Cb)∧(type_of% @Cc)∧(type_of% @Ce)∧(type_of% @BX):=⟨@DR, @BZ, @Cb, @Cc, @Ce, @BX⟩
theorem RO:(type_of% @zf)∧(type_of% @zh)∧(type_of% @zi)∧(type_of% @zk)∧(type_of% @zl)∧(type_of% @zo)∧(type_of% @zq)∧(type_of% @zu)∧(type_of% @zy)∧(type_of% @zA)∧(type_of% @zB)∧(type_of% @zC)∧(type_of% @zI)∧(type_of% @LP)∧(type_of% @LQ)∧(type_of% @zD)∧(type_of% @zF)∧(type_of% @zG)∧(type_of% @zH)∧(type_of% @zJ)∧(type_of% @zK)∧(type_of% @zL)∧(type_of% @zM)∧(type_of% @zN)∧(type_of% @yZ)∧(type_of% @yY)∧(type_of% @KY)∧(type_of% @CQ)∧(type_of% @CS)∧(type_of% @CV)∧(type_of% @CW)∧(type_of% @y5)∧(type_of% @KZ)∧(type_of% @y7)∧(type_of% @CX)∧(type_of% @CY)∧(type_of% @La)∧(type_of% @Lc)∧(type_of% @Ld)∧(type_of% @CZ)∧(type_of% @C9)∧(type_of% @Dc)∧(type_of% @Df)∧(type_of% @Dh)∧(type_of% @Dj)∧(type_of% @Dk)∧(type_of% @Le)∧(type_of% @Dl)∧(type_of% @ext1)∧(type_of% @Lh)∧(type_of% @Lj)∧(type_of% @Ll)∧(type_of% @Lm)∧(type_of% @Lp)∧(type_of% @Lr)∧(type_of% @Ls)∧(type_of% @Lu)∧(type_of% @LD)∧(type_of% @Dt)∧(type_of% @Du)∧(type_of% @Dv)∧(type_of% @Dw)∧(type_of% @Dx)∧(type_of% @Dy)∧(type_of% @Dz)∧(type_of% @DF)∧(type_of% @DI)∧(type_of% @DJ)∧(type_of% @DK)∧(type_of% @DL)∧(type_of% @DN):=⟨@zf, @zh, @zi, @zk, @zl, @zo, @zq, @zu, @zy, @zA, @zB, @zC, @zI, @LP, @LQ, @zD, @zF, @zG, @zH, @zJ, @zK, @zL, @zM, @zN, @yZ, @yY, @KY, @CQ, @CS, @CV, @CW, @y5, @KZ, @y7, @CX, @CY, @La, @Lc, @Ld, @CZ, @C9, @Dc, @Df, @Dh, @Dj, @Dk, @Le, @Dl, @ext1, @Lh, @Lj, @Ll, @Lm, @Lp, @Lr, @Ls, @Lu, @LD, @Dt, @Du, @Dv, @Dw, @Dx, @Dy, @Dz, @DF, @DI, @DJ, @DK, @DL, @DN⟩
theorem RC:(type_of% @List.map_cons.{0,0})∧(type_of% @List.map_nil.{0,0})∧(type_of% @Option.map_some.{0,0})∧(type_of% @Option.map_none.{0,0})∧(type_of% @ge_iff_le.{0})∧(type_of% @gt_iff_lt.{0})∧(type_of% @decide_eq_true_eq)∧(type_of% @beq_self_eq_true.{0})∧(type_of% @bne_self_eq_false.{0})∧(type_of% @decide_true)∧(type_of% @decide_false)∧(type_of% @Bool.not_true)∧(type_of% @Bool.not_false)∧(type_of% @and_true)∧(type_of% @true_and)∧(type_of% @and_self)∧(type_of% @Bool.false_eq_true)∧(type_of% @beq_iff_eq.{0})∧(type_of% @Int.natCast_nonneg)∧(type_of% @Int.ofNat_lt)∧(type_of% @Int.ofNat_le)∧(type_of% @Int.ofNat_inj)∧(type_of% @Int.toNat_natCast)∧(type_of% @Nat.mul_one)∧(type_of% @Nat.one_mul)∧(type_of% @Nat.zero_add)∧(type_of% @Nat.add_zero)∧(type_of% @Nat.sub_zero)∧(type_of% @List.length_append.{0})∧(type_of% @List.length_map.{0,0})∧(type_of% @List.length_cons.{0})∧(type_of% @List.length_nil.{0})∧(type_of% @List.all_cons.{0})∧(type_of% @List.all_nil.{0})∧(type_of% @Bool.and_true)∧(type_of% @Bool.true_and)∧(type_of% @Bool.not_eq_true)∧(type_of% @beq_true)∧(type_of% @beq_false)∧(type_of% @true_implies)∧(type_of% @false_implies)∧(type_of% @decide_eq_false_iff_not)∧(type_of% @bne_iff_ne.{0})∧(type_of% @ne_eq.{1})∧(type_of% @not_true_eq_false)∧(type_of% @not_false_eq_true)∧(type_of% @Int.natCast_zero)∧(type_of% @Int.toNat_zero):=⟨@List.map_cons.{0,0}, @List.map_nil.{0,0}, @Option.map_some.{0,0}, @Option.map_none.{0,0}, @ge_iff_le.{0}, @gt_iff_lt.{0}, @decide_eq_true_eq, @beq_self_eq_true.{0}, @bne_self_eq_false.{0}, @decide_true, @decide_false, @Bool.not_true, @Bool.not_false, @and_true, @true_and, @and_self, @Bool.false_eq_true, @beq_iff_eq.{0}, @Int.natCast_nonneg, @Int.ofNat_lt, @Int.ofNat_le, @Int.ofNat_inj, @Int.toNat_natCast, @Nat.mul_one, @Nat.one_mul, @Nat.zero_add, @Nat.add_zero, @Nat.sub_zero, @List.length_append.{0}, @List.length_map.{0,0}, @List.length_cons.{0}, @List.length_nil.{0}, @List.all_cons.{0}, @List.all_nil.{0}, @Bool.and_true, @Bool.true_and, @Bool.not_eq_true, @beq_true, @beq_false, @true_implies, @false_implies, @decide_eq_false_iff_not, @bne_iff_ne.{0}, @ne_eq.{1}, @not_true_eq_false, @not_false_eq_true, @Int.natCast_zero, @Int.toNat_zero⟩
theorem RD:(type_of% @Ci)∧(type_of% @Cj)∧(type_of% @LG)∧(type_of% @LC)∧(type_of% @tq)∧(type_of% @Cm)∧(type_of% @CB)∧(type_of% @CG)∧(type_of% @CJ)∧(type_of% @CO)∧(type_of% @CP)∧(type_of% @Gs)∧(type_of% @KW):=⟨@Ci, @Cj, @LG, @LC, @tq, @Cm, @CB, @CG, @CJ, @CO, @CP, @Gs, @KW⟩
theorem RN:(type_of% @aI)∧(type_of% @yU)∧(type_of% @yV)∧(type_of% @yX)∧(type_of% @KQ)∧(type_of% @KR)∧(type_of% @KT):=⟨@aI, @yU, @yV, @yX, @KQ, @KR, @KT⟩
end Go.Am
