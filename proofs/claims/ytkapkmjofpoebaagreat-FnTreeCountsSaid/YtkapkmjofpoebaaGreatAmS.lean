/- Slices of whole numbers in the small machine's memory, and more rules. -/
import Derived.Test.YtkapkmjofpoebaaGreatAmT
set_option linter.unusedVariables false
set_option linter.unusedSimpArgs false
namespace Go.Am
open Go
theorem Ic (t:Nat):qE [] t=undef:=by simp [qE]
theorem Ie (a:Value) (as:List Value):qE (a::as) 0=a:=rfl
theorem Ig (a b:Value) (as:List Value):qE (a::b::as) 1=b:=rfl
theorem Ih (a b c:Value) (as:List Value):qE (a::b::c::as) 2=c:=rfl
theorem Ii (a b c d:Value) (as:List Value):qE (a::b::c::d::as) 3=d:=rfl
theorem BA {n:Int} (h0: -9223372036854775808≤n) (h1:n<9223372036854775808):IntKind.i64.wrap n=n:=by
 have hb:(2:Int)^(64:Nat)=18446744073709551616:=by decide
 have hb':(2:Int)^(63:Nat)=9223372036854775808:=by decide
 simp only [IntKind.wrap,IntKind.bits,IntKind.signed,hb,hb']
 simp only [Bool.true_and,decide_eq_true_eq]
 omega
theorem aG {a b c:aj} {Q:Ex→Fr→aA→Prop} {f:Fr} {H:aA}:T (.seq (.seq a b) c) Q f H=T (.seq a (.seq b c)) Q f H:=by
 refine propext ⟨fun h=>?_,adY⟩
 obtain ⟨ex,f',H',h1,h2⟩:=h
 cases h1 with
 |gq hab hc=>
  cases hab with
  |gq ha hb=>exact ⟨_,_,_, .gq ha (.gq hb hc),h2⟩
  |fG ha hne=>exact absurd rfl hne
 |fG hab hne=>
  cases hab with
  |gq ha hb=>exact ⟨_,_,_, .gq ha (.fG hb hne),h2⟩
  |fG ha hne=>exact ⟨_,_,_, .fG ha hne,h2⟩
theorem D8 {b:aj} {Q:Ex→Fr→aA→Prop} {f:Fr} {H:aA}:T (.seq .skip b) Q f H=T b Q f H:=by
 refine propext ⟨fun h=>?_,adZ⟩
 obtain ⟨ex,f',H',h1,h2⟩:=h
 cases h1 with
 |gq ha hb=>cases ha;exact ⟨_,_,_,hb,h2⟩
 |fG ha hne=>cases ha;exact absurd rfl hne
theorem D9 {b:aj} {Q:Ex→Fr→aA→Prop} {f:Fr} {H:aA}:T (.seq .ret b) Q f H=T .ret Q f H:=by
 refine propext ⟨fun h=>?_,fun h=>?_⟩
 ·obtain ⟨ex,f',H',h1,h2⟩:=h
  cases h1 with
  |gq ha hb=>cases ha
  |fG ha hne=>exact ⟨_,_,_,ha,h2⟩
 ·obtain ⟨ex,f',H',h1,h2⟩:=h
  cases h1
  exact ⟨_,_,_, .fG .ret (by simp),h2⟩
theorem Ea {i:Nat} {b:aj} {Q:Ex→Fr→aA→Prop} {f:Fr} {H:aA}:T (.seq (.exit i) b) Q f H=Q (.exit i) f H:=by
 refine propext ⟨fun h=>?_,fun h=>⟨_,_,_, .fG .exit (by simp),h⟩⟩
 obtain ⟨ex,f',H',h1,h2⟩:=h
 cases h1 with
 |gq ha hb=>cases ha
 |fG ha hne=>cases ha;exact h2
theorem SL {Q:Ex→Fr→aA→Prop} {f:Fr} {H:aA}:T .ret Q f H=Q .ret f H:=by
 refine propext ⟨fun h=>?_,fun h=>⟨_,_,_, .ret,h⟩⟩
 obtain ⟨ex,f',H',h1,h2⟩:=h
 cases h1;exact h2
theorem SN {i:Nat} {Q:Ex→Fr→aA→Prop} {f:Fr} {H:aA}:T (.exit i) Q f H=Q (.exit i) f H:=by
 refine propext ⟨fun h=>?_,fun h=>⟨_,_,_, .exit,h⟩⟩
 obtain ⟨ex,f',H',h1,h2⟩:=h
 cases h1;exact h2
theorem SQ {Q:Ex→Fr→aA→Prop} {f:Fr} {H:aA}:T .skip Q f H=Q .normal f H:=by
 refine propext ⟨fun h=>?_,fun h=>⟨_,_,_, .skip,h⟩⟩
 obtain ⟨ex,f',H',h1,h2⟩:=h
 cases h1;exact h2
theorem bM {id:Nat} {a rest:aj} {Q:Ex→Fr→aA→Prop} {f:Fr} {H:aA} (J:Nat→Fr→aA→Prop) (n:Nat) (h0:J n f H)
  (hr: ∀n f H (R:Ex→Fr→aA→Prop),J n f H→(∀m f' H',m<n→J m f' H'→R .normal f' H')→(∀f' H',T rest Q f' H'→R (.exit id) f' H')→(∀f' H',Q .ret f' H'→R .ret f' H')→T a R f H):
  T (.seq (.block id (.loop a)) rest) Q f H:=by
 refine uZ (zU (MZ J n h0 fun n f H hJ=>hr n f H _ hJ (fun m f' H' hm h=>⟨m,hm,h⟩) (fun f' H' h=>?_) (fun f' H' h=>h)))
 simp only [iP,gu,if_true]
 exact h
def pI (id:Nat):aj→Bool
 | .exit i=> !(i==id)
 | .seq a b=>pI id a&&pI id b
 | .cond _ a b=>pI id a&&pI id b
 | .block i a=>i==id||pI id a
 | .loop a=>pI id a
 | _=>true
theorem vg {id:Nat}: ∀(a:aj) {f:Fr} {H:aA} {ex:Ex} {f':Fr} {H':aA},Big Γ X a f H ex f' H'→pI id a=true→ex≠ .exit id
 | .skip,_,_,_,_,_,h,_=>by cases h;simp
 | .region _ _,_,_,_,_,_,h,_=>by cases h;simp
 | .ret,_,_,_,_,_,h,_=>by cases h;simp
 | .exit i,_,_,_,_,_,h,hn=>by
  cases h
  simp only [pI,Bool.not_eq_true',beq_eq_false_iff_ne] at hn
  intro he
  cases he
  exact hn rfl
 | .seq a b,_,_,_,_,_,h,hn=>by
  simp only [pI,Bool.and_eq_true] at hn
  cases h with
  |gq _ hb=>exact vg b hb hn.2
  |fG ha _=>exact vg a ha hn.1
 | .cond c a b,_,_,_,_,_,h,hn=>by
  simp only [pI,Bool.and_eq_true] at hn
  cases h with
  | @cond _ _ _ _ _ t _ _ _ hc hb=>
   cases t with
   |true=>exact vg a hb hn.1
   |false=>exact vg b hb hn.2
 | .block i a,_,_,_,_,_,h,hn=>by
  simp only [pI,Bool.or_eq_true,beq_iff_eq] at hn
  cases h with
  |block hb hne=>
   rcases hn with rfl|hn
   ·exact hne
   ·exact vg a hb hn
  |Na _=>simp
 | .loop a,f,H,ex,f',H',h,hn=>by
  simp only [pI] at hn
  have ih:=fun {f H ex f' H'} (hb:Big Γ X a f H ex f' H')=>vg (id:=id) a hb hn
  generalize hl:aj.loop a=l at h
  clear hn
  revert ih hl
  refine Big.rec (motive_1:=fun l f H ex f' H' _=>(∀{f H ex f' H'},Big Γ X a f H ex f' H'→ex≠ .exit id)→aj.loop a=l→ex≠ .exit id) (motive_2:=fun _ _ _ _ _ _ _=>True) (motive_3:=fun _ _ _ _ _ _=>True) (motive_4:=fun _ _ _ _ _ _=>True)
   ?_ ?_ ?_ ?_ ?_ ?_ ?_ ?_ ?_ ?_ ?_ ?_ ?_ ?_ ?_ ?_ ?_ ?_ ?_ ?_ h
  case refine_8=>intro a' _ _ _ _ _ _ _ _ _ _ h2 ih hl;exact h2 ih hl
  case refine_9=>intro a' _ _ _ _ _ h1 _ _ ih hl;cases hl;exact ih h1
  all_goals intros;first|trivial|contradiction
theorem uw {id:Nat} {a b:aj} {Q:Ex→Fr→aA→Prop} {f:Fr} {H:aA} (hn:pI id a=true) (h:T (.seq a b) Q f H):T (.seq (.block id a) b) Q f H:=by
 obtain ⟨ex,f',H',h1,h2⟩:=h
 cases h1 with
 |gq ha hb=>exact ⟨_,_,_, .gq (.block ha (by simp)) hb,h2⟩
 |fG ha hne=>exact ⟨_,_,_, .fG (.block ha (vg a ha hn)) hne,h2⟩
theorem uy {id:Nat} {a:aj} {Q:Ex→Fr→aA→Prop} {f:Fr} {H:aA} (hn:pI id a=true) (h:T a Q f H):T (.block id a) Q f H:=by
 obtain ⟨ex,f',H',h1,h2⟩:=h
 exact ⟨_,_,_, .block h1 (vg a h1 hn),h2⟩
theorem apw {g:Nat} {as as':List Value} {H H':aA} {K:Value→aA→Prop} (h1:as=as') (h2:H=H'):kP g as H K=kP g as' H' K:=by rw [h1,h2]
def el (xs:List Int) (k:Nat):Int:=xs.getD k 0
def jQ (H:aA) (v:Value) (xs:List Int):Prop:=
 (v= .slice none 0 0∧xs=[])∨ ∃b o blk,v=S b o xs.length 1∧b<H.n∧H.get b=some blk∧o+xs.length≤blk.cells.length∧ ∀i,i<xs.length→blk.cells[o+i]? =some (I (el xs i))
def jR (lo hi:Nat) (H:aA) (v:Value) (xs:List Int):Prop:=
 (v= .slice none 0 0∧xs=[])∨ ∃b rest,v=S b 0 xs.length 1∧lo≤b∧b<hi∧b<H.n∧H.get b=some ⟨xs.map I++rest,true⟩
section
variable {H H':aA} {v:Value} {xs:List Int} {lo hi:Nat}
theorem jQ.len (h:jQ H v xs): ∃a e,v= .slice a xs.length e:=by
 rcases h with ⟨rfl,rfl⟩|⟨b,o,blk,rfl,_⟩
 ·exact ⟨_,_,rfl⟩
 ·exact ⟨_,_,rfl⟩
theorem jQ.pos (h:jQ H v xs) (hp:0<xs.length): ∃b o blk,v=S b o xs.length 1∧b<H.n∧H.get b=some blk∧o+xs.length≤blk.cells.length∧ ∀i,i<xs.length→blk.cells[o+i]? =some (I (el xs i)):=by
 rcases h with ⟨rfl,rfl⟩|h
 ·simp at hp
 ·exact h
theorem jQ.ext (h:jQ H v xs) (he:Ext H H'):jQ H' v xs:=by
 rcases h with h|⟨b,o,blk,h1,h2,h3,h4,h5⟩
 ·exact .inl h
 ·exact .inr ⟨b,o,blk,h1,Nat.lt_of_lt_of_le h2 he.n,by rw [he.get b h2];exact h3,h4,h5⟩
theorem jR.is (h:jR lo hi H v xs):jQ H v xs:=by
 rcases h with h|⟨b,rest,h1,h2,h3,h4,h5⟩
 ·exact .inl h
 ·refine .inr ⟨b,0,_,h1,h4,h5,by simp,fun i hi=>?_⟩
  simp [List.getElem?_append_left,hi,List.getD,el]
theorem jR.len (h:jR lo hi H v xs): ∃a e,v= .slice a xs.length e:=h.is.len
theorem jR.ext (h:jR lo hi H v xs) (he:Ext H H'):jR lo hi H' v xs:=by
 rcases h with h|⟨b,rest,h1,h2,h3,h4,h5⟩
 ·exact .inl h
 ·exact .inr ⟨b,rest,h1,h2,h3,Nat.lt_of_lt_of_le h4 he.n,by rw [he.get b h4];exact h5⟩
theorem jR.weak (h:jR lo hi H v xs) {lo' hi':Nat} (hn:lo'≤lo) (hh:hi≤hi'):jR lo' hi' H v xs:=by
 rcases h with h|⟨b,rest,h1,h2,h3,h4,h5⟩
 ·exact .inl h
 ·exact .inr ⟨b,rest,h1,Nat.le_trans hn h2,Nat.lt_of_lt_of_le h3 hh,h4,h5⟩
theorem jR.nil:jR lo hi H (.slice none 0 0) []:= .inl ⟨rfl,rfl⟩
structure Out (lo hi:Nat) (H H':aA):Prop where
 n:H.n≤H'.n
 get: ∀b,b<H.n→b<lo∨hi≤b→H'.get b=H.get b
theorem Out.refl:Out lo hi H H:=⟨Nat.le_refl _,fun _ _ _=>rfl⟩
theorem Out.ext (h:Out lo hi H H') (hl:H.n≤lo):Ext H H':=⟨h.n,fun b hb=>h.get b hb (.inl (by omega))⟩
theorem jR.out {lo' hi':Nat} (h:jR lo hi H v xs) (he:Out lo' hi' H H') (hd:hi≤lo'∨hi'≤lo):jR lo hi H' v xs:=by
 rcases h with h|⟨b,rest,h1,h2,h3,h4,h5⟩
 ·exact .inl h
 ·exact .inr ⟨b,rest,h1,h2,h3,Nat.lt_of_lt_of_le h4 he.n,by rw [he.get b h4 (by omega)];exact h5⟩
end
theorem SS {xs ys:List Int} (hl:xs.length=ys.length) (h: ∀i,i<xs.length→el xs i=el ys i):xs=ys:=by
 apply List.ext_getElem hl
 intro i h1 h2
 have:=h i h1
 simpa [el,List.getD,h1,h2] using this
def marks (k:Int) (n:Nat):List Int:=(List.range n).map fun (i:Nat)=>k+(i:Int)
theorem jQ.nil {H:aA}:jQ H (.slice none 0 0) []:= .inl ⟨rfl,rfl⟩
theorem dZ {p:Prop} [Decidable p] (h:p):decide p=true:=decide_eq_true h
theorem eF {p:Prop} [Decidable p] (h: ¬p):decide p=false:=decide_eq_false h
theorem Ij {p q:Prop} [Decidable p] [Decidable q] {α:Type} {a b:α} (h:p∧q):(if p∧q then a else b)=a:=if_pos h
theorem Ik {p q:Int} {α:Type} {a b:α} (h:p≤q):(if p≤q then a else b)=a:=if_pos h
theorem Il {p q:Int} {α:Type} {a b:α} (h:p<q):(if p<q then a else b)=a:=if_pos h
theorem Io {p q:Int} {α:Type} {a b:α} (h: ¬p<q):(if p<q then a else b)=b:=if_neg h
theorem Ip {p q:Nat} {α:Type} {a b:α} (h:p≤q):(if p≤q then a else b)=a:=if_pos h
theorem Iq {p q:Nat} {α:Type} {a b:α} (h:p<q):(if p<q then a else b)=a:=if_pos h
theorem jR.pos {lo hi:Nat} {H:aA} {v:Value} {xs:List Int} (h:jR lo hi H v xs) (hp:0<xs.length): ∃b rest,v=S b 0 xs.length 1∧lo≤b∧b<hi∧b<H.n∧H.get b=some ⟨xs.map I++rest,true⟩:=by
 rcases h with ⟨rfl,rfl⟩|h
 ·simp at hp
 ·exact h
theorem SV (v:Value) (n:Nat):fB [v] n=List.replicate n v:=by
 simp only [fB]
 induction n with
 |zero=>rfl
 |succ n ih=>simp [List.replicate_succ,ih]
theorem apx (H:aA) (n:Nat):jR H.n (H.n+1) (H.alloc (fB [.int .i64 0] n)) (S H.n 0 n 1) (List.replicate n 0):=by
 refine .inr ⟨H.n,[],by simp,Nat.le_refl _,Nat.lt_succ_self _,Nat.lt_succ_self _,?_⟩
 rw [Nc,SV]
 simp
theorem Eb {xs:List Int} {rest:List Value} {k:Nat} {y:Int} (h:k<xs.length):splice (xs.map I++rest) k [I y]=(xs.set k y).map I++rest:=by
 simp only [splice,List.length_singleton]
 rw [List.take_append_of_le_length (by simp;omega),List.drop_append_of_le_length (by simp;omega),List.set_eq_take_append_cons_drop]
 simp [h,List.map_take,List.map_drop]
theorem SX {xs:List Int} {rest:List Value} {k:Nat} (h:k<xs.length):(xs.map I++rest)[k]? =some (I (el xs k)):=by
 simp [List.getElem?_append_left,h,el,List.getD]
theorem apy {xs:List Int} {k:Nat} {y:Int} (h:k<xs.length):el (xs.set k y) k=y:=by simp [el,List.getD,h]
theorem apz {xs:List Int} {k i:Nat} {y:Int} (h:k≠i):el (xs.set k y) i=el xs i:=by simp [el,List.getD,h]
theorem Out.set {lo hi:Nat} {H H':aA} (h:Out lo hi H H') {b:Nat} (hb:lo≤b∧b<hi) (cs:List Value):Out lo hi H (H'.set b cs):=⟨h.n,fun x hx ho=>by rw [Ec _ _ _ _ (by omega)];exact h.get x hx ho⟩
theorem apA {v:Value}:dG (fB [v] 0) []=some []:=rfl
theorem apB {v:Value} {k:IntKind} {n:Int}:dG (fB [v] 1) [(0,1, .int k n)]=some [.int k n]:=rfl
theorem ad1 {a b:Int}:(a==b)=decide (a=b):=by rw [Bool.eq_iff_iff];simp
theorem ad2 {a b:Int}:(a !=b)=decide (¬a=b):=by rw [Bool.eq_iff_iff];simp
def jJ (o:Option (Value×aA)) (k:Value→aA→Prop):Prop:=
 match o with
 |some (v,H)=>k v H
 |none=>False
theorem ad3 {v:Value} {H:aA} {k:Value→aA→Prop}:jJ (some (v,H)) k=k v H:=rfl
theorem apC {o o':Option (Value×aA)} {k:Value→aA→Prop} (h:o=o'):jJ o k=jJ o' k:=by rw [h]
def dV (o:Option Value) (k:Value→Prop):Prop:=
 match o with
 |some v=>k v
 |none=>False
theorem apD {v:Value} {k:Value→Prop}:dV (some v) k=k v:=rfl
theorem apE {o o':Option Value} {k:Value→Prop} (h:o=o'):dV o k=dV o' k:=by rw [h]
theorem ad4 {o:Option Value} {H:aA} {k:Value→aA→Prop}:jJ (o.map fun v=>(v,H)) k=dV o fun v=>k v H:=by cases o<;>rfl
def dn (d:Option Nat):Option Nat:=d.map (· -1)
theorem Ir:dn none=none:=rfl
theorem Iu {n:Nat}:dn (some n)=some (n-1):=rfl
def eH (d t:Option Nat) (r:List cO) (K:Fr→aA→Prop) (f:Fr) (H:aA):Value→Prop:=fun v=>opsT (dn d) r K (dR f t v) H
def lJ (d t:Option Nat) (r:List cO) (K:Fr→aA→Prop) (f:Fr):Value→aA→Prop:=fun v H=>opsT (dn d) r K (dR f t v) H
def Iw (d t:Option Nat) (r:List cO) (K:Fr→aA→Prop) (f:Fr) (H:aA):Value→aA→Prop:=fun v H'=>(kQ d=true→Ext H H')∧opsT (dn d) r K (dR f t v) H'
theorem Ed {d t:Option Nat} {r:List cO} {K:Fr→aA→Prop} {f:Fr} {H:aA} {v:Value}:dV (some v) (eH d t r K f H)=opsT (dn d) r K (dR f t v) H:=rfl
theorem Ee {d t:Option Nat} {r:List cO} {K:Fr→aA→Prop} {f:Fr} {H:aA} {v:Value}:jJ (some (v,H)) (lJ d t r K f)=opsT (dn d) r K (dR f t v) H:=rfl
theorem SY {d t:Option Nat} {r:List cO} {K:Fr→aA→Prop} {f:Fr} {H H':aA} {v:Value}:Iw d t r K f H v H'=((kQ d=true→Ext H H')∧opsT (dn d) r K (dR f t v) H'):=rfl
theorem Iy:kQ none=false:=rfl
theorem Iz {n:Nat}:kQ (some n)=decide (0<n):=rfl
theorem jZ {f:Fr} {n:Nat}:ev f (.t n)=f n:=rfl
theorem kU {f:Fr} {v:Value}:ev f (.c v)=v:=rfl
theorem Ef {f:Fr} {n:Nat}:ev f (.f n)= .func (.func n) #[] #[]:=rfl
theorem IB {f:Fr} {n:Nat} {v:Value}:dR f (some n) v=upd f n v:=rfl
theorem IC {f:Fr} {v:Value}:dR f none v=f:=rfl
def Eh (b:Bool):Value→Bool
 | .bool x=>x==b
 | _=>false
theorem S9 {x:Bool}:Eh true (.bool x)=x:=by cases x<;>rfl
theorem Tc {x:Bool}:Eh false (.bool x)= !x:=by cases x<;>rfl
theorem Td {b:Bool}:Eh b undef=false:=rfl
def Ei:Value→Value→Value→Option Value
 | .bool t,a,b=>some (if t then a else b)
 | _,_,_=>none
theorem IE {a b:Value}:Ei (.bool true) a b=some a:=rfl
theorem IG {a b:Value}:Ei (.bool false) a b=some b:=rfl
theorem apF {t x y:Bool}:Ei (.bool t) (.bool x) (.bool y)=some (.bool ((t&&x)||(!t&&y))):=by cases t<;>cases x<;>cases y<;>rfl
def Nh:Value→Option Value
 | .bool b=>some (.bool !b)
 | _=>none
theorem II {b:Bool}:Nh (.bool b)=some (.bool !b):=rfl
def Nj:Value→Option Value
 | .int k n=>some (.int k (k.wrap (0-n)))
 | _=>none
theorem IJ {k:IntKind} {n:Int}:Nj (.int k n)=some (.int k (k.wrap (0-n))):=rfl
def Nk (k:IntKind):Value→Option Value
 | .int _ n=>some (.int k (k.wrap n))
 | _=>none
theorem IK {k k':IntKind} {n:Int}:Nk k (.int k' n)=some (.int k (k.wrap n)):=rfl
def IL (neg:Bool):Value→Value→Option Value
 | .bool a, .bool b=>some (.bool (if neg then !(a==b) else (a==b)))
 | _,_=>none
theorem IQ {a b:Bool}:IL false (.bool a) (.bool b)=some (.bool (a==b)):=rfl
theorem IU {a b:Bool}:IL true (.bool a) (.bool b)=some (.bool !(a==b)):=rfl
def lenV:Value→Option Value
 | .slice _ n _=>some (.int .i64 n)
 | _=>none
theorem Tf {a:Option Addr} {n e:Nat}:lenV (.slice a n e)=some (.int .i64 n):=rfl
def wJ (j:Nat):Value→Option Value
 | .tuple vs=>vs[j]?
 | _=>none
theorem apG {j:Nat} {vs:List Value}:wJ j (.tuple ⟨vs⟩)=vs[j]? :=by simp [wJ]
theorem IV {a:Value} {l:List Value}:wJ 0 (.tuple ⟨a::l⟩)=some a:=by simp [wJ]
theorem ext1 {a b:Value} {l:List Value}:wJ 1 (.tuple ⟨a::b::l⟩)=some b:=by simp [wJ]
def IW (e:Nat):Value→Value→Option Value
 | .slice (some ⟨b,o,none⟩) len e', .int _ i=>if 0≤i∧i<len∧e'=e then some (P b (o+i.toNat*e)) else none
 | _,_=>none
theorem Ti {b o len e:Nat} {k:IntKind} {i:Int}:IW e (S b o len e) (.int k i)=if 0≤i∧i<len then some (P b (o+i.toNat*e)) else none:=by simp [IW]
def IX (n:Option Nat) (H:aA):Value→Option Value
 | .pointer (some ⟨b,o,none⟩)=>(match H.get b with|some blk=>bV n blk.cells o|none=>none)
 | _=>none
def Nl (blk:Option dh) (o:Nat):Option Value:=
 match blk with
 |some blk=>blk.cells[o]?
 |none=>none
theorem Tj {H:aA} {b o:Nat}:IX none H (P b o)=Nl (H.get b) o:=by simp only [IX,Nl];cases H.get b<;>rfl
theorem Tm {blk:dh} {o:Nat}:Nl (some blk) o=blk.cells[o]? :=rfl
def BD (e:Nat) (x:Value) (lo hi:Option Value):Option Value:=
 match x with
 | .slice (some ⟨b,o,none⟩) len e'=>if e'=e then (jc (fun| .c v=>v| _=>undef) len (lo.map .c) (hi.map .c)).map fun (l,h)=>S b (o+l*e) (h-l) e else none
 | .slice none 0 0=>(jc (fun| .c v=>v| _=>undef) 0 (lo.map .c) (hi.map .c)).map fun _=> .slice none 0 0
 | _=>none
theorem ad5 {f:Fr} {len:Nat} {lo hi:Option aN}:jc (fun| .c v=>v| _=>undef) len ((lo.map (ev f)).map .c) ((hi.map (ev f)).map .c)=jc (ev f) len lo hi:=by
 cases lo<;>cases hi<;>rfl
theorem Tn {b o len e:Nat} {k:IntKind} {h:Int}:BD e (S b o len e) none (some (.int k h))=if 0≤h∧h≤len then some (S b o h.toNat e) else none:=by
 simp only [BD,if_true,Option.map_none,Option.map_some,jc,intOf]
 by_cases hh:0≤h∧h≤len
 ·simp [hh]
 ·rw [if_neg hh,if_neg (by omega)];rfl
theorem Tq {e:Nat} {k:IntKind}:BD e (.slice none 0 0) none (some (.int k 0))=some (.slice none 0 0):=rfl
def Ej (e n:Nat) (z:List Value) (parts:List (Nat×Nat×Value)) (H:aA):Option (Value×aA):=
 if n*e≤16777216 then (dG (fB z n) parts).map fun cs=>(S H.n 0 n e,H.alloc cs) else none
theorem Tt {z:Value} {H:aA}:Ej 1 0 [z] [] H=some (S H.n 0 0 1,H.alloc []):=rfl
theorem Tv {z:Value} {H:aA} {k:IntKind} {n:Int}:Ej 1 1 [z] [(0,1, .int k n)] H=some (S H.n 0 1 1,H.alloc [.int k n]):=rfl
theorem Tz {z:Value} {H:aA} {k k':IntKind} {n m:Int}:Ej 1 2 [z] [(0,1, .int k n),(1,1, .int k' m)] H=some (S H.n 0 2 1,H.alloc [.int k n, .int k' m]):=rfl
def mkV (e bytes:Nat) (z:List Value) (l c:Value) (H:aA):Option (Value×aA):=
 match l,c with
 | .int _ l, .int _ c=>if 0≤l∧l≤c∧c*bytes≤140737488355328∧c≤9223372036854775807 then some (S H.n 0 l.toNat e,H.alloc (fB z c.toNat)) else none
 | _,_=>none
theorem TA {e:Nat} {z:List Value} {k:IntKind} {n:Int} {H:aA} (h:0≤n∧n≤1000000000000):mkV e 8 z (.int k n) (.int k n) H=some (S H.n 0 n.toNat e,H.alloc (fB z n.toNat)):=by
 simp only [mkV]
 rw [if_pos (by omega)]
def BF (n:Nat) (a v:Value) (H:aA):Option (Value×aA):=
 match a with
 | .pointer (some ⟨b,o,none⟩)=>
  (match H.get b with
  |some blk=>
   if blk.rw=true∧(iq v).length=n∧o+n≤blk.cells.length∧(iq v).all (·.oneCell')=true
   then some (undef,H.set b (splice blk.cells o (iq v))) else none
  |none=>none)
 | _=>none
def stB (blk:Option dh) (H:aA) (b o n:Nat) (v:Value):Option (Value×aA):=
 match blk with
 |some blk=>
  if blk.rw=true∧(iq v).length=n∧o+n≤blk.cells.length∧(iq v).all (·.oneCell')=true
  then some (undef,H.set b (splice blk.cells o (iq v))) else none
 |none=>none
theorem TB {H:aA} {b o n:Nat} {v:Value}:BF n (P b o) v H=stB (H.get b) H b o n v:=by simp only [BF,stB]
theorem TD {H:aA} {b o:Nat} {xs:List Int} {rest:List Value} {n:Int} (hl:o<xs.length):stB (some ⟨xs.map I++rest,true⟩) H b o 1 (I n)=some (undef,H.set b ((xs.set o n).map I++rest)):=by
 simp only [stB,iq,List.length_singleton]
 rw [if_pos ⟨trivial,trivial,by simp;omega,rfl⟩,Eb hl]
theorem IY {a b:Value}:ku max2 [a,b]=max2 a b:=by
 simp only [ku]
 cases max2 a b<;>simp [ku]
theorem IZ {k:IntKind} {x y:Int}:max2 (.int k x) (.int k y)=some (.int k (if y>x then y else x)):=by simp [max2]
section
variable {k:IntKind} {a b:Int}
theorem I4:fM .add (.int k a) (.int k b)=some (.int k (k.wrap (a+b))):=by simp [fM]
theorem I5:fM .sub (.int k a) (.int k b)=some (.int k (k.wrap (a-b))):=by simp [fM]
theorem I7:fM .mul (.int k a) (.int k b)=some (.int k (k.wrap (a*b))):=by simp [fM]
theorem I8:fM .quo (.int k a) (.int k b)=if b=0 then none else some (.int k (k.wrap (a.tdiv b))):=by simp [fM]
theorem I9:fM .rem (.int k a) (.int k b)=if b=0 then none else some (.int k (a.tmod b)):=by simp [fM]
theorem Ja:fM .eql (.int k a) (.int k b)=some (.bool (decide (a=b))):=by simp [fM,ad1]
theorem Jb:fM .neq (.int k a) (.int k b)=some (.bool (decide (¬a=b))):=by simp [fM,ad2]
theorem Jc:fM .lss (.int k a) (.int k b)=some (.bool (decide (a<b))):=by simp [fM]
theorem Jd:fM .leq (.int k a) (.int k b)=some (.bool (decide (a≤b))):=by simp [fM]
theorem Je:fM .gtr (.int k a) (.int k b)=some (.bool (decide (b<a))):=by simp [fM]
theorem Jf:fM .geq (.int k a) (.int k b)=some (.bool (decide (b≤a))):=by simp [fM]
theorem TF:fM .and (.int k a) (.int k b)=some (.int k (k.wrap ((BitVec.ofInt k.bits a&&&BitVec.ofInt k.bits b).toNat:Int))):=by simp [fM]
theorem TG:fM .xor (.int k a) (.int k b)=some (.int k (k.wrap ((BitVec.ofInt k.bits a^^^BitVec.ofInt k.bits b).toNat:Int))):=by simp [fM]
theorem TI {k':IntKind} (h: ¬b<0):fM .shl (.int k a) (.int k' b)=some (.int k (k.wrap (a*2^(min b.toNat k.bits)))):=by
 simp only [fM,vk,if_neg h,ite_self]
theorem TJ {k':IntKind} (h: ¬b<0):fM .shr (.int k a) (.int k' b)=some (.int k (a.fdiv (2^(min b.toNat k.bits)))):=by
 simp only [fM,vk,if_neg h,ite_self]
end
section
variable {d:Option Nat} {t:Option Nat} {r:List cO} {K:Fr→aA→Prop} {f:Fr} {H:aA}
theorem Em:opsT d [] K f H=K f H:=rfl
theorem En {o:kJ} {g:Nat} {b:Bool}:opsT d (⟨t,o,some (g,b)⟩::r) K f H=(if Eh b (f g)=true then opsT d (⟨t,o,none⟩::r) K f H else opsT (dn d) r K (dR f t undef) H):=by
 have hw:iQ (some (g,b)) f=Eh b (f g):=by simp only [iQ];cases f g<;>rfl
 rw [opsT]
 simp only [hw]
 split
 ·conv=>rhs;rw [opsT]
  simp [iQ]
 ·rfl
theorem Eo {g:Nat} {as:List aN}:opsT d (⟨t, .call g as,none⟩::r) K f H=kP g (as.map (ev f)) H (Iw d t r K f H):=by
 rw [opsT]
 simp [iQ,dn,Iw]
 rfl
theorem oO {o:kJ} (h1: ∀n a v,o≠ .store n a v) (h2: ∀e b s x,o≠ .append e b s x) (h3: ∀g as,o≠ .call g as) (h4: ∀g as,o≠ .kV g as) (h5:(∀n a v fl,o≠ .iw n a v fl)∧ ∀e b s x fl,o≠ .lK e b s x fl):opsT d (⟨t,o,none⟩::r) K f H=jJ (aS o (ev f) H) (lJ d t r K f):=by
 rw [opsT]
 simp only [iQ,if_true]
 cases o<;>first|rfl|exact absurd rfl (h1 _ _ _)|exact absurd rfl (h2 _ _ _ _)|exact absurd rfl (h3 _ _)|exact absurd rfl (h4 _ _)|exact absurd rfl (h5.1 _ _ _ _)|exact absurd rfl (h5.2 _ _ _ _ _)
theorem Ep {n:Nat} {a v:aN}:opsT d (⟨t, .store n a v,none⟩::r) K f H=(kQ d=false∧jJ (BF n (ev f a) (ev f v) H) (lJ d t r K f)):=by
 have h:aS (.store n a v) (ev f) H=BF n (ev f a) (ev f v) H:=by simp only [aS,BF];rfl
 rw [opsT]
 simp only [iQ,if_true,jJ,h]
 cases BF n (ev f a) (ev f v) H<;>simp [dn,lJ]
theorem Es {e b:Nat} {s x:aN}:opsT d (⟨t, .append e b s x,none⟩::r) K f H=(kQ d=false∧jJ (nJ e b (ev f s) (ev f x) H) (lJ d t r K f)):=by
 have h:aS (.append e b s x) (ev f) H=nJ e b (ev f s) (ev f x) H:=by simp only [aS]
 rw [opsT]
 simp only [iQ,if_true,jJ,h]
 cases nJ e b (ev f s) (ev f x) H<;>simp [dn,lJ]
theorem Et {x:aN}:opsT d (⟨t, .move x,none⟩::r) K f H=opsT (dn d) r K (dR f t (ev f x)) H:=by
 rw [oO (by simp) (by simp) (by simp) (by simp) (by simp)];rfl
theorem fE {o:kJ} {w:Option Value} (h1: ∀n a v,o≠ .store n a v) (h2: ∀e b s x,o≠ .append e b s x) (h3: ∀g as,o≠ .call g as) (h4: ∀g as,o≠ .kV g as) (h5:(∀n a v fl,o≠ .iw n a v fl)∧ ∀e b s x fl,o≠ .lK e b s x fl) (h:aS o (ev f) H=w.map fun v=>(v,H)):opsT d (⟨t,o,none⟩::r) K f H=dV w (eH d t r K f H):=by
 rw [oO h1 h2 h3 h4 h5,h]
 show jJ _ _=_
 rw [ad4]
 rfl
theorem Eu {c a b:aN}:opsT d (⟨t, .pick c a b,none⟩::r) K f H=dV (Ei (ev f c) (ev f a) (ev f b)) (eH d t r K f H):=
 fE (by simp) (by simp) (by simp) (by simp) (by simp) (by simp only [aS];cases ev f c<;>rfl)
theorem Ew {op:BinOp} {x y:aN}:opsT d (⟨t, .bin op x y,none⟩::r) K f H=dV (fM op (ev f x) (ev f y)) (eH d t r K f H):=
 fE (by simp) (by simp) (by simp) (by simp) (by simp) (by rfl)
theorem Ey {x:aN}:opsT d (⟨t, .not x,none⟩::r) K f H=dV (Nh (ev f x)) (eH d t r K f H):=
 fE (by simp) (by simp) (by simp) (by simp) (by simp) (by simp only [aS];cases ev f x<;>rfl)
theorem Ez {x:aN}:opsT d (⟨t, .neg x,none⟩::r) K f H=dV (Nj (ev f x)) (eH d t r K f H):=
 fE (by simp) (by simp) (by simp) (by simp) (by simp) (by simp only [aS];cases ev f x<;>rfl)
theorem EC {k:IntKind} {x:aN}:opsT d (⟨t, .conv k x,none⟩::r) K f H=dV (Nk k (ev f x)) (eH d t r K f H):=
 fE (by simp) (by simp) (by simp) (by simp) (by simp) (by simp only [aS];cases ev f x<;>rfl)
theorem ED {n:Bool} {x y:aN}:opsT d (⟨t, .uz n x y,none⟩::r) K f H=dV (IL n (ev f x) (ev f y)) (eH d t r K f H):=
 fE (by simp) (by simp) (by simp) (by simp) (by simp) (by simp only [aS];cases ev f x<;>cases ev f y<;>rfl)
theorem EF {x:aN}:opsT d (⟨t, .len x,none⟩::r) K f H=dV (lenV (ev f x)) (eH d t r K f H):=
 fE (by simp) (by simp) (by simp) (by simp) (by simp) (by simp only [aS];cases ev f x<;>rfl)
theorem EG {x:aN} {j:Nat}:opsT d (⟨t, .extract x j,none⟩::r) K f H=dV (wJ j (ev f x)) (eH d t r K f H):=
 fE (by simp) (by simp) (by simp) (by simp) (by simp) (by simp only [aS];cases ev f x<;>rfl)
theorem EH {xs:List aN}:opsT d (⟨t, .max xs,none⟩::r) K f H=dV (ku max2 (xs.map (ev f))) (eH d t r K f H):=
 fE (by simp) (by simp) (by simp) (by simp) (by simp) (by rfl)
theorem EI {xs:List aN}:opsT d (⟨t, .min xs,none⟩::r) K f H=dV (ku min2 (xs.map (ev f))) (eH d t r K f H):=
 fE (by simp) (by simp) (by simp) (by simp) (by simp) (by rfl)
def Np (neg:Bool):Value→Option Value
 | .slice a _ _=>some (.bool (if neg then !a.isNone else a.isNone))
 | _=>none
theorem TK {n e:Nat}:Np false (.slice none n e)=some (.bool true):=rfl
theorem TL {b o n e:Nat}:Np false (S b o n e)=some (.bool false):=rfl
theorem EJ {n:Bool} {x:aN}:opsT d (⟨t, .eqn n x,none⟩::r) K f H=dV (Np n (ev f x)) (eH d t r K f H):=
 fE (by simp) (by simp) (by simp) (by simp) (by simp) (by simp only [aS];cases ev f x<;>rfl)
theorem EK {e:Nat} {x i:aN}:opsT d (⟨t, .indexAddr none e x i,none⟩::r) K f H=dV (IW e (ev f x) (ev f i)) (eH d t r K f H):=
 fE (by simp) (by simp) (by simp) (by simp) (by simp) (by
  simp only [aS]
  generalize ev f x=vx
  generalize ev f i=vi
  cases vx<;>try rfl
  rename_i a n e'
  cases a<;>try rfl
  rename_i a
  obtain ⟨b,o,sp⟩:=a
  cases sp<;>cases vi<;>try rfl
  simp only [intOf,IW]
  split<;>rfl)
theorem EL {n:Option Nat} {a:aN}:opsT d (⟨t, .load n a,none⟩::r) K f H=dV (IX n H (ev f a)) (eH d t r K f H):=
 fE (by simp) (by simp) (by simp) (by simp) (by simp) (by
  simp only [aS,IX]
  repeat' split
  all_goals simp_all)
theorem EM {e:Nat} {x:aN} {lo hi:Option aN}:opsT d (⟨t, .slice e x lo hi,none⟩::r) K f H=dV (BD e (ev f x) (lo.map (ev f)) (hi.map (ev f))) (eH d t r K f H):=
 fE (by simp) (by simp) (by simp) (by simp) (by simp) (by
  have hc:=fun len=>ad5 (f:=f) (len:=len) (lo:=lo) (hi:=hi)
  simp only [aS]
  generalize ev f x=vx
  cases vx<;>try rfl
  rename_i a n e'
  cases a with
  |none=>
   cases n<;>cases e'<;>try rfl
   simp only [BD,hc]
   rw [Option.map_map]
   rfl
  |some a=>
   obtain ⟨b,o,sp⟩:=a
   cases sp<;>try rfl
   simp only [BD,hc]
   split<;>simp [Option.map_map,Function.comp_def])
theorem EN {e n:Nat} {z:List Value} {p:List (Nat×Nat×aN)}:opsT d (⟨t, .buildSlice e n z p,none⟩::r) K f H=jJ (Ej e n z (p.map fun p=>(p.1,p.2.1,ev f p.2.2)) H) (lJ d t r K f):=by
 rw [oO (by simp) (by simp) (by simp) (by simp) (by simp)];rfl
theorem EO {e b:Nat} {z:List Value} {l c:aN}:opsT d (⟨t, .makeSlice e b z l c,none⟩::r) K f H=jJ (mkV e b z (ev f l) (ev f c) H) (lJ d t r K f):=by
 rw [oO (by simp) (by simp) (by simp) (by simp) (by simp)]
 simp only [aS,mkV]
 rfl
end
theorem Ext.out {lo hi:Nat} {H0 H H':aA} (h:Ext H0 H) (ho:Out lo hi H H') (hl:H0.n≤lo):Ext H0 H':=⟨Nat.le_trans h.n ho.n,fun b hb=>(ho.get b (Nat.lt_of_lt_of_le hb h.n) (.inl (by omega))).trans (h.get b hb)⟩
theorem RF:(type_of% @Jg)∧(type_of% @Ie)∧(type_of% @Ig)∧(type_of% @Ih)∧(type_of% @Ii)∧(type_of% @Ic):=⟨@Jg, @Ie, @Ig, @Ih, @Ii, @Ic⟩
theorem RO:(type_of% @Em)∧(type_of% @En)∧(type_of% @Eo)∧(type_of% @Ep)∧(type_of% @Es)∧(type_of% @Et)∧(type_of% @Eu)∧(type_of% @Ew)∧(type_of% @Ey)∧(type_of% @Ez)∧(type_of% @EC)∧(type_of% @ED)∧(type_of% @EJ)∧(type_of% @TK)∧(type_of% @TL)∧(type_of% @EF)∧(type_of% @EG)∧(type_of% @EH)∧(type_of% @EI)∧(type_of% @EK)∧(type_of% @EL)∧(type_of% @EM)∧(type_of% @EN)∧(type_of% @EO)∧(type_of% @Ee)∧(type_of% @Ed)∧(type_of% @SY)∧(type_of% @Ir)∧(type_of% @Iu)∧(type_of% @Iy)∧(type_of% @Iz)∧(type_of% @jZ)∧(type_of% @kU)∧(type_of% @Ef)∧(type_of% @IB)∧(type_of% @IC)∧(type_of% @S9)∧(type_of% @Tc)∧(type_of% @Td)∧(type_of% @IE)∧(type_of% @IG)∧(type_of% @II)∧(type_of% @IJ)∧(type_of% @IK)∧(type_of% @IQ)∧(type_of% @IU)∧(type_of% @Tf)∧(type_of% @IV)∧(type_of% @ext1)∧(type_of% @Ti)∧(type_of% @Tj)∧(type_of% @Tm)∧(type_of% @Tn)∧(type_of% @Tq)∧(type_of% @Tt)∧(type_of% @Tv)∧(type_of% @Tz)∧(type_of% @TB)∧(type_of% @IY)∧(type_of% @IZ)∧(type_of% @I4)∧(type_of% @I5)∧(type_of% @I7)∧(type_of% @I8)∧(type_of% @I9)∧(type_of% @Ja)∧(type_of% @Jb)∧(type_of% @Jc)∧(type_of% @Jd)∧(type_of% @Je)∧(type_of% @Jf):=⟨@Em, @En, @Eo, @Ep, @Es, @Et, @Eu, @Ew, @Ey, @Ez, @EC, @ED, @EJ, @TK, @TL, @EF, @EG, @EH, @EI, @EK, @EL, @EM, @EN, @EO, @Ee, @Ed, @SY, @Ir, @Iu, @Iy, @Iz, @jZ, @kU, @Ef, @IB, @IC, @S9, @Tc, @Td, @IE, @IG, @II, @IJ, @IK, @IQ, @IU, @Tf, @IV, @ext1, @Ti, @Tj, @Tm, @Tn, @Tq, @Tt, @Tv, @Tz, @TB, @IY, @IZ, @I4, @I5, @I7, @I8, @I9, @Ja, @Jb, @Jc, @Jd, @Je, @Jf⟩
theorem RC:(type_of% @List.map_cons.{0,0})∧(type_of% @List.map_nil.{0,0})∧(type_of% @Option.map_some.{0,0})∧(type_of% @Option.map_none.{0,0})∧(type_of% @ge_iff_le.{0})∧(type_of% @gt_iff_lt.{0})∧(type_of% @decide_eq_true_eq)∧(type_of% @beq_self_eq_true.{0})∧(type_of% @bne_self_eq_false.{0})∧(type_of% @decide_true)∧(type_of% @decide_false)∧(type_of% @Bool.not_true)∧(type_of% @Bool.not_false)∧(type_of% @and_true)∧(type_of% @true_and)∧(type_of% @and_self)∧(type_of% @Bool.false_eq_true)∧(type_of% @beq_iff_eq.{0})∧(type_of% @Int.natCast_nonneg)∧(type_of% @Int.ofNat_lt)∧(type_of% @Int.ofNat_le)∧(type_of% @Int.ofNat_inj)∧(type_of% @Int.toNat_natCast)∧(type_of% @Nat.mul_one)∧(type_of% @Nat.one_mul)∧(type_of% @Nat.zero_add)∧(type_of% @Nat.add_zero)∧(type_of% @Nat.sub_zero)∧(type_of% @List.length_append.{0})∧(type_of% @List.length_map.{0,0})∧(type_of% @List.length_cons.{0})∧(type_of% @List.length_nil.{0})∧(type_of% @List.all_cons.{0})∧(type_of% @List.all_nil.{0})∧(type_of% @Bool.and_true)∧(type_of% @Bool.true_and)∧(type_of% @Bool.not_eq_true)∧(type_of% @beq_true)∧(type_of% @beq_false)∧(type_of% @true_implies)∧(type_of% @false_implies)∧(type_of% @decide_eq_false_iff_not)∧(type_of% @bne_iff_ne.{0})∧(type_of% @ne_eq.{1})∧(type_of% @not_true_eq_false)∧(type_of% @not_false_eq_true)∧(type_of% @Int.natCast_zero)∧(type_of% @Int.toNat_zero):=⟨@List.map_cons.{0,0}, @List.map_nil.{0,0}, @Option.map_some.{0,0}, @Option.map_none.{0,0}, @ge_iff_le.{0}, @gt_iff_lt.{0}, @decide_eq_true_eq, @beq_self_eq_true.{0}, @bne_self_eq_false.{0}, @decide_true, @decide_false, @Bool.not_true, @Bool.not_false, @and_true, @true_and, @and_self, @Bool.false_eq_true, @beq_iff_eq.{0}, @Int.natCast_nonneg, @Int.ofNat_lt, @Int.ofNat_le, @Int.ofNat_inj, @Int.toNat_natCast, @Nat.mul_one, @Nat.one_mul, @Nat.zero_add, @Nat.add_zero, @Nat.sub_zero, @List.length_append.{0}, @List.length_map.{0,0}, @List.length_cons.{0}, @List.length_nil.{0}, @List.all_cons.{0}, @List.all_nil.{0}, @Bool.and_true, @Bool.true_and, @Bool.not_eq_true, @beq_true, @beq_false, @true_implies, @false_implies, @decide_eq_false_iff_not, @bne_iff_ne.{0}, @ne_eq.{1}, @not_true_eq_false, @not_false_eq_true, @Int.natCast_zero, @Int.toNat_zero⟩
theorem RD:(type_of% @dZ)∧(type_of% @eF)∧(type_of% @TD)∧(type_of% @TA)∧(type_of% @BA)∧(type_of% @Ij)∧(type_of% @Ik)∧(type_of% @Il)∧(type_of% @Io)∧(type_of% @Ip)∧(type_of% @Iq)∧(type_of% @Eb)∧(type_of% @SX):=⟨@dZ, @eF, @TD, @TA, @BA, @Ij, @Ik, @Il, @Io, @Ip, @Iq, @Eb, @SX⟩
theorem RN:(type_of% @aG)∧(type_of% @D8)∧(type_of% @D9)∧(type_of% @Ea)∧(type_of% @SL)∧(type_of% @SN)∧(type_of% @SQ):=⟨@aG, @D8, @D9, @Ea, @SL, @SN, @SQ⟩
end Go.Am
