/- Rules by which a run of the small machine is shown, piece by piece. -/
import Derived.Test.YtbpfbfbabpkceaaGreatAmX
set_option linter.unusedVariables false
set_option linter.unusedSimpArgs false
namespace Go.Am
open Go
def T (c:ACode) (Q:Ex→Fr→AHeap→Prop) (f:Fr) (H:AHeap):Prop:= ∃ex f' H',Big Γ X c f H ex f' H'∧Q ex f' H'
def mW (g:Nat) (args:List Value) (H:AHeap) (K:Value→AHeap→Prop):Prop:= ∃v H',Cal Γ X g args H v H'∧K v H'
theorem T.mono {c:ACode} {Q Q':Ex→Fr→AHeap→Prop} {f:Fr} {H:AHeap} (h:T c Q f H) (hq: ∀ex f' H',Q ex f' H'→Q' ex f' H'):T c Q' f H:=by
 obtain ⟨ex,f',H',h1,h2⟩:=h
 exact ⟨ex,f',H',h1,hq _ _ _ h2⟩
theorem mW.mono {g:Nat} {args:List Value} {H:AHeap} {K K':Value→AHeap→Prop} (h:mW g args H K) (hk: ∀v H',K v H'→K' v H'):mW g args H K':=by
 obtain ⟨v,H',h1,h2⟩:=h
 exact ⟨v,H',h1,hk _ _ h2⟩
def gX:Option Nat→Bool
 |some n=>decide (0<n)
 |none=>false
def opsT:Option Nat→List AOper→(Fr→AHeap→Prop)→Fr→AHeap→Prop
 | _,[],K,f,H=>K f H
 |d,o::rest,K,f,H=>
  if wantedA o.guard f=true then
   match o.op with
   | .call g args=>mW g (args.map (ev f)) H fun v H'=>(gX d=true→Ext H H')∧opsT (d.map (· -1)) rest K (updO f o.dst v) H'
   | .callv g args=>
    match ev f g with
    | .func (.func cap) first caps=>first= #[]∧mW cap (args.map (ev f)++caps.toList) H fun v H'=>(gX d=true→Ext H H')∧opsT (d.map (· -1)) rest K (updO f o.dst v) H'
    | _=>False
   | .store n a v=>
    match aOp (.store n a v) (ev f) H with
    |some (v,H')=>gX d=false∧opsT (d.map (· -1)) rest K (updO f o.dst v) H'
    |none=>False
   | .append e b s x=>
    match aOp (.append e b s x) (ev f) H with
    |some (v,H')=>gX d=false∧opsT (d.map (· -1)) rest K (updO f o.dst v) H'
    |none=>False
   | .storeF n a v fl=>
    match aOp (.storeF n a v fl) (ev f) H with
    |some (v,H')=>gX d=false∧opsT (d.map (· -1)) rest K (updO f o.dst v) H'
    |none=>False
   | .appendF .. =>False
   | .mapPut .. =>False
   | .kR .. =>False
   |op=>
    match aOp op (ev f) H with
    |some (v,H')=>opsT (d.map (· -1)) rest K (updO f o.dst v) H'
    |none=>False
  else opsT (d.map (· -1)) rest K (updO f o.dst undef) H
theorem Ext.refl' (H:AHeap):Ext H H:=⟨Nat.le_refl _,fun _ _=>rfl⟩
theorem Ext.alloc (H:AHeap) (cs:List Value):Ext H (H.alloc cs):=⟨Nat.le_succ _,fun b hb=>by
 show (if b=H.n then _ else _)=_
 rw [if_neg (by omega)]⟩
theorem J9 {ao:AOp} {ρ:Opd→Value} {H H':AHeap} {v:Value} (hw:(match ao with| .store .. | .storeF .. | .append .. | .appendF .. | .mapPut .. | .kR .. =>true| _=>false)=false) (h:aOp ao ρ H=some (v,H')):Ext H H':=by
 have key: ∀(x:Option (Value×AHeap)),x=some (v,H')→(∀q,x=some q→Ext H q.2)→Ext H H':=fun x hx hq=>hq _ hx
 refine key _ h fun q hq=>?_
 clear h key
 cases ao<;>simp only [aOp] at hq
 case store=>cases hw
 case storeF=>cases hw
 case append=>cases hw
 case appendF=>cases hw
 case mapPut=>cases hw
 case kR=>cases hw
 case lenMap=>
  simp only [aLen] at hq
  repeat' split at hq
  all_goals first|(cases hq;done)|(cases hq;exact Ext.refl' _)
 case indexAddr arr e x i=>
  cases arr<;>simp only [aOp] at hq
  all_goals
   repeat' split at hq
   all_goals first|(cases hq;done)|(cases hq;exact Ext.refl' _)
 all_goals
  repeat' split at hq
  all_goals first
   |(cases hq;done)
   |(cases hq;exact Ext.refl' _)
   |(cases hq;exact Ext.alloc _ _)
   |(cases hq;exact ⟨Nat.le_trans (Nat.le_succ _) (Nat.le_succ _),fun b hb=>((Ext.alloc _ _).get b (Nat.lt_succ_of_lt hb)).trans ((Ext.alloc _ _).get b hb)⟩)
   |(obtain ⟨_,_,hq⟩:=Option.map_eq_some_iff.1 hq;cases hq;exact Ext.refl' _)
   |(obtain ⟨_,_,hq⟩:=Option.map_eq_some_iff.1 hq;cases hq;exact Ext.alloc _ _)
theorem pI {d:Option Nat} {m:Nat} (h:d=some (m+1)):gX d=true:=by subst h;simp [gX]
theorem nX: ∀(l:List AOper) (d:Option Nat) (K:Fr→AHeap→Prop) (f:Fr) (H:AHeap),opsT d l K f H→ ∃f' H',Ops Γ X d l f H f' H'∧K f' H'
 |[],d,K,f,H,h=>⟨f,H, .nil,h⟩
 |o::rest,d,K,f,H,h=>by
  unfold opsT at h
  split at h
  ·rename_i hw
   split at h
   ·rename_i g args ho
    obtain ⟨v,H1,h1,h2,h3⟩:=h
    obtain ⟨f',H',h4,h5⟩:=nX rest _ K _ H1 h3
    exact ⟨f',H', .cons (.call hw ho h1) (fun m hm=>h2 (pI hm)) h4,h5⟩
   ·rename_i g args ho
    split at h
    ·rename_i cap first caps hg
     obtain ⟨rfl,v,H1,h1,h2,h3⟩:=h
     obtain ⟨f',H',h4,h5⟩:=nX rest _ K _ H1 h3
     exact ⟨f',H', .cons (.callv hw ho (caps:=caps.toList) hg h1) (fun m hm=>h2 (pI hm)) h4,h5⟩
    ·cases h
   ·rename_i n a v ho
    split at h
    ·rename_i v' H1 ha
     obtain ⟨h2,h3⟩:=h
     obtain ⟨f',H',h4,h5⟩:=nX rest _ K _ H1 h3
     exact ⟨f',H', .cons (.op hw (by rw [ho];exact ha)) (fun m hm=>by rw [pI hm] at h2;cases h2) h4,h5⟩
    ·cases h
   ·rename_i e b s x ho
    split at h
    ·rename_i v' H1 ha
     obtain ⟨h2,h3⟩:=h
     obtain ⟨f',H',h4,h5⟩:=nX rest _ K _ H1 h3
     exact ⟨f',H', .cons (.op hw (by rw [ho];exact ha)) (fun m hm=>by rw [pI hm] at h2;cases h2) h4,h5⟩
    ·cases h
   ·rename_i n a v fl ho
    split at h
    ·rename_i v' H1 ha
     obtain ⟨h2,h3⟩:=h
     obtain ⟨f',H',h4,h5⟩:=nX rest _ K _ H1 h3
     exact ⟨f',H', .cons (.op hw (by rw [ho];exact ha)) (fun m hm=>by rw [pI hm] at h2;cases h2) h4,h5⟩
    ·cases h
   ·cases h
   ·cases h
   ·cases h
   ·rename_i op h1 h2 h3 h4 h5 h6 h7 h8
    split at h
    ·rename_i v' H1 ha
     obtain ⟨f',H',k7,k8⟩:=nX rest _ K _ H1 h
     refine ⟨f',H', .cons (.op hw ha) (fun m hm=>J9 ?_ ha) k7,k8⟩
     split
     ·rename_i n a v e;exact absurd e (h3 n a v)
     ·rename_i n a v x e;exact absurd e (h5 n a v x)
     ·rename_i n a v x e;exact absurd e (h4 n a v x)
     ·rename_i n a v x y e;exact absurd e (h6 n a v x y)
     ·rename_i qs x k e;exact absurd e (h7 qs x k)
     ·rename_i z x e;exact absurd e (h8 z x)
     ·rfl
    ·cases h
  ·rename_i hw
   obtain ⟨f',H',h1,h2⟩:=nX rest _ K _ H h
   exact ⟨f',H', .cons (.skip (by simpa using hw)) (fun m hm=>Ext.refl' _) h1,h2⟩
section
variable {Q:Ex→Fr→AHeap→Prop} {f:Fr} {H:AHeap}
theorem pJ (h:Q .normal f H):T .skip Q f H:=⟨_,_,_, .skip,h⟩
theorem EI (h:Q .ret f H):T .ret Q f H:=⟨_,_,_, .ret,h⟩
theorem Ko {id:Nat} (h:Q (.exit id) f H):T (.exit id) Q f H:=⟨_,_,_, .exit,h⟩
theorem yj {d:Option Nat} {l:List AOper} (h:opsT d l (Q .normal) f H):T (.region d l) Q f H:=by
 obtain ⟨f',H',h1,h2⟩:=nX l d _ f H h
 exact ⟨_,_,_, .region h1,h2⟩
def dH (b:ACode) (Q:Ex→Fr→AHeap→Prop):Ex→Fr→AHeap→Prop
 | .normal,f,H=>T b Q f H
 |ex,f,H=>Q ex f H
theorem pG {a b:ACode} (h:T a (dH b Q) f H):T (.seq a b) Q f H:=by
 obtain ⟨ex,f1,H1,h1,h2⟩:=h
 cases ex with
 |normal=>
  obtain ⟨ex,f',H',h3,h4⟩:=h2
  exact ⟨ex,f',H', .seqN h1 h3,h4⟩
 |exit id=>exact ⟨_,f1,H1, .seqX h1 (by simp),h2⟩
 |ret=>exact ⟨_,f1,H1, .seqX h1 (by simp),h2⟩
theorem au {d:Option Nat} {l:List AOper} {b:ACode} (h: ∀K:Fr→AHeap→Prop,(∀f' H',T b Q f' H'→K f' H')→opsT d l K f H):T (.seq (.region d l) b) Q f H:=
 pG (yj (h _ fun _ _ h=>h))
theorem dN {d:Option Nat} {l:List AOper} (h: ∀K:Fr→AHeap→Prop,(∀f' H',Q .normal f' H'→K f' H')→opsT d l K f H):T (.region d l) Q f H:=yj (h _ fun _ _ h=>h)
theorem WV {a b c:ACode} (h:T (.seq a (.seq b c)) Q f H):T (.seq (.seq a b) c) Q f H:=by
 obtain ⟨ex,f',H',h1,h2⟩:=h
 cases h1 with
 |seqN ha hb=>
  cases hb with
  |seqN hb hc=>exact ⟨_,_,_, .seqN (.seqN ha hb) hc,h2⟩
  |seqX hb hne=>exact ⟨_,_,_, .seqX (.seqN ha hb) hne,h2⟩
 |seqX ha hne=>exact ⟨_,_,_, .seqX (.seqX ha hne) hne,h2⟩
theorem jX {c:Opd} {a b:ACode} {t:Bool} (hc:ev f c= .bool t) (h:T (if t then a else b) Q f H):T (.cond c a b) Q f H:=by
 obtain ⟨ex,f',H',h1,h2⟩:=h
 exact ⟨ex,f',H', .cond hc h1,h2⟩
theorem Xd {c:Opd} {a b:ACode} (hc:ev f c= .bool true) (h:T a Q f H):T (.cond c a b) Q f H:=jX hc h
theorem Xe {c:Opd} {a b:ACode} (hc:ev f c= .bool false) (h:T b Q f H):T (.cond c a b) Q f H:=jX hc h
theorem agn {c:Opd} {a b:ACode} {p:Prop} [Decidable p] (hc:ev f c= .bool (decide p)) (ht:p→T a Q f H) (he: ¬p→T b Q f H):T (.cond c a b) Q f H:=by
 by_cases hp:p
 ·exact Xd (by simpa [hp] using hc) (ht hp)
 ·exact Xe (by simpa [hp] using hc) (he hp)
theorem dY {c:Opd} {a b r:ACode} {t:Bool} (hc:ev f c= .bool t) (h:T (.seq (if t then a else b) r) Q f H):T (.seq (.cond c a b) r) Q f H:=by
 obtain ⟨ex,f',H',h1,h2⟩:=h
 cases h1 with
 |seqN ha hb=>exact ⟨_,_,_, .seqN (.cond hc ha) hb,h2⟩
 |seqX ha hne=>exact ⟨_,_,_, .seqX (.cond hc ha) hne,h2⟩
theorem WW {b:ACode} (h:T b Q f H):T (.seq .skip b) Q f H:=pG (pJ h)
theorem agp {b:ACode} (h:Q .ret f H):T (.seq .ret b) Q f H:=pG (EI h)
def bW (id:Nat) (Q:Ex→Fr→AHeap→Prop):Ex→Fr→AHeap→Prop
 | .exit i,f,H=>if i=id then Q .normal f H else Q (.exit i) f H
 |ex,f,H=>Q ex f H
theorem uK {id:Nat} {a:ACode} (h:T a (bW id Q) f H):T (.block id a) Q f H:=by
 obtain ⟨ex,f1,H1,h1,h2⟩:=h
 cases ex with
 |normal=>exact ⟨_,f1,H1, .block h1 (by simp),h2⟩
 |exit i=>
  simp only [bW] at h2
  split at h2
  ·rename_i e
   subst e
   exact ⟨_,f1,H1, .blockX h1,h2⟩
  ·rename_i e
   exact ⟨_,f1,H1, .block h1 (by simpa using e),h2⟩
 |ret=>exact ⟨_,f1,H1, .block h1 (by simp),h2⟩
def dG (J:Fr→AHeap→Prop) (Q:Ex→Fr→AHeap→Prop):Ex→Fr→AHeap→Prop
 | .normal,f,H=>J f H
 |ex,f,H=>Q ex f H
theorem Ey {a:ACode} (I:Nat→Fr→AHeap→Prop) (n:Nat) (h0:I n f H) (hr: ∀n f H,I n f H→T a (dG (fun f' H'=> ∃m,m<n∧I m f' H') Q) f H):T (.loop a) Q f H:=by
 induction n using Nat.strongRecOn generalizing f H with
 | _ n ih=>
  obtain ⟨ex,f1,H1,h1,h2⟩:=hr n f H h0
  cases ex with
  |normal=>
   obtain ⟨m,hm,hI⟩:=h2
   obtain ⟨ex,f',H',h3,h4⟩:=ih m hm hI
   exact ⟨ex,f',H', .loopN h1 h3,h4⟩
  |exit i=>exact ⟨_,f1,H1, .loopX h1 (by simp),h2⟩
  |ret=>exact ⟨_,f1,H1, .loopX h1 (by simp),h2⟩
def mg (rs:List ARes) (K:Value→AHeap→Prop):Ex→Fr→AHeap→Prop
 | .normal,f,H=> ∃vs,resAll f H rs=some vs∧K (tup vs) H
 | .ret,f,H=> ∃vs,resAll f H rs=some vs∧K (tup vs) H
 | .exit _,_,_=>False
theorem agq {g:Nat} {fn:AFunc} {args:List Value} {K:Value→AHeap→Prop} (hg:Γ g=some fn) (h:T fn.body (mg fn.results K) (frame0 args) H):mW g args H K:=by
 obtain ⟨ex,f',H',h1,h2⟩:=h
 cases ex with
 |normal=>obtain ⟨vs,h3,h4⟩:=h2;exact ⟨_,H', .body hg h1 (.inl rfl) h3,h4⟩
 |ret=>obtain ⟨vs,h3,h4⟩:=h2;exact ⟨_,H', .body hg h1 (.inr rfl) h3,h4⟩
 |exit i=>cases h2
end
theorem WY (H:AHeap) (cs:List Value):(H.alloc cs).get H.n=some ⟨cs,true⟩:=by simp [AHeap.alloc]
theorem Xf (H:AHeap) (cs:List Value) (b:Nat) (h:b≠H.n):(H.alloc cs).get b=H.get b:=by simp [AHeap.alloc,h]
theorem get_set_same (H:AHeap) (b:Nat) (cs:List Value):(H.set b cs).get b=some ⟨cs,true⟩:=by simp [AHeap.set]
theorem JE (H:AHeap) (b x:Nat) (cs:List Value) (h:x≠b):(H.set b cs).get x=H.get x:=by simp [AHeap.set,h]
theorem Xg (H:AHeap) (b x:Nat) (h:x≠b):(H.kill b).get x=H.get x:=by simp [AHeap.kill,h]
theorem agr (H:AHeap) (cs:List Value):(H.alloc cs).n=H.n+1:=rfl
theorem ags (H:AHeap) (b:Nat) (cs:List Value):(H.set b cs).n=H.n:=rfl
theorem agt (H:AHeap) (b:Nat):(H.kill b).n=H.n:=rfl
theorem Ext.set {H H':AHeap} (h:Ext H H') {b:Nat} (hb:H.n≤b) (cs:List Value):Ext H (H'.set b cs):=⟨h.n,fun x hx=>by rw [JE _ _ _ _ (by omega)];exact h.get x hx⟩
theorem Ext.kill {H H':AHeap} (h:Ext H H') {b:Nat} (hb:H.n≤b):Ext H (H'.kill b):=⟨h.n,fun x hx=>by rw [Xg _ _ _ (by omega)];exact h.get x hx⟩
theorem Ext.alloc' {H H':AHeap} (h:Ext H H') (cs:List Value):Ext H (H'.alloc cs):=⟨Nat.le_trans h.n (Nat.le_succ _),fun x hx=>by rw [Xf _ _ _ (by have:=h.n;omega)];exact h.get x hx⟩
theorem Ext.trans' {H H1 H2:AHeap} (h:Ext H H1) (k:Ext H1 H2):Ext H H2:=⟨Nat.le_trans h.n k.n,fun b hb=>(k.get b (Nat.lt_of_lt_of_le hb h.n)).trans (h.get b hb)⟩
end Go.Am
