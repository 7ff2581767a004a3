/- Rules by which a run of the small machine is shown, piece by piece. -/
import Derived.Test.YtkapkmjofpoebaaGreatAmX
set_option linter.unusedVariables false
set_option linter.unusedSimpArgs false
namespace Go.Am
open Go
def T (c:aj) (Q:Ex→Fr→aA→Prop) (f:Fr) (H:aA):Prop:= ∃ex f' H',Big Γ X c f H ex f' H'∧Q ex f' H'
def kP (g:Nat) (args:List Value) (H:aA) (K:Value→aA→Prop):Prop:= ∃v H',Cal Γ X g args H v H'∧K v H'
theorem T.mono {c:aj} {Q Q':Ex→Fr→aA→Prop} {f:Fr} {H:aA} (h:T c Q f H) (hq: ∀ex f' H',Q ex f' H'→Q' ex f' H'):T c Q' f H:=by
 obtain ⟨ex,f',H',h1,h2⟩:=h
 exact ⟨ex,f',H',h1,hq _ _ _ h2⟩
theorem kP.mono {g:Nat} {args:List Value} {H:aA} {K K':Value→aA→Prop} (h:kP g args H K) (hk: ∀v H',K v H'→K' v H'):kP g args H K':=by
 obtain ⟨v,H',h1,h2⟩:=h
 exact ⟨v,H',h1,hk _ _ h2⟩
def kQ:Option Nat→Bool
 |some n=>decide (0<n)
 |none=>false
def opsT:Option Nat→List cO→(Fr→aA→Prop)→Fr→aA→Prop
 | _,[],K,f,H=>K f H
 |d,o::rest,K,f,H=>
  if iQ o.guard f=true then
   match o.op with
   | .call g args=>kP g (args.map (ev f)) H fun v H'=>(kQ d=true→Ext H H')∧opsT (d.map (· -1)) rest K (dR f o.dst v) H'
   | .kV g args=>
    match ev f g with
    | .func (.func cap) first caps=>first= #[]∧kP cap (args.map (ev f)++caps.toList) H fun v H'=>(kQ d=true→Ext H H')∧opsT (d.map (· -1)) rest K (dR f o.dst v) H'
    | _=>False
   | .store n a v=>
    match aS (.store n a v) (ev f) H with
    |some (v,H')=>kQ d=false∧opsT (d.map (· -1)) rest K (dR f o.dst v) H'
    |none=>False
   | .append e b s x=>
    match aS (.append e b s x) (ev f) H with
    |some (v,H')=>kQ d=false∧opsT (d.map (· -1)) rest K (dR f o.dst v) H'
    |none=>False
   | .iw n a v fl=>
    match aS (.iw n a v fl) (ev f) H with
    |some (v,H')=>kQ d=false∧opsT (d.map (· -1)) rest K (dR f o.dst v) H'
    |none=>False
   | .lK .. =>False
   |op=>
    match aS op (ev f) H with
    |some (v,H')=>opsT (d.map (· -1)) rest K (dR f o.dst v) H'
    |none=>False
  else opsT (d.map (· -1)) rest K (dR f o.dst undef) H
theorem Ext.refl' (H:aA):Ext H H:=⟨Nat.le_refl _,fun _ _=>rfl⟩
theorem Ext.alloc (H:aA) (cs:List Value):Ext H (H.alloc cs):=⟨Nat.le_succ _,fun b hb=>by
 show (if b=H.n then _ else _)=_
 rw [if_neg (by omega)]⟩
theorem TM {ao:kJ} {ρ:aN→Value} {H H':aA} {v:Value} (hw:(match ao with| .store .. | .iw .. | .append .. | .lK .. =>true| _=>false)=false) (h:aS ao ρ H=some (v,H')):Ext H H':=by
 have key: ∀(x:Option (Value×aA)),x=some (v,H')→(∀q,x=some q→Ext H q.2)→Ext H H':=fun x hx hq=>hq _ hx
 refine key _ h fun q hq=>?_
 clear h key
 cases ao<;>simp only [aS] at hq
 case store=>cases hw
 case iw=>cases hw
 case append=>cases hw
 case lK=>cases hw
 case indexAddr arr e x i=>
  cases arr<;>simp only [aS] at hq
  all_goals
   repeat' split at hq
   all_goals first|(cases hq;done)|(cases hq;exact Ext.refl' _)
 all_goals
  repeat' split at hq
  all_goals first
   |(cases hq;done)
   |(cases hq;exact Ext.refl' _)
   |(cases hq;exact Ext.alloc _ _)
   |(obtain ⟨_,_,hq⟩:=Option.map_eq_some_iff.1 hq;cases hq;exact Ext.refl' _)
   |(obtain ⟨_,_,hq⟩:=Option.map_eq_some_iff.1 hq;cases hq;exact Ext.alloc _ _)
theorem wK {d:Option Nat} {m:Nat} (h:d=some (m+1)):kQ d=true:=by subst h;simp [kQ]
theorem uD: ∀(l:List cO) (d:Option Nat) (K:Fr→aA→Prop) (f:Fr) (H:aA),opsT d l K f H→ ∃f' H',Ops Γ X d l f H f' H'∧K f' H'
 |[],d,K,f,H,h=>⟨f,H, .nil,h⟩
 |o::rest,d,K,f,H,h=>by
  unfold opsT at h
  split at h
  ·rename_i hw
   split at h
   ·rename_i g args ho
    obtain ⟨v,H1,h1,h2,h3⟩:=h
    obtain ⟨f',H',h4,h5⟩:=uD rest _ K _ H1 h3
    exact ⟨f',H', .cons (.call hw ho h1) (fun m hm=>h2 (wK hm)) h4,h5⟩
   ·rename_i g args ho
    split at h
    ·rename_i cap first caps hg
     obtain ⟨rfl,v,H1,h1,h2,h3⟩:=h
     obtain ⟨f',H',h4,h5⟩:=uD rest _ K _ H1 h3
     exact ⟨f',H', .cons (.kV hw ho (caps:=caps.toList) hg h1) (fun m hm=>h2 (wK hm)) h4,h5⟩
    ·cases h
   ·rename_i n a v ho
    split at h
    ·rename_i v' H1 ha
     obtain ⟨h2,h3⟩:=h
     obtain ⟨f',H',h4,h5⟩:=uD rest _ K _ H1 h3
     exact ⟨f',H', .cons (.op hw (by rw [ho];exact ha)) (fun m hm=>by rw [wK hm] at h2;cases h2) h4,h5⟩
    ·cases h
   ·rename_i e b s x ho
    split at h
    ·rename_i v' H1 ha
     obtain ⟨h2,h3⟩:=h
     obtain ⟨f',H',h4,h5⟩:=uD rest _ K _ H1 h3
     exact ⟨f',H', .cons (.op hw (by rw [ho];exact ha)) (fun m hm=>by rw [wK hm] at h2;cases h2) h4,h5⟩
    ·cases h
   ·rename_i n a v fl ho
    split at h
    ·rename_i v' H1 ha
     obtain ⟨h2,h3⟩:=h
     obtain ⟨f',H',h4,h5⟩:=uD rest _ K _ H1 h3
     exact ⟨f',H', .cons (.op hw (by rw [ho];exact ha)) (fun m hm=>by rw [wK hm] at h2;cases h2) h4,h5⟩
    ·cases h
   ·cases h
   ·rename_i op h1 h2 h3 h4 h5 h6
    split at h
    ·rename_i v' H1 ha
     obtain ⟨f',H',h7,h8⟩:=uD rest _ K _ H1 h
     refine ⟨f',H', .cons (.op hw ha) (fun m hm=>TM ?_ ha) h7,h8⟩
     split
     ·rename_i n a v e;exact absurd e (h3 n a v)
     ·rename_i n a v x e;exact absurd e (h5 n a v x)
     ·rename_i n a v x e;exact absurd e (h4 n a v x)
     ·rename_i n a v x y e;exact absurd e (h6 n a v x y)
     ·rfl
    ·cases h
  ·rename_i hw
   obtain ⟨f',H',h1,h2⟩:=uD rest _ K _ H h
   exact ⟨f',H', .cons (.skip (by simpa using hw)) (fun m hm=>Ext.refl' _) h1,h2⟩
section
variable {Q:Ex→Fr→aA→Prop} {f:Fr} {H:aA}
theorem wL (h:Q .normal f H):T .skip Q f H:=⟨_,_,_, .skip,h⟩
theorem Nq (h:Q .ret f H):T .ret Q f H:=⟨_,_,_, .ret,h⟩
theorem TN {id:Nat} (h:Q (.exit id) f H):T (.exit id) Q f H:=⟨_,_,_, .exit,h⟩
theorem EP {d:Option Nat} {l:List cO} (h:opsT d l (Q .normal) f H):T (.region d l) Q f H:=by
 obtain ⟨f',H',h1,h2⟩:=uD l d _ f H h
 exact ⟨_,_,_, .region h1,h2⟩
def iH (b:aj) (Q:Ex→Fr→aA→Prop):Ex→Fr→aA→Prop
 | .normal,f,H=>T b Q f H
 |ex,f,H=>Q ex f H
theorem uZ {a b:aj} (h:T a (iH b Q) f H):T (.seq a b) Q f H:=by
 obtain ⟨ex,f1,H1,h1,h2⟩:=h
 cases ex with
 |normal=>
  obtain ⟨ex,f',H',h3,h4⟩:=h2
  exact ⟨ex,f',H', .gq h1 h3,h4⟩
 |exit id=>exact ⟨_,f1,H1, .fG h1 (by simp),h2⟩
 |ret=>exact ⟨_,f1,H1, .fG h1 (by simp),h2⟩
theorem bD {d:Option Nat} {l:List cO} {b:aj} (h: ∀K:Fr→aA→Prop,(∀f' H',T b Q f' H'→K f' H')→opsT d l K f H):T (.seq (.region d l) b) Q f H:=
 uZ (EP (h _ fun _ _ h=>h))
theorem oQ {d:Option Nat} {l:List cO} (h: ∀K:Fr→aA→Prop,(∀f' H',Q .normal f' H'→K f' H')→opsT d l K f H):T (.region d l) Q f H:=EP (h _ fun _ _ h=>h)
theorem adY {a b c:aj} (h:T (.seq a (.seq b c)) Q f H):T (.seq (.seq a b) c) Q f H:=by
 obtain ⟨ex,f',H',h1,h2⟩:=h
 cases h1 with
 |gq ha hb=>
  cases hb with
  |gq hb hc=>exact ⟨_,_,_, .gq (.gq ha hb) hc,h2⟩
  |fG hb hne=>exact ⟨_,_,_, .fG (.gq ha hb) hne,h2⟩
 |fG ha hne=>exact ⟨_,_,_, .fG (.fG ha hne) hne,h2⟩
theorem pJ {c:aN} {a b:aj} {t:Bool} (hc:ev f c= .bool t) (h:T (if t then a else b) Q f H):T (.cond c a b) Q f H:=by
 obtain ⟨ex,f',H',h1,h2⟩:=h
 exact ⟨ex,f',H', .cond hc h1,h2⟩
theorem ad6 {c:aN} {a b:aj} (hc:ev f c= .bool true) (h:T a Q f H):T (.cond c a b) Q f H:=pJ hc h
theorem ad7 {c:aN} {a b:aj} (hc:ev f c= .bool false) (h:T b Q f H):T (.cond c a b) Q f H:=pJ hc h
theorem apH {c:aN} {a b:aj} {p:Prop} [Decidable p] (hc:ev f c= .bool (decide p)) (ht:p→T a Q f H) (he: ¬p→T b Q f H):T (.cond c a b) Q f H:=by
 by_cases hp:p
 ·exact ad6 (by simpa [hp] using hc) (ht hp)
 ·exact ad7 (by simpa [hp] using hc) (he hp)
theorem dW {c:aN} {a b r:aj} {t:Bool} (hc:ev f c= .bool t) (h:T (.seq (if t then a else b) r) Q f H):T (.seq (.cond c a b) r) Q f H:=by
 obtain ⟨ex,f',H',h1,h2⟩:=h
 cases h1 with
 |gq ha hb=>exact ⟨_,_,_, .gq (.cond hc ha) hb,h2⟩
 |fG ha hne=>exact ⟨_,_,_, .fG (.cond hc ha) hne,h2⟩
theorem adZ {b:aj} (h:T b Q f H):T (.seq .skip b) Q f H:=uZ (wL h)
theorem apI {b:aj} (h:Q .ret f H):T (.seq .ret b) Q f H:=uZ (Nq h)
def gu (id:Nat) (Q:Ex→Fr→aA→Prop):Ex→Fr→aA→Prop
 | .exit i,f,H=>if i=id then Q .normal f H else Q (.exit i) f H
 |ex,f,H=>Q ex f H
theorem zU {id:Nat} {a:aj} (h:T a (gu id Q) f H):T (.block id a) Q f H:=by
 obtain ⟨ex,f1,H1,h1,h2⟩:=h
 cases ex with
 |normal=>exact ⟨_,f1,H1, .block h1 (by simp),h2⟩
 |exit i=>
  simp only [gu] at h2
  split at h2
  ·rename_i e
   subst e
   exact ⟨_,f1,H1, .Na h1,h2⟩
  ·rename_i e
   exact ⟨_,f1,H1, .block h1 (by simpa using e),h2⟩
 |ret=>exact ⟨_,f1,H1, .block h1 (by simp),h2⟩
def iP (J:Fr→aA→Prop) (Q:Ex→Fr→aA→Prop):Ex→Fr→aA→Prop
 | .normal,f,H=>J f H
 |ex,f,H=>Q ex f H
theorem MZ {a:aj} (I:Nat→Fr→aA→Prop) (n:Nat) (h0:I n f H) (hr: ∀n f H,I n f H→T a (iP (fun f' H'=> ∃m,m<n∧I m f' H') Q) f H):T (.loop a) Q f H:=by
 induction n using Nat.strongRecOn generalizing f H with
 | _ n ih=>
  obtain ⟨ex,f1,H1,h1,h2⟩:=hr n f H h0
  cases ex with
  |normal=>
   obtain ⟨m,hm,hI⟩:=h2
   obtain ⟨ex,f',H',h3,h4⟩:=ih m hm hI
   exact ⟨ex,f',H', .TP h1 h3,h4⟩
  |exit i=>exact ⟨_,f1,H1, .Jh h1 (by simp),h2⟩
  |ret=>exact ⟨_,f1,H1, .Jh h1 (by simp),h2⟩
def jq (rs:List oU) (K:Value→aA→Prop):Ex→Fr→aA→Prop
 | .normal,f,H=> ∃vs,dS f H rs=some vs∧K (aF vs) H
 | .ret,f,H=> ∃vs,dS f H rs=some vs∧K (aF vs) H
 | .exit _,_,_=>False
theorem vw {g:Nat} {fn:aZ} {args:List Value} {K:Value→aA→Prop} (hg:Γ g=some fn) (h:T fn.body (jq fn.results K) (qE args) H):kP g args H K:=by
 obtain ⟨ex,f',H',h1,h2⟩:=h
 cases ex with
 |normal=>obtain ⟨vs,h3,h4⟩:=h2;exact ⟨_,H', .body hg h1 (.inl rfl) h3,h4⟩
 |ret=>obtain ⟨vs,h3,h4⟩:=h2;exact ⟨_,H', .body hg h1 (.inr rfl) h3,h4⟩
 |exit i=>cases h2
end
theorem Nc (H:aA) (cs:List Value):(H.alloc cs).get H.n=some ⟨cs,true⟩:=by simp [aA.alloc]
theorem TQ (H:aA) (cs:List Value) (b:Nat) (h:b≠H.n):(H.alloc cs).get b=H.get b:=by simp [aA.alloc,h]
theorem get_set_same (H:aA) (b:Nat) (cs:List Value):(H.set b cs).get b=some ⟨cs,true⟩:=by simp [aA.set]
theorem Ec (H:aA) (b x:Nat) (cs:List Value) (h:x≠b):(H.set b cs).get x=H.get x:=by simp [aA.set,h]
theorem ad8 (H:aA) (b x:Nat) (h:x≠b):(H.kill b).get x=H.get x:=by simp [aA.kill,h]
theorem Ji (H:aA) (cs:List Value):(H.alloc cs).n=H.n+1:=rfl
theorem apJ (H:aA) (b:Nat) (cs:List Value):(H.set b cs).n=H.n:=rfl
theorem apK (H:aA) (b:Nat):(H.kill b).n=H.n:=rfl
theorem Ext.set {H H':aA} (h:Ext H H') {b:Nat} (hb:H.n≤b) (cs:List Value):Ext H (H'.set b cs):=⟨h.n,fun x hx=>by rw [Ec _ _ _ _ (by omega)];exact h.get x hx⟩
theorem Ext.kill {H H':aA} (h:Ext H H') {b:Nat} (hb:H.n≤b):Ext H (H'.kill b):=⟨h.n,fun x hx=>by rw [ad8 _ _ _ (by omega)];exact h.get x hx⟩
theorem Ext.alloc' {H H':aA} (h:Ext H H') (cs:List Value):Ext H (H'.alloc cs):=⟨Nat.le_trans h.n (Nat.le_succ _),fun x hx=>by rw [TQ _ _ _ (by have:=h.n;omega)];exact h.get x hx⟩
theorem Ext.trans' {H H1 H2:aA} (h:Ext H H1) (k:Ext H1 H2):Ext H H2:=⟨Nat.le_trans h.n k.n,fun b hb=>(k.get b (Nat.lt_of_lt_of_le hb h.n)).trans (h.get b hb)⟩
end Go.Am
