/- DpTk, DpLa, DpNa, DpLb, DpLc -/
import Derived.Laws.Strings
import Derived.Test.YtkapkmjofpoebaaGreatDpG1
import Derived.Test.YtkapkmjofpoebaaGreatDpG3
set_option linter.unusedVariables false
set_option linter.unusedSimpArgs false
namespace Go.Bm
open Go Go.Am
section
variable {n:Nat} {b w:List Nat}
def oq (b w:List Nat) (n:Nat) (k:Nat) (r:List Nat):Prop:=
 ∃c x,Mid b w n c x k∧((k%2=1∧r=[2,x])∨(k%2=0∧r=[ct c,nl (vl b w n (ends b w n c x)) 0]))
theorem oq.uniq (hd:bC n b w) (ht:Tree n b w) {k k':Nat} {r r':List Nat} (h:oq b w n k r) (h':oq b w n k' r'):k=k'∧r=r':=by
 obtain ⟨c,x,h1,h2⟩:=h
 obtain ⟨c',x',h1',h2'⟩:=h'
 obtain ⟨rfl,e2,e3⟩:=h1.uniq hd ht h1'
 refine ⟨rfl,?_⟩
 rcases h2 with ⟨h2,rfl⟩|⟨h2,rfl⟩<;>rcases h2' with ⟨h2',rfl⟩|⟨h2',rfl⟩
 ·rw [e2 h2]
 ·omega
 ·omega
 ·rw [(e3 h2).1,(e3 h2).2]
open Classical in
noncomputable def rY (n:Int) (b w:List Nat):Nat:=if h: ∃k r,oq b w n.toNat k r then h.choose else 0
open Classical in
noncomputable def kT (n:Int) (b w:List Nat):List Nat:=if h: ∃k r,oq b w n.toNat k r then h.choose_spec.choose else []
theorem oq.res (hd:bC n b w) (ht:Tree n b w) {k:Nat} {r:List Nat} (h:oq b w n k r):rY n b w=k∧kT n b w=r:=by
 have hex: ∃k r,oq b w (n:Int).toNat k r:=⟨k,r,by rw [Int.toNat_natCast];exact h⟩
 have h2:oq b w n hex.choose hex.choose_spec.choose:=hex.choose_spec.choose_spec
 obtain ⟨e1,e2⟩:=h2.uniq hd ht h
 rw [rY,dif_pos hex,kT,dif_pos hex]
 exact ⟨e1,e2⟩
theorem LP.Gt {e s:List Nat} (h:LP b w n e s):(e.length%2=1∧oq b w n e.length [2,nl e (e.length/2)]∧e.length/2<e.length)∨
  (e.length%2=0∧e.length/2<s.length∧ ∃c x,x<n∧nl s (e.length/2)=ends b w n c x∧oq b w n e.length [ct c,nl (vl b w n (ends b w n c x)) 0]):=by
 obtain ⟨cu,pre,x,l,h1,h2,h3,h4,h5⟩:=h
 have hel:e.length=pre.length+(l.length+1):=by rw [h1];simp
 rcases h4 with h4|h4
 ·refine .inl ⟨by omega,?_,by omega⟩
  have e1:e.length/2=pre.length:=by omega
  have e2:nl e pre.length=x:=by rw [h1];exact Qa
  rw [e1,e2]
  exact ⟨_,x,h3, .inl ⟨by omega,rfl⟩⟩
 ·refine .inr ⟨by omega,by omega,_,x,h3.1,by rw [show e.length/2=pre.length+1 by omega];exact h5,_,x,h3, .inr ⟨by omega,rfl⟩⟩
theorem LQ.Gt {e:List Nat} {cu:Bool} (h:LQ b w n e cu):(e.length%2=1∧oq b w n e.length [2,nl e (e.length/2)]∧e.length/2<e.length)∨
  (e.length%2=0∧e.length/2<e.length∧ ∃c y,c=(cu !=decide (e.length/2%2=1))∧y<n∧nl e (e.length/2)=y∧oq b w n e.length [ct c,nl (vl b w n (ends b w n c y)) 0]):=by
 obtain ⟨pre,x,l,h1,h3,h4,h5⟩:=h
 have hel:e.length=pre.length+(l.length+1):=by rw [h1];simp
 rcases h4 with h4|h4
 ·refine .inl ⟨by omega,?_,by omega⟩
  have e1:e.length/2=pre.length:=by omega
  have e2:nl e pre.length=x:=by rw [h1];exact Qa
  rw [e1,e2]
  exact ⟨_,x,h3, .inl ⟨by omega,rfl⟩⟩
 ·match l,h4,h5 with
  |y::l',h4,h5=>
   obtain ⟨k1,k2⟩:=h5 y l' rfl
   have e1:e.length/2=pre.length+1:=by rw [List.length_cons] at h4 hel;omega
   have e2:nl e (pre.length+1)=y:=by
    rw [h1]
    simp [nl,List.getD]
   have e3:(!(cu^^decide (pre.length%2=1)))=(cu !=decide ((pre.length+1)%2=1)):=by
    rcases Nat.mod_two_eq_zero_or_one pre.length with e|e<;>cases cu<;>simp [e]<;>omega
   rw [List.length_cons] at h4 hel
   refine .inr ⟨by omega,by omega,_,y,rfl,k1,by rw [e1,e2],?_⟩
   rw [e1,←e3,k2]
   exact ⟨_,x,h3, .inr ⟨by omega,rfl⟩⟩
def xE (n:Int) (b w:List Nat) (k:Nat):Int×Int:=if fV n b w []=0 then (k,0) else (0,fV n b w [])
end
theorem al4 {x:Bool} {n:Int} {b w:List Nat} {H:BH} {K:Value→BH→Prop} (hb:By 16 b) (hw:By 16 w)
  (hK:K (.tuple ⟨[I (xE n b w (rY n b w)).1,I (xE n b w (rY n b w)).2]⟩) H):aJ x aeo [DV n b w] H K:=by
 have hlb:=hb.len
 have cZ:=hw.len
 refine dw (.cons fC .nil) ?_
 refine bf afT ?_;simp only [pO,aG]
 refine au @aH ?_
 refine aY (aC @aH @aK) fun Kr hKr=>?_
 refine CQ 1 ?_
 simp only [List.map_cons,List.map_nil,nT]
 refine Dc (xs:=[]) hb hw (by simp) ?_
 refine aO ?_
 refine aI hKr ?_
 by_cases h0:fV n b w []=0
 ·obtain ⟨hd,ht⟩:=zu h0
  rw [xE,if_pos h0] at hK
  obtain ⟨m,rfl,hm1,hm2⟩:=hd.n0
  rw [Int.toNat_natCast] at ht
  refine au @h0 ?_
  refine bY ?_
  refine aY (aC @aH @aK) fun Kr hKr=>?_
  refine aaW hb hw hd ht fun e s he hel=>?_
  have hc:rY m b w=e.length:=by
   rcases he.Gt with ⟨_,h,_⟩|⟨_,_,c,x,_,_,h⟩
   ·exact (h.res hd ht).1
   ·exact (h.res hd ht).1
  rw [hc] at hK
  refine aO ?_
  refine aI hKr ?_
  refine aB ?_
  refine aU ?_
  exact ⟨Di,hK⟩
 ·rw [xE,if_neg h0] at hK
  refine aB ?_
  refine dI ?_
  refine aB ?_
  refine aU ?_
  exact ⟨Di,hK⟩
theorem al5 {x:Bool} {n:Int} {b w:List Nat} {H:BH} {K:Value→BH→Prop} (hb:By 16 b) (hw:By 16 w)
  (hK:K (.tuple ⟨[I (xE n b w (rY n b w)).1,I (xE n b w (rY n b w)).2]⟩) H):aJ x aep [DV n b w] H K:=by
 have hlb:=hb.len
 have cZ:=hw.len
 refine dw (.cons fC .nil) ?_
 refine bf afU ?_;simp only [pR,aG]
 refine au @aH ?_
 refine aY (aC @aH @aK) fun Kr hKr=>?_
 refine Gs hb hw ?_
 refine aO ?_
 refine aI hKr ?_
 by_cases h0:fV n b w []=0
 ·obtain ⟨hd,ht⟩:=zu h0
  rw [xE,if_pos h0] at hK
  obtain ⟨m,rfl,hm1,hm2⟩:=hd.n0
  rw [Int.toNat_natCast] at ht
  refine au @h0 ?_
  refine bY ?_
  refine aY (aC @aH @aK) fun Kr hKr=>?_
  refine aaX hb hw hd ht fun e cu he hel=>?_
  have hc:rY m b w=e.length:=by
   rcases he.Gt with ⟨_,h,_⟩|⟨_,_,c,x,_,_,_,h⟩
   ·exact (h.res hd ht).1
   ·exact (h.res hd ht).1
  rw [hc] at hK
  refine aO ?_
  refine aI hKr ?_
  refine aB ?_
  refine aU ?_
  exact ⟨Di,hK⟩
 ·rw [xE,if_neg h0] at hK
  refine aB ?_
  refine dI ?_
  refine aB ?_
  refine aU ?_
  exact ⟨Di,hK⟩
end Go.Bm
set_option linter.unusedSectionVars false
namespace Go.Bm
open Go Go.Am
def dep (s:List UInt8):Int:=(s.countP fun c=>c.toNat==40:Nat)-(s.countP fun c=>c.toNat==41:Nat)
def kG (s:List UInt8):Prop:=(2≤s.length∧s.length≤32)∧(∀c∈s,c.toNat=40∨c.toNat=41)∧(∀i,i≤s.length→0≤dep (s.take i))∧dep s=0
instance (s:List UInt8):Decidable (kG s):=by unfold kG;infer_instance
theorem Qb {s:List UInt8} {c:UInt8}:dep (s++[c])=dep s+(if c.toNat=40 then 1 else if c.toNat=41 then-1 else 0):=by
 simp only [dep,List.countP_append,List.countP_singleton,beq_iff_eq]
 split
 ·rename_i h;rw [if_neg (by omega)];omega
 ·split<;>omega
theorem Qc {s:List UInt8} {i:Nat} (h:i<s.length):dep (s.take (i+1))=dep (s.take i)+(if s[i].toNat=40 then 1 else if s[i].toNat=41 then-1 else 0):=by
 rw [List.take_add_one,List.getElem?_eq_getElem h,Option.toList_some,Qb]
def ch:List Nat→List Nat→List Nat
 |p,x::y::r=>ch (p.set x y) (y::r)
 |p,_=>p
def fZ (p e:List Nat):List Nat:=if e=[] then p else (ch p e).set (e.getLastD 0) (e.headD 0)
theorem Qd: ∀{e p:List Nat} {y:Nat},e≠[]→ch p (e++[y])=(ch p e).set (e.getLastD 0) y
 |[x],p,y,_=>rfl
 |x::z::r,p,y,_=>by
  have:=Qd (e:=z::r) (p:=p.set x z) (y:=y) (by simp)
  simpa [ch,List.getLastD] using this
theorem KU: ∀{e p:List Nat},(ch p e).length=p.length
 |[],p=>rfl
 |[x],p=>rfl
 |x::z::r,p=>by
  have:=KU (e:=z::r) (p:=p.set x z)
  simpa [ch] using this
theorem aa0 {i a:Nat}: ∀{e p:List Nat},i∉e→ch (p.set i a) e=(ch p e).set i a
 |[],p,_=>rfl
 |[x],p,_=>rfl
 |x::z::r,p,h=>by
  simp only [List.mem_cons,not_or] at h
  rw [ch,ch,List.set_comm _ _ h.1,aa0 (by simp only [List.mem_cons,not_or];exact h.2)]
def jm (p:List Nat):List (List Nat)→List Nat
 |[]=>p
 |e::es=>ch (jm p es) e
theorem Qe {p:List Nat}: ∀{es:List (List Nat)},(jm p es).length=p.length
 |[]=>rfl
 |e::es=>by rw [jm,KU,Qe]
theorem Qg {i a:Nat} {p:List Nat}: ∀{es:List (List Nat)},i∉es.flatten→jm (p.set i a) es=(jm p es).set i a
 |[],_=>rfl
 |e::es,h=>by
  rw [List.flatten_cons,List.mem_append,not_or] at h
  rw [jm,Qg h.2,aa0 h.1,jm]
theorem aa1 {es:List (List Nat)}: ∀{e p:List Nat},(∀x∈e,x∉es.flatten)→jm (ch p e) es=ch (jm p es) e
 |[],p,_=>rfl
 |[x],p,_=>rfl
 |x::z::r,p,h=>by
  rw [ch,ch,aa1 (e:=z::r) fun y hy=>h y (by simp [List.mem_cons.1 hy]),Qg (h x (by simp))]
theorem KW {e:List Nat} (h:e≠[]):e.getLastD 0∈e:=by
 rw [List.getLastD_eq_getLast?,List.getLast?_eq_some_getLast h]
 exact List.getLast_mem h
theorem head_mem {e:List Nat} (h:e≠[]):e.headD 0∈e:=by
 cases e with
 |nil=>exact absurd rfl h
 |cons a l=>simp
theorem amM {es:List (List Nat)} {e p:List Nat} (hn:e≠[]) (h: ∀x∈e,x∉es.flatten):jm (fZ p e) es=(ch (jm p es) e).set (e.getLastD 0) (e.headD 0):=by
 rw [fZ,if_neg hn,Qg (h _ (KW hn)),aa1 h]
def lvl (c:Nat):List (List Nat)→List (List Nat)
 |[]=>[]
 |e::r=>if r.length%2=c then e::lvl c r else lvl c r
theorem Qh {c:Nat} {e:List Nat}: ∀{r:List (List Nat)},e∈lvl c r→e∈r
 |[],h=>h
 |a::r,h=>by
  rw [lvl] at h
  split at h
  ·rcases List.mem_cons.1 h with h|h
   ·simp [h]
   ·exact List.mem_cons_of_mem _ (Qh h)
  ·exact List.mem_cons_of_mem _ (Qh h)
structure MS where
 ways:List (List Nat)
 next:Nat
 b:List Nat
 w:List Nat
def ms0:MS:=⟨[[]],0,List.replicate 16 0,List.replicate 16 0⟩
def Dj (s:MS) (c:UInt8):MS:=
 match s.ways with
 |[]=>s
 |e::r=>if c.toNat=40 then ⟨[s.next]::(e++[s.next])::r,s.next+1,s.b,s.w⟩
  else if r.length%2=1 then ⟨r,s.next,s.b,fZ s.w e⟩ else ⟨r,s.next,fZ s.b e,s.w⟩
def dO (s:List UInt8):MS:=s.foldl Dj ms0
theorem KX {s:List UInt8} {i:Nat} (h:i<s.length):dO (s.take (i+1))=Dj (dO (s.take i)) s[i]:=by
 rw [List.take_add_one,List.getElem?_eq_getElem h,Option.toList_some,dO,List.foldl_append]
 rfl
structure wz (m:Nat) (s:MS):Prop where
 ne:(s.next=0∧s.ways=[[]])∨(0<s.next∧s.ways≠[]∧ ∀e∈s.ways,e≠[])
 lt: ∀e∈s.ways,∀x∈e,x<s.next
 jX: ∀c,(lvl c s.ways).flatten.Nodup
 bb:By 16 s.b
 bw:By 16 s.w
theorem By.ch {e:List Nat}: ∀{p:List Nat},By 16 p→(∀x∈e,x<256)→By 16 (ch p e):=by
 induction e with
 |nil=>intro p h _;exact h
 |cons x e ih=>
  intro p h hl
  cases e with
  |nil=>exact h
  |cons y r=>exact ih (h.set (hl y (by simp))) fun z hz=>hl z (List.mem_cons_of_mem _ hz)
theorem By.fZ {p e:List Nat} (h:By 16 p) (hl: ∀x∈e,x<256):By 16 (fZ p e):=by
 unfold Bm.fZ
 split
 ·exact h
 ·rename_i hn
  exact (h.ch hl).set (hl _ (head_mem hn))
theorem wz.z:wz 0 ms0:=⟨.inl ⟨rfl,rfl⟩,by simp [ms0],fun c=>by
 have:(lvl c ms0.ways).flatten=[]:=by
  simp only [ms0,lvl]
  split<;>rfl
 rw [this];simp,By.rep,By.rep⟩
theorem aa2 {c n:Nat} {r:List (List Nat)} (h: ∀e∈r,∀x∈e,x<n): ∀x∈(lvl c r).flatten,x<n:=by
 intro x hx
 obtain ⟨e,he,hxe⟩:=List.mem_flatten.1 hx
 exact h e (Qh he) x hxe
theorem amN {l t:List Nat} {n:Nat} (h:(l++t).Nodup) (hn:n∉l++t):((l++[n])++t).Nodup:=by
 have:((l++[n])++t).Perm (n::(l++t)):=by
  rw [List.append_assoc,List.singleton_append]
  exact List.perm_middle
 exact this.nodup_iff.2 (List.nodup_cons.2 ⟨hn,h⟩)
theorem wz.open {s:MS} {e:List Nat} {r:List (List Nat)} (h:wz 0 s) (hw:s.ways=e::r):wz 0 ⟨[s.next]::(e++[s.next])::r,s.next+1,s.b,s.w⟩:=by
 have hlt:=h.lt
 have sG:=h.jX
 rw [hw] at hlt sG
 refine ⟨.inr ⟨by simp,by simp,fun a ha=>?_⟩,fun a ha x hx=>?_,fun c=>?_,h.bb,h.bw⟩
 ·simp only [List.mem_cons] at ha
  rcases ha with rfl|rfl|ha
  ·simp
  ·simp
  ·have:=h.ne
   rw [hw] at this
   rcases this with ⟨_,q⟩|⟨_,_,q⟩
   ·cases q;cases ha
   ·exact q a (by simp [ha])
 ·show x<s.next+1
  simp only [List.mem_cons] at ha
  rcases ha with rfl|rfl|ha
  ·simp at hx;omega
  ·rcases List.mem_append.1 hx with hx|hx
   ·have:=hlt e (by simp) x hx;omega
   ·simp at hx;omega
  ·have:=hlt a (by simp [ha]) x hx;omega
 ·have hf:=aa2 (c:=c) hlt
  have hfr:=fun x hx=>aa2 (c:=c) (r:=r) (n:=s.next) (fun e he=>hlt e (by simp [he])) x hx
  have h1:=sG c
  simp only [lvl] at h1 hf⊢
  by_cases hc:r.length%2=c
  ·rw [if_pos hc] at h1 hf
   rw [if_pos hc,List.length_cons,if_neg (by omega)]
   rw [List.flatten_cons] at h1 hf⊢
   exact amN h1 fun q=>absurd (hf _ q) (by omega)
  ·rw [if_neg hc] at h1
   rw [if_neg hc]
   split
   ·rw [List.flatten_cons,List.singleton_append,List.nodup_cons]
    exact ⟨fun q=>absurd (hfr _ q) (by omega),h1⟩
   ·exact h1
theorem Qi {c:Nat} {e:List Nat} {r:List (List Nat)} (h:(lvl c (e::r)).flatten.Nodup):(lvl c r).flatten.Nodup∧(r.length%2=c→ ∀x∈e,x∉(lvl c r).flatten):=by
 rw [lvl] at h
 split at h
 ·rw [List.flatten_cons,List.nodup_append] at h
  exact ⟨h.2.1,fun _ x hx hy=>h.2.2 x hx x hy rfl⟩
 ·rename_i hc
  exact ⟨h,fun q=>absurd q hc⟩
theorem wz.close {s:MS} {e:List Nat} {r:List (List Nat)} {b w:List Nat} (h:wz 0 s) (hw:s.ways=e::r) (hr:r≠[]) (hb:By 16 b) (hw':By 16 w):wz 0 ⟨r,s.next,b,w⟩:=by
 have hlt:=h.lt
 have sG:=h.jX
 rw [hw] at hlt sG
 refine ⟨?_,fun a ha=>hlt a (by simp [ha]),fun c=>(Qi (sG c)).1,hb,hw'⟩
 have:=h.ne
 rw [hw] at this
 rcases this with ⟨_,q⟩|⟨q1,_,q⟩
 ·cases q;exact absurd rfl hr
 ·exact .inr ⟨q1,hr,fun a ha=>q a (by simp [ha])⟩
theorem AV {s:List UInt8} (h:kG s): ∀i,i≤s.length→wz 0 (dO (s.take i))∧((dO (s.take i)).ways.length:Int)=dep (s.take i)+1∧(dO (s.take i)).next=(s.take i).countP (fun c=>c.toNat==40)
 |0,_=>⟨wz.z,rfl,rfl⟩
 |i+1,hi=>by
  obtain ⟨h1,h2,h3⟩:=AV h i (by omega)
  have hd:=h.2.2.1 (i+1) hi
  rw [Qc (by omega)] at hd⊢
  have hn:(s.take (i+1)).countP (fun c=>c.toNat==40)=(s.take i).countP (fun c=>c.toNat==40)+(if s[i].toNat=40 then 1 else 0):=by
   rw [List.take_add_one,List.getElem?_eq_getElem (by omega),Option.toList_some,List.countP_append,List.countP_singleton]
   simp only [beq_iff_eq]
  rw [hn,KX (by omega),Dj]
  cases hw:(dO (s.take i)).ways with
  |nil=>
   have:=h.2.2.1 i (by omega)
   rw [hw] at h2
   simp at h2
   omega
  |cons e r=>
   rw [hw,List.length_cons] at h2
   simp only
   by_cases hc:s[i].toNat=40
   ·simp only [if_pos hc] at hd⊢
    refine ⟨h1.open hw,?_,?_⟩
    ·simp only [List.length_cons];omega
    ·omega
   ·have hc':s[i].toNat=41:=(h.2.1 _ (List.getElem_mem _)).resolve_left hc
    simp only [if_neg hc,if_pos hc'] at hd⊢
    have hr:r≠[]:=by
     rintro rfl
     simp at h2
     omega
    have hlt:=h1.lt
    rw [hw] at hlt
    have hn16:(dO (s.take i)).next≤32:=by
     rw [h3]
     have:=List.countP_le_length (p:=fun c:UInt8=>c.toNat==40) (l:=s.take i)
     rw [List.length_take] at this
     have:=h.1.2
     omega
    have he: ∀x∈e,x<256:=fun x hx=>by have:=hlt e (by simp) x hx;omega
    split
    ·exact ⟨h1.close hw hr h1.bb (h1.bw.fZ he),by show (r.length:Int)=_;omega,by omega⟩
    ·exact ⟨h1.close hw hr (h1.bb.fZ he) h1.bw,by show (r.length:Int)=_;omega,by omega⟩
theorem Dk {s:List UInt8} (h:kG s) (i:Nat) (hi:i≤s.length):(dO (s.take i)).next≤s.length/2:=by
 rw [(AV h i hi).2.2]
 have h1:=h.2.2.2
 have h2:s.countP (fun c=>c.toNat==40)+s.countP (fun c=>c.toNat==41)≤s.length:=by
  clear h1 h hi
  induction s with
  |nil=>simp
  |cons a l ih=>
   simp only [List.countP_cons,List.length_cons,beq_iff_eq]
   split<;>split<;>omega
 have h3:(s.take i).countP (fun c=>c.toNat==40)≤s.countP (fun c=>c.toNat==40):=(List.take_sublist i s).countP_le
 unfold dep at h1
 omega
def sH (e:List Nat) (r:List (List Nat)):Int:=if r=[] then-1 else (e.headD 0:Nat)
def pq (e:List Nat) (r:List (List Nat)):Int:=if r=[] then (if e=[] then-1 else (e.getLastD 0:Nat)) else if e.length≤1 then-1 else (e.getLastD 0:Nat)
def sk:List (List Nat)→List Int
 |[]=>[]
 |e::r=>sk r++[sH e r]
def la:List (List Nat)→List Int
 |[]=>[]
 |e::r=>la r++[pq e r]
theorem KY: ∀{r:List (List Nat)},(sk r).length=r.length
 |[]=>rfl
 |e::r=>by rw [sk,List.length_append,KY];rfl
theorem Dl: ∀{r:List (List Nat)},(la r).length=r.length
 |[]=>rfl
 |e::r=>by rw [la,List.length_append,Dl];rfl
theorem aa3 {c n:Nat} {p e:List Nat} {r:List (List Nat)}:jm p (lvl c ([n]::(e++[n])::r))=if r.length%2=c∧e≠[] then (jm p (lvl c (e::r))).set (e.getLastD 0) n else jm p (lvl c (e::r)):=by
 have h1: ∀q:List Nat,ch q [n]=q:=fun q=>rfl
 by_cases hc:r.length%2=c
 ·have e1:lvl c ([n]::(e++[n])::r)=(e++[n])::lvl c r:=by rw [lvl,List.length_cons,if_neg (by omega),lvl,if_pos hc]
  have e2:lvl c (e::r)=e::lvl c r:=by rw [lvl,if_pos hc]
  rw [e1,e2,jm,jm]
  by_cases he:e=[]
  ·subst he
   rw [if_neg (by simp)]
   rfl
  ·rw [if_pos ⟨hc,he⟩,Qd he]
 ·have e2:lvl c (e::r)=lvl c r:=by rw [lvl,if_neg hc]
  rw [if_neg (fun h=>hc h.1),e2,lvl,List.length_cons,lvl,if_neg hc]
  split
  ·rw [jm,h1]
  ·rfl
theorem aa4 {c:Nat} {p e:List Nat} {r:List (List Nat)} (hn:(lvl c (e::r)).flatten.Nodup) (he:e≠[]):
  jm (if r.length%2=c then fZ p e else p) (lvl c r)=if r.length%2=c then (jm p (lvl c (e::r))).set (e.getLastD 0) (e.headD 0) else jm p (lvl c (e::r)):=by
 obtain ⟨_,h2⟩:=Qi hn
 by_cases hc:r.length%2=c
 ·rw [if_pos hc,if_pos hc,amM he (h2 hc),lvl,if_pos hc,jm]
 ·rw [if_neg hc,if_neg hc,lvl,if_neg hc]
theorem amO {n:Nat} {e:List Nat} {r:List (List Nat)} (h:r≠[]→e≠[]):sk ([n]::(e++[n])::r)=sk (e::r)++[(n:Int)]:=by
 have:sH (e++[n]) r=sH e r:=by
  unfold sH
  split
  ·rfl
  ·rename_i hr
   cases e with
   |nil=>exact absurd rfl (h hr)
   |cons a l=>rfl
 rw [sk,sk,this,sk]
 rfl
theorem amP {n:Nat} {e:List Nat} {r:List (List Nat)} (h:r≠[]→e≠[]):la ([n]::(e++[n])::r)=(la (e::r)).set r.length (n:Int)++[-1]:=by
 have h1:pq (e++[n]) r=n:=by
  have hl:(e++[n]).getLastD 0=n:=by simp [List.getLastD_eq_getLast?]
  unfold pq
  rw [hl]
  split
  ·rw [if_neg (by simp)]
  ·rename_i hr
   have:=List.length_pos_iff.2 (h hr)
   rw [if_neg (by rw [List.length_append,List.length_singleton];omega)]
 have h2:pq [n] ((e++[n])::r)= -1:=by simp [pq]
 rw [la,la,h1,h2,la,List.set_append_right _ _ (by rw [Dl];omega),Dl,Nat.sub_self]
 rfl
theorem amQ {e:List Nat} {r:List (List Nat)}:(la (e::r))[r.length]? =some (pq e r)∧(sk (e::r))[r.length]? =some (sH e r):=by
 rw [la,sk,List.getElem?_append_right (by rw [Dl];omega),List.getElem?_append_right (by rw [KY];omega),Dl,KY,Nat.sub_self]
 exact ⟨rfl,rfl⟩
theorem aa5 {e:List Nat} {r:List (List Nat)} (h:r≠[]→e≠[]):(if pq e r<0 then sH e r else pq e r)=if e=[] then (-1:Int) else ((e.getLastD 0:Nat):Int):=by
 unfold pq sH
 by_cases hr:r=[]
 ·rw [if_pos hr,if_pos hr]
  split<;>split<;>omega
 ·have he:=h hr
  rw [if_neg hr,if_neg hr,if_neg he]
  split
  ·rename_i hl
   rw [if_pos (by omega)]
   match e,he,hl with
   |[a],_,_=>rfl
  ·rw [if_neg (by omega)]
theorem amR {e:List Nat} {r:List (List Nat)} (hr:r≠[]):sH e r=(e.headD 0:Nat):=by rw [sH,if_neg hr]
end Go.Bm
namespace Go.Bm
open Go Go.Am
theorem KZ (l:List UInt8):(bs l).toList=l:=ByteArray.toList_mk l
theorem La (a b:List UInt8):eqS a b=decide (a=b):=by
 rw [eqS,KZ,KZ]
 by_cases h:a=b<;>simp [h]
theorem zy (a b:List UInt8):kN a b=Op.bytesLess a b:=by rw [kN,KZ,KZ]
theorem aa6 {c:UInt8} {a b:List UInt8}:kN (c::a) (c::b)=kN a b:=by
 rw [zy,zy,Op.bytesLess]
 simp
theorem amS {a b:List UInt8}:kN (40::a) (41::b)=true:=by
 rw [zy,Op.bytesLess]
 rfl
def jP:Nat→Nat→Nat→List (List UInt8)
 |0,_,_=>[[]]
 |k+1,o,l=>(if 0<l then (jP k (o+1) (l-1)).map (40:: ·) else [])++(if 0<o then (jP k (o-1) l).map (41:: ·) else [])
theorem Qj: ∀k o l,(jP k o l).Pairwise fun a b=>kN a b=true
 |0,_,_=>by simp [jP]
 |k+1,o,l=>by
  have h1:=Qj k (o+1) (l-1)
  have h2:=Qj k (o-1) l
  rw [jP]
  refine List.pairwise_append.2 ⟨?_,?_,fun a ha b hb=>?_⟩
  ·split
   ·exact List.pairwise_map.2 (h1.imp fun h=>by rw [aa6];exact h)
   ·exact .nil
  ·split
   ·exact List.pairwise_map.2 (h2.imp fun h=>by rw [aa6];exact h)
   ·exact .nil
  ·split at ha
   ·split at hb
    ·obtain ⟨x,_,rfl⟩:=List.mem_map.1 ha
     obtain ⟨y,_,rfl⟩:=List.mem_map.1 hb
     exact amS
    ·simp at hb
   ·simp at ha
theorem aa7 {s:List UInt8}:dep (40::s)=dep s+1:=by
 simp [dep,List.countP_cons]
 omega
theorem aa8 {s:List UInt8}:dep (41::s)=dep s-1:=by
 simp [dep,List.countP_cons]
 omega
theorem Lc:dep []=0:=rfl
theorem Gw: ∀k o l,k=o+2*l→ ∀s∈jP k o l,s.length=k∧(∀c∈s,c.toNat=40∨c.toNat=41)∧(∀i,i≤s.length→0≤(o:Int)+dep (s.take i))∧(o:Int)+dep s=0
 |0,o,l,h,s,hs=>by
  simp [jP] at hs
  subst hs
  exact ⟨rfl,by simp,fun i _=>by rw [List.take_nil,Lc];omega,by rw [Lc];omega⟩
 |k+1,o,l,h,s,hs=>by
  rw [jP] at hs
  rcases List.mem_append.1 hs with hs|hs
  ·split at hs
   ·obtain ⟨t,ht,rfl⟩:=List.mem_map.1 hs
    obtain ⟨h1,h2,h3,h4⟩:=Gw k (o+1) (l-1) (by omega) t ht
    refine ⟨by simp [h1],fun c hc=>?_,fun i hi=>?_,by rw [aa7];omega⟩
    ·rcases List.mem_cons.1 hc with rfl|hc
     ·exact .inl rfl
     ·exact h2 c hc
    ·cases i with
     |zero=>rw [List.take_zero,Lc];omega
     |succ i=>
      have:=h3 i (by simpa using hi)
      rw [List.take_succ_cons,aa7]
      omega
   ·simp at hs
  ·split at hs
   ·obtain ⟨t,ht,rfl⟩:=List.mem_map.1 hs
    obtain ⟨h1,h2,h3,h4⟩:=Gw k (o-1) l (by omega) t ht
    refine ⟨by simp [h1],fun c hc=>?_,fun i hi=>?_,by rw [aa8];omega⟩
    ·rcases List.mem_cons.1 hc with rfl|hc
     ·exact .inr rfl
     ·exact h2 c hc
    ·cases i with
     |zero=>rw [List.take_zero,Lc];omega
     |succ i=>
      have:=h3 i (by simpa using hi)
      rw [List.take_succ_cons,aa8]
      omega
   ·simp at hs
theorem xO: ∀k o l,(jP k o l).length≤2^k
 |0,_,_=>by simp [jP]
 |k+1,o,l=>by
  have h1:=xO k (o+1) (l-1)
  have h2:=xO k (o-1) l
  rw [jP,List.length_append,Nat.pow_succ]
  split<;>split<;>simp<;>omega
def wl (n:Nat):List (List UInt8):=jP (2*n) 0 n
theorem CY {n:Nat} (h1:1≤n) (h8:n≤8) {s:List UInt8} (hs:s∈wl n):kG s∧s.length=2*n:=by
 obtain ⟨a,b,c,d⟩:=Gw (2*n) 0 n (by omega) s hs
 exact ⟨⟨by omega,b,fun i hi=>by have:=c i hi;omega,by omega⟩,a⟩
end Go.Bm
namespace Go.Bm
open Go Go.Am
abbrev U8 (c:UInt8):Value:= .int .u8 (c.toNat:Int)
theorem Qk {l:List UInt8} {i:Nat} (h:i<l.length):FD (.string (bs l)) (I i)=some (U8 l[i]):=by
 have:(bs l)[i]? =some l[i]:=by
  have h2:i<(bs l).size:=by rw [Dn];exact h
  rw [getElem?_pos (bs l) i h2]
  rfl
 show (if 0≤(i:Int) then ((bs l)[((i:Int)).toNat]?).map fun b=>Value.int .u8 b.toNat else none)=_
 rw [if_pos (by omega),Int.toNat_natCast,this]
 rfl
section
variable {x:Bool} {s:List UInt8} {H:BH} {K:Value→BH→Prop}
theorem Ql {i:Nat} (hi:i≤s.length): -(i:Int)≤dep (s.take i)∧dep (s.take i)≤i:=by
 have h1:=List.countP_le_length (p:=fun c:UInt8=>c.toNat==40) (l:=s.take i)
 have h2:=List.countP_le_length (p:=fun c:UInt8=>c.toNat==41) (l:=s.take i)
 rw [List.length_take] at h1 h2
 unfold dep
 omega
theorem amL (hK:K (.bool (decide (kG s))) H):aJ x aeF [.string (bs s)] H K:=by
 refine dw (.cons zA .nil) ?_
 have hsz:=Dn (l:=s)
 refine bf agf ?_;simp only [fJ,aG]
 refine aB ?_
 have hshort: ¬(2≤s.length∧s.length≤32)→ ∀f' rest,T 0 (.seq fJ.r2 (.seq .ret rest)) (jq 0 [.tmp 2] fun v _=>NN v∧K v H) f' []:=fun h f' rest=>by
  rw [decide_eq_false fun q:kG s=>h q.1] at hK
  refine aB ?_
  refine aU ?_
  exact ⟨.bool,hK⟩
 by_cases h1:(s.length:Int)<2
 ·have e1:=decide_eq_true h1
  refine au (aC @hsz @e1) ?_
  refine dI ?_
  exact hshort (by omega) _ _
 have e1:=decide_eq_false h1
 by_cases h2:(32:Int)<s.length
 ·have e2:=decide_eq_true h2
  refine au (aX @hsz @e1 @e2) ?_
  refine dI ?_
  exact hshort (by omega) _ _
 have e2:=decide_eq_false h2
 refine au (aX @hsz @e1 @e2) ?_
 refine bY ?_
 refine aB ?_
 refine au @hsz ?_
 refine bM (fun mm f H'=> ∃i,i≤s.length∧mm=s.length-i∧(∀c∈s.take i,c.toNat=40∨c.toNat=41)∧(∀j,j≤i→0≤dep (s.take j))∧f 0= .string (bs s)∧f 3=I (dep (s.take i))∧f 14=I s.length∧f 15=I i∧H'=[]) (s.length) ?_ ?_
 ·exact ⟨_,_,Gh.refl,0,by omega,by omega,by simp,(fun j hj=>by rw [show j=0 by omega];exact Int.le_refl _),ah,ah,ah,ah,rfl⟩
 ·rintro mm f H' R ⟨i,hi,rfl,hc1,hd1,g0,g3,g14,g15,rfl⟩ hN hX hR hE
  simp only [fJ.l0,aG]
  refine au (aC @g14 @g15) ?_
  refine aV (i<s.length) (fun hc=>?_) fun hc=>?_
  ·have hin:i<s.length:=by assumption
   obtain ⟨c,hc⟩: ∃c,s[i]=c:=⟨_,rfl⟩
   have hix:=Qk hin
   rw [hc] at hix
   have hdt:=Qc hin
   rw [hc] at hdt
   have hdg:=Ql (s:=s) (i:=i) (by omega)
   have hbad:(¬(c.toNat=40∨c.toNat=41)∨dep (s.take (i+1))<0)→ ∀f',R .ret (upd f' 2 (.bool false)) []:=fun h f'=>by
    refine hR _ _ ?_
    refine aU ?_
    rw [decide_eq_false fun q:kG s=>?_] at hK
    ·exact ⟨.bool,hK⟩
    ·rcases h with h|h
     ·exact h (hc▸q.2.1 _ (List.getElem_mem _))
     ·have:=q.2.2.1 (i+1) (by omega)
      omega
   have hnext: ∀f',(c.toNat=40∨c.toNat=41)→f' 0= .string (bs s)→f' 3=I (dep (s.take (i+1)))→f' 14=I s.length→f' 15=I i→T 0 (.seq fJ.r13 (.seq (.cond (.t 30) (.seq fJ.eP .ret) .skip) fJ.gG)) R f' []:=by
    clear g0 g3 g14 g15
    intro f' hcc g0 g3 g14 g15
    refine au @g3 ?_
    by_cases h0:dep (s.take (i+1))<0
    ·refine qL (decide_eq_true h0) ?_
     refine aB ?_
     exact hbad (.inr h0) _
    ·refine oZ (decide_eq_false h0) ?_
     refine bI @g15 ?_
     refine hN (s.length-(i+1)) _ _ _ _ (by omega) Gh.refl ⟨i+1,by omega,rfl,?_,?_,ah,ah,ah,ah,rfl⟩
     ·intro d hd
      rw [List.take_add_one,List.getElem?_eq_getElem hin,Option.toList_some,hc] at hd
      rcases List.mem_append.1 hd with hd|hd
      ·exact hc1 d hd
      ·rw [List.mem_singleton] at hd;rw [hd];exact hcc
     ·intro j hj
      by_cases hji:j=i+1
      ·rw [hji];omega
      ·exact hd1 j (by omega)
   refine bK ?_
   refine au @g15 ?_
   refine au (aC @g0 @hix) ?_
   refine bK ?_
   by_cases qP:c.toNat=40
   ·have e:decide ((c.toNat:Int)=40)=true:=decide_eq_true (by omega)
    rw [if_pos qP] at hdt
    refine au @e ?_
    refine dI ?_
    refine au @g3 ?_
    rw [←hdt]
    exact hnext _ (.inl qP) ah ah ah ah
   ·have e:decide ((c.toNat:Int)=40)=false:=decide_eq_false (by omega)
    rw [if_neg qP] at hdt
    refine au @e ?_
    refine bY ?_
    by_cases Gx:c.toNat=41
    ·have e':decide ((c.toNat:Int)=41)=true:=decide_eq_true (by omega)
     rw [if_pos Gx] at hdt
     have hdt':dep (s.take i)-1=dep (s.take (i+1)):=by omega
     refine au @e' ?_
     refine dI ?_
     refine au @g3 ?_
     rw [hdt']
     exact hnext _ (.inr Gx) ah ah ah ah
    ·have e':decide ((c.toNat:Int)=41)=false:=decide_eq_false (by omega)
     refine au @e' ?_
     refine bY ?_
     refine aB ?_
     exact hbad (.inl (by omega)) _
  ·refine hX _ _ ?_
   obtain rfl:i=s.length:=by omega
   rw [List.take_length] at hc1 g3
   have hw:decide (kG s)=decide (dep s=0):=by
    by_cases h:dep s=0
    ·rw [decide_eq_true h,decide_eq_true ⟨⟨by omega,by omega⟩,hc1,hd1,h⟩]
    ·rw [decide_eq_false h,decide_eq_false fun q=>h q.2.2.2]
   rw [hw] at hK
   refine au @g3 ?_
   refine aU ?_
   exact ⟨.bool,hK⟩
end
end Go.Bm
namespace Go.Bm
open Go Go.Am
def dY (s:List UInt8):List Nat:=fZ (dO s).b ((dO s).ways.headD [])
def eX (s:List UInt8):List Nat:=(dO s).w
theorem aa9 {H:BH} {b bytes cn l:Nat} {xs:List Int} {y:Int} (hl:l≤xs.length) (h:(l+1)*bytes≤140737488355328):app1 (some [.int .i64 y]) (some (xs.map I)) H b l bytes cn=some (S H.length 0 (l+1) 1,(H.set b none)++[some ((xs.take l++[y]).map I)]):=by
 simp only [app1]
 rw [if_pos ⟨by rw [List.length_map];exact hl,h,rfl⟩]
 simp [List.map_take]
theorem Gy {b L:Nat}:Ah 1 (S b 0 (L+1) 1) none (some (I (L:Nat)))=some (S b 0 L 1):=by
 rw [ak0 (l:=0) (h:=L) (Oy (by omega))]
 simp
theorem Qm {a:List Nat} {r:List (List Nat)} (hr:r≠[]):(a::r).getLastD []=r.getLastD []:=by
 cases r with
 |nil=>exact absurd rfl hr
 |cons b l=>rfl
theorem Qn: ∀{s:List UInt8},(∀c∈s,c.toNat=40∨c.toNat=41)→s.countP (fun c=>c.toNat==40)+s.countP (fun c=>c.toNat==41)=s.length
 |[],_=>rfl
 |a::l,h=>by
  have h1:=h a (by simp)
  have h2:=Qn (s:=l) fun c hc=>h c (by simp [hc])
  simp only [List.countP_cons,List.length_cons,beq_iff_eq]
  split<;>split<;>omega
section
variable {s:List UInt8} {H:BH} {K:Value→BH→Prop} {x:Bool}
set_option maxHeartbeats 2000000 in
theorem Gz (hw:kG s) (hK:K (DV (s.length/2:Nat) (dY s) (eX s)) H):aJ x aeA [.string (bs s)] H K:=by
 refine dw (.cons zA .nil) ?_
 have hsz:=Dn (l:=s)
 have hq:(s.length:Int).tdiv 2=((s.length/2:Nat):Int):=rfl
 obtain ⟨n,hn⟩: ∃n,s.length/2=n:=⟨_,rfl⟩
 rw [hn] at hK hq
 have hlen:=hw.1
 have hzl:=kM
 refine bf af8 ?_;simp only [bU,aG]
 refine au @aH ?_
 refine aB ?_
 refine aB ?_
 refine au (aX @aH @hsz @hq) ?_
 refine aB ?_
 refine bM (fun mm f H'=> ∃i ja jb,i≤s.length∧mm=s.length-i∧f 0= .string (bs s)∧f 2=P 0 0∧f 3=S 1 0 (dO (s.take i)).ways.length 1∧f 4=S 2 0 (dO (s.take i)).ways.length 1∧f 5=I (dO (s.take i)).next∧f 6=I 0∧f 7=P 3 0∧f 8=I i∧((dO (s.take i)).ways.getLastD []).headD 0=0∧H'=[some (DC 0 dF dF),some ((sk (dO (s.take i)).ways++ja).map I),some ((la (dO (s.take i)).ways++jb).map I),some (DC n (jm (dO (s.take i)).b (lvl 0 (dO (s.take i)).ways)) (jm (dO (s.take i)).w (lvl 1 (dO (s.take i)).ways)))]) (s.length) ?_ ?_
 ·exact ⟨_,_,Gh.refl,0,[],[],by omega,by omega,ah,ah,ah,ah,ah,ah,ah,ah,rfl,rfl⟩
 ·rintro mm f H' R ⟨i,ja,jb,hi,rfl,g0,g2,g3,g4,g5,g6,g7,g8,zB,rfl⟩ hN hX hR hE
  simp only [bU.l0,aG]
  refine au (aX @g0 @g8 @hsz) ?_
  obtain ⟨hok,cZ,hnx⟩:=AV hw i hi
  have hnl:=Dk hw i hi
  have hdp:=hw.2.2.1 i hi
  obtain ⟨st,hst⟩: ∃st,dO (s.take i)=st:=⟨_,rfl⟩
  rw [hst] at g3 g4 g5 hok cZ hnx hnl zB⊢
  obtain ⟨W,m,b,w⟩:=st
  simp only at g3 g4 g5 hok cZ hnx hnl zB⊢
  cases W with
  |nil=>simp at cZ;omega
  |cons e r=>
  obtain ⟨L,hL⟩: ∃L,r.length=L:=⟨_,rfl⟩
  rw [List.length_cons,hL] at g3 g4 cZ
  have hdg:=Ql (s:=s) (i:=i) hi
  have hLb:L≤32:=by omega
  have ht1:((L+1:Nat):Int)-1=(L:Nat):=by omega
  have hre:r≠[]→e≠[]:=fun hr=>by
   rcases hok.ne with ⟨_,q⟩|⟨_,_,q⟩
   ·cases q;exact absurd rfl hr
   ·exact q e (by simp)
  have zC: ∀y∈e,y<m:=fun y hy=>hok.lt e (by simp) y hy
  have hlb:=(Qe (p:=b) (es:=lvl 0 (e::r))).trans hok.bb.len
  have Qo:=(Qe (p:=w) (es:=lvl 1 (e::r))).trans hok.bw.len
  obtain ⟨B1,hB1⟩: ∃B1,jm b (lvl 0 (e::r))=B1:=⟨_,rfl⟩
  obtain ⟨W1,hW1⟩: ∃W1,jm w (lvl 1 (e::r))=W1:=⟨_,rfl⟩
  rw [hB1] at hlb
  rw [hW1] at Qo
  rw [hB1,hW1]
  obtain ⟨Qp,Qq⟩:=amQ (e:=e) (r:=r)
  rw [hL] at Qp Qq
  have Ld:=Dl (r:=e::r)
  have Le:=KY (r:=e::r)
  rw [List.length_cons,hL] at Ld Le
  obtain ⟨lA,hlA⟩: ∃lA,la (e::r)=lA:=⟨_,rfl⟩
  obtain ⟨sK,Lh⟩: ∃sK,sk (e::r)=sK:=⟨_,rfl⟩
  rw [hlA] at Qp Ld
  rw [Lh] at Qq Le
  rw [hlA,Lh]
  have gI: ∀(xs ys:List Int) (v:Int),xs.length=L+1→xs[L]? =some v→bV none ((xs++ys).map I) L=some (I v):=fun xs ys v h1 h2=>by
   show ((xs++ys).map I)[L]? =some (I v)
   rw [List.getElem?_map,List.getElem?_append_left (by omega),h2]
   rfl
  have ga:bV none ((lA++jb).map I) L=some (I (pq e r)):=gI _ _ _ Ld Qp
  have gs:bV none ((sK++ja).map I) L=some (I (sH e r)):=gI _ _ _ Le Qq
  have hcl:(lA++jb).length=L+1+jb.length∧(sK++ja).length=L+1+ja.length:=by simp [Ld,Le]
  refine aV (i<s.length) (fun hc=>?_) fun hc=>?_
  ·have hin:i<s.length:=by assumption
   obtain ⟨c,hc⟩: ∃c,s[i]=c:=⟨_,rfl⟩
   have hix:=Qk hin
   rw [hc] at hix
   have hrt:=KX hin
   rw [hst,hc,Dj] at hrt
   simp only at hrt
   have Qr:m<16∨c.toNat≠40:=by
    have:=Dk hw (i+1) (by omega)
    rw [hrt] at this
    by_cases qP:c.toNat=40
    ·rw [if_pos qP] at this
     simp only at this
     omega
    ·exact .inr qP
   refine yY ?_
   refine au (aC @g3 @ht1) ?_
   refine au (aX @g0 @g8 @hix) ?_
   by_cases qP:c.toNat=40
   ·rw [if_pos qP] at hrt
    have hm:m<16:=by omega
    have e40:decide ((c.toNat:Int)=40)=true:=decide_eq_true (by omega)
    have hta:(sK++ja).take (L+1)=sK:=by rw [List.take_append_of_le_length (by omega),List.take_of_length_le (by omega)]
    have htb:((lA++jb).set L (m:Int)).take (L+1)=lA.set L m:=by rw [List.set_append_left _ _ (by omega),List.take_append_of_le_length (by rw [List.length_set];omega),List.take_of_length_le (by rw [List.length_set];omega)]
    have hcs:((lA++jb).set L (m:Int)).length=L+1+jb.length:=by rw [List.length_set,hcl.1]
    have hnext: ∀f'' B2 W2,B2=jm b (lvl 0 ([m]::(e++[m])::r))→W2=jm w (lvl 1 ([m]::(e++[m])::r))→f'' 0= .string (bs s)→f'' 2=P 0 0→f'' 3=S 1 0 (L+2) 1→f'' 4=S 2 0 (L+2) 1→f'' 5=I ((m+1:Nat):Int)→f'' 6=I 0→f'' 7=P 3 0→f'' 8=I i→
      T 0 bU.r6 R f'' [some (DC 0 dF dF),some ((sK++[(m:Int)]).map I),some ((lA.set L (m:Int)++[-1]).map I),some (DC n B2 W2)]:=by
     clear g0 g2 g3 g4 g5 g6 g7 g8
     intro f'' B2 W2 hB2 hW2 g0 g2 g3 g4 g5 g6 g7 g8
     have hso:=amO (n:=m) hre
     have hlo:=amP (n:=m) hre
     rw [Lh] at hso
     rw [hlA,hL] at hlo
     have q3:f'' 3=S 1 0 (dO (s.take (i+1))).ways.length 1:=by rw [hrt];simp only [List.length_cons,hL];exact g3
     have q4:f'' 4=S 2 0 (dO (s.take (i+1))).ways.length 1:=by rw [hrt];simp only [List.length_cons,hL];exact g4
     have q5:f'' 5=I (dO (s.take (i+1))).next:=by rw [hrt];exact g5
     have qb:((dO (s.take (i+1))).ways.getLastD []).headD 0=0:=by
      rw [hrt]
      simp only
      rw [Qm (by simp)]
      by_cases hr:r=[]
      ·subst hr
       cases e with
       |nil=>
        rcases hok.ne with ⟨q,_⟩|⟨_,_,q⟩
        ·exact q
        ·exact absurd rfl (q [] (by simp))
       |cons a l=>exact zB
      ·rw [Qm hr] at zB⊢
       exact zB
     have qH:[some (DC 0 dF dF),some ((sK++[(m:Int)]).map I),some ((lA.set L (m:Int)++[-1]).map I),some (DC n B2 W2)]=[some (DC 0 dF dF),some ((sk (dO (s.take (i+1))).ways++[]).map I),some ((la (dO (s.take (i+1))).ways++[]).map I),some (DC n (jm (dO (s.take (i+1))).b (lvl 0 (dO (s.take (i+1))).ways)) (jm (dO (s.take (i+1))).w (lvl 1 (dO (s.take (i+1))).ways)))]:=by
      rw [hrt]
      simp only
      rw [hso,hlo,hB2,hW2,List.append_nil,List.append_nil]
     rw [qH]
     refine bI @g8 ?_
     exact hN (s.length-(i+1)) _ _ _ _ (by omega) Gh.refl ⟨i+1,[],[],by omega,rfl,ah,ah,ah,ah,ah,ah,ah,ah,qb,rfl⟩
    have hcont: ∀(Q:Ex→Fr→BH→Prop) f' (fr:Int) (rest:aj),(∀f'' sJ,T 0 bU.r6 R f'' sJ→Q (.exit 1) f'' sJ)→fr=(if e=[] then (-1:Int) else ((e.getLastD 0:Nat):Int))→f' 0= .string (bs s)→f' 2=P 0 0→f' 3=S 1 0 (L+1) 1→f' 4=S 2 0 (L+1) 1→f' 5=I ((m+1:Nat):Int)→f' 6=I 0→f' 7=P 3 0→f' 8=I i→f' 9=I L→f' 10=I m→f' 11=I fr→
      T 0 (.seq bU.eP (.seq (.cond (.t 46) bU.gG (.seq bU.r16 (.cond (.t 50) bU.lC bU.nN))) (.seq (.seq bU.nO (.seq bU.nP (.seq bU.nD (.exit 1)))) rest))) Q f' [some (DC 0 dF dF),some ((sK++ja).map I),some ((lA++jb).map I),some (DC n B1 W1)]:=by
     clear g0 g2 g3 g4 g5 g6 g7 g8
     intro Q f' fr rest hq hfr g0 g2 g3 g4 g5 g6 g7 g8 g9 g10 g11
     have hmore: ∀f' B2 W2,B2=jm b (lvl 0 ([m]::(e++[m])::r))→W2=jm w (lvl 1 ([m]::(e++[m])::r))→f' 0= .string (bs s)→f' 2=P 0 0→f' 3=S 1 0 (L+1) 1→f' 4=S 2 0 (L+1) 1→f' 5=I ((m+1:Nat):Int)→f' 6=I 0→f' 7=P 3 0→f' 8=I i→f' 9=I L→f' 10=I m→
       T 0 (.seq bU.nO (.seq (.seq bU.nP (.seq bU.nD (.exit 1))) rest)) Q f' [some (DC 0 dF dF),some ((sK++ja).map I),some ((lA++jb).map I),some (DC n B2 W2)]:=by
      clear g0 g2 g3 g4 g5 g6 g7 g8 g9 g10 g11
      intro f' B2 W2 hB2 hW2 g0 g2 g3 g4 g5 g6 g7 g8 g9 g10
      refine au (aX @g4 @g9 @g10) ?_
      refine au (jk @g3 @g10 @aa9 @hta @hcl) ?_
      refine au (bG @g4 @aa9 @htb @hcs) ?_
      refine hq _ _ (jO (Gh.nrm [0,5,7,3] rfl rfl FQ) ?_)
      exact hnext _ B2 W2 hB2 hW2 ah ah ah ah ah ah ah ah
     have zD:=aa3 (c:=0) (n:=m) (p:=b) (e:=e) (r:=r)
     have zF:=aa3 (c:=1) (n:=m) (p:=w) (e:=e) (r:=r)
     rw [hL,hB1] at zD
     rw [hL,hW1] at zF
     by_cases he:e=[]
     ·rw [if_pos he] at hfr
      rw [if_neg (fun q=>q.2 he)] at zD zF
      have e1:decide (fr<0)=true:=decide_eq_true (by omega)
      refine au @g11 ?_
      refine qL @e1 ?_
      refine au @g10 ?_
      have hm0:m=0:=by
       rcases hok.ne with ⟨q,_⟩|⟨_,_,q⟩
       ·exact q
       ·exact absurd he (q e (by simp))
      refine hmore _ B1 W1 zD.symm zF.symm ah ah ah ah ah ?_ ah ah ah ah
      rw [show (0:Int)=(m:Int) by omega]
      exact ah
     ·rw [if_neg he] at hfr
      obtain ⟨nH,zG⟩: ∃nH,e.getLastD 0=nH:=⟨_,rfl⟩
      have abb:nH<16:=by have:=zC _ (KW he);omega
      rw [zG] at hfr zD zF
      subst hfr
      have e1:decide ((nH:Int)<0)=false:=decide_eq_false (by omega)
      refine au @g11 ?_
      refine oZ @e1 ?_
      have hmod:(L:Int).tmod 2=((L%2:Nat):Int):=rfl
      refine au (aC @g9 @hmod) ?_
      by_cases h2:L%2=0
      ·rw [if_pos ⟨h2,he⟩] at zD
       rw [if_neg (by omega)] at zF
       have e2:decide (((L%2:Nat):Int)=0)=true:=decide_eq_true (by omega)
       refine qL @e2 ?_
       refine au (jk @aH @aK @g7 @g10 @g11) ?_
       exact hmore _ _ W1 zD.symm zF.symm ah ah ah ah ah ah ah ah ah ah
      ·rw [if_neg (fun q=>h2 q.1)] at zD
       rw [if_pos ⟨by omega,he⟩] at zF
       have e2:decide (((L%2:Nat):Int)=0)=false:=decide_eq_false (by omega)
       refine oZ @e2 ?_
       refine au (jk @aH @aK @g7 @g10 @g11) ?_
       exact hmore _ B1 _ zD.symm zF.symm ah ah ah ah ah ah ah ah ah ah
    have hfe:=aa5 hre
    refine qL @e40 ?_
    refine au @g5 ?_
    refine au @g5 ?_
    refine au (aC @g4 @ga) ?_
    refine aB ?_
    by_cases hlt:pq e r<0
    ·rw [if_pos hlt] at hfe
     refine qL (decide_eq_true hlt) ?_
     refine au (aC @g3 @gs) ?_
     refine hcont _ _ _ _ (fun f'' sJ h=>?_) hfe ah ah ah ah ah ah ah ah ah ah ah
     refine lq ?_
     exact h
    ·rw [if_neg hlt] at hfe
     refine oZ (decide_eq_false hlt) ?_
     refine hcont _ _ _ _ (fun f'' sJ h=>?_) hfe ah ah ah ah ah ah ah ah ah ah ah
     refine lq ?_
     exact h
   ·have Gx:c.toNat=41:=(hc▸hw.2.1 _ (List.getElem_mem hin)).resolve_left qP
    have e40:decide ((c.toNat:Int)=40)=false:=decide_eq_false (by omega)
    rw [if_neg qP] at hrt
    have hdn:=hw.2.2.1 (i+1) (by omega)
    rw [Qc hin,hc,if_neg qP,if_pos Gx] at hdn
    have hr:r≠[]:=by
     rintro rfl
     simp at hL
     omega
    have he:=hre hr
    have hfe:=aa5 hre
    rw [if_neg he] at hfe
    have hsT:=amR (e:=e) hr
    rw [hsT] at gs hfe
    obtain ⟨nH,zG⟩: ∃nH,e.getLastD 0=nH:=⟨_,rfl⟩
    obtain ⟨hd1,Qs⟩: ∃hd1,e.headD 0=hd1:=⟨_,rfl⟩
    have abb:nH<16:=by have:=zC _ (KW he);omega
    have aqc:hd1<16:=by have:=zC _ (head_mem he);omega
    have hc0:=aa4 (p:=b) (hok.jX 0) he
    have hc1:=aa4 (p:=w) (hok.jX 1) he
    rw [hL,hB1,zG,Qs] at hc0
    rw [hL,hW1,zG,Qs] at hc1
    rw [Qs] at gs hfe
    rw [zG] at hfe
    have hsr:sK++ja=sk r++([sH e r]++ja):=by rw [←Lh,sk,List.append_assoc]
    have hlr:lA++jb=la r++([pq e r]++jb):=by rw [←hlA,la,List.append_assoc]
    have hnext: ∀f'' B2 W2,B2=(if L%2=0 then B1.set nH hd1 else B1)→W2=(if L%2=1 then W1.set nH hd1 else W1)→f'' 0= .string (bs s)→f'' 2=P 0 0→f'' 3=S 1 0 L 1→f'' 4=S 2 0 L 1→f'' 5=I (m:Nat)→f'' 6=I 0→f'' 7=P 3 0→f'' 8=I i→
      T 0 bU.r6 R f'' [some (DC 0 dF dF),some ((sK++ja).map I),some ((lA++jb).map I),some (DC n B2 W2)]:=by
     clear g0 g2 g3 g4 g5 g6 g7 g8
     intro f'' B2 W2 hB2 hW2 g0 g2 g3 g4 g5 g6 g7 g8
     have Lj:(dO (s.take (i+1))).ways=r:=by rw [hrt];split<;>rfl
     have amT:(dO (s.take (i+1))).next=m:=by rw [hrt];split<;>rfl
     have hbb:(dO (s.take (i+1))).b=if L%2=0 then fZ b e else b:=by
      rw [hrt,hL]
      split
      ·rw [if_neg (by omega)]
      ·rw [if_pos (by omega)]
     have hww:(dO (s.take (i+1))).w=if L%2=1 then fZ w e else w:=by
      rw [hrt,hL]
      split
      ·rfl
      ·rfl
     have q3:f'' 3=S 1 0 (dO (s.take (i+1))).ways.length 1:=by rw [Lj,hL];exact g3
     have q4:f'' 4=S 2 0 (dO (s.take (i+1))).ways.length 1:=by rw [Lj,hL];exact g4
     have q5:f'' 5=I (dO (s.take (i+1))).next:=by rw [amT];exact g5
     have qb:((dO (s.take (i+1))).ways.getLastD []).headD 0=0:=by
      rw [Lj]
      rw [Qm hr] at zB
      exact zB
     have qH:[some (DC 0 dF dF),some ((sK++ja).map I),some ((lA++jb).map I),some (DC n B2 W2)]=[some (DC 0 dF dF),some ((sk (dO (s.take (i+1))).ways++([sH e r]++ja)).map I),some ((la (dO (s.take (i+1))).ways++([pq e r]++jb)).map I),some (DC n (jm (dO (s.take (i+1))).b (lvl 0 (dO (s.take (i+1))).ways)) (jm (dO (s.take (i+1))).w (lvl 1 (dO (s.take (i+1))).ways)))]:=by
      rw [Lj,hbb,hww,hc0,hc1,hsr,hlr,hB2,hW2]
     clear g3 g4 g5
     rw [qH]
     refine bI @g8 ?_
     exact hN (s.length-(i+1)) _ _ _ _ (by omega) Gh.refl ⟨i+1,[sH e r]++ja,[pq e r]++jb,by omega,rfl,ah,ah,ah,ah,ah,ah,ah,ah,qb,rfl⟩
    have hcont: ∀(Q:Ex→Fr→BH→Prop) f' (fr:Int),(∀f'' sJ,T 0 bU.r6 R f'' sJ→Q .normal f'' sJ)→fr=(nH:Int)→f' 0= .string (bs s)→f' 2=P 0 0→f' 3=S 1 0 (L+1) 1→f' 4=S 2 0 (L+1) 1→f' 5=I (m:Nat)→f' 6=I 0→f' 7=P 3 0→f' 8=I i→f' 9=I L→f' 12=I fr→
      T 0 (.seq bU.r25 (.seq (.cond (.t 84) bU.qG bU.r27) (.seq bU.r28 bU.oV))) Q f' [some (DC 0 dF dF),some ((sK++ja).map I),some ((lA++jb).map I),some (DC n B1 W1)]:=by
     clear g0 g2 g3 g4 g5 g6 g7 g8
     intro Q f' fr hq hfr g0 g2 g3 g4 g5 g6 g7 g8 g9 g12
     subst hfr
     have hmod:(L:Int).tmod 2=((L%2:Nat):Int):=rfl
     refine au (aC @g9 @hmod) ?_
     by_cases h2:L%2=0
     ·have e2:decide (((L%2:Nat):Int)=0)=true:=decide_eq_true (by omega)
      refine qL @e2 ?_
      refine au (bG (bG @aH @aK @g3 @g7) @g9 @g12 @gs) ?_
      refine au (aX @g3 @g9 @Gy) ?_
      refine bI (aX @g4 @g9 @Gy) ?_
      refine hq _ _ ?_
      exact hnext _ _ W1 (by rw [if_pos h2]) (by rw [if_neg (by omega)]) ah ah ah ah ah ah ah ah
     ·have e2:decide (((L%2:Nat):Int)=0)=false:=decide_eq_false (by omega)
      refine oZ @e2 ?_
      refine au (bG (bG @aH @aK @g3 @g7) @g9 @g12 @gs) ?_
      refine au (aX @g3 @g9 @Gy) ?_
      refine bI (aX @g4 @g9 @Gy) ?_
      refine hq _ _ ?_
      exact hnext _ B1 _ (by rw [if_neg h2]) (by rw [if_pos (by omega)]) ah ah ah ah ah ah ah ah
    refine oZ @e40 ?_
    refine au (aC @g4 @ga) ?_
    refine aB ?_
    by_cases hlt:pq e r<0
    ·rw [if_pos hlt] at hfe
     refine qL (decide_eq_true hlt) ?_
     refine au (aC @g3 @gs) ?_
     refine hcont _ _ _ (fun f'' sJ h=>?_) hfe ah ah ah ah ah ah ah ah ah ah
     refine lq ?_
     exact h
    ·rw [if_neg hlt] at hfe
     refine oZ (decide_eq_false hlt) ?_
     refine hcont _ _ _ (fun f'' sJ h=>?_) hfe ah ah ah ah ah ah ah ah ah ah
     refine lq ?_
     exact h
  ·refine hX _ _ ?_
   obtain rfl:i=s.length:=by omega
   have hd0:=hw.2.2.2
   rw [List.take_length] at cZ hst hnx
   have hL0:L=0:=by omega
   subst hL0
   have hr0:r=[]:=List.eq_nil_of_length_eq_zero hL
   subst hr0
   have hm1:0<m:=by
    have:(s.countP fun c=>c.toNat==41)≤s.countP fun c=>c.toNat==40:=by unfold dep at hd0;omega
    have h2:=Qn hw.2.1
    omega
   have he:e≠[]:=by
    rcases hok.ne with ⟨q,_⟩|⟨_,_,q⟩
    ·simp only at q;omega
    ·exact q e (by simp)
   obtain ⟨nH,zG⟩: ∃nH,e.getLastD 0=nH:=⟨_,rfl⟩
   have abb:nH<16:=by have:=zC _ (KW he);omega
   have hlT:pq e []=(nH:Int):=by rw [pq,if_pos rfl,if_neg he,zG]
   rw [hlT] at ga
   have hh0:e.headD 0=0:=zB
   have hmb:B1.set nH 0=dY s:=by
    rw [dY,hst]
    simp only [List.headD_cons]
    rw [fZ,if_neg he,zG,hh0,←hB1]
    rfl
   have hmw:W1=eX s:=by
    rw [eX,hst,←hW1]
    rfl
   have MQ: ∀H',fQ (some (DC n B1 W1)) H' 3 (1+nH) 1 (.int .u8 0)=some (undef,H'.set 3 (some (DC n (B1.set nH 0) W1))):=fun H'=>Kt (x:=0) (by omega)
   refine au (bG (bG @aH @aK @g4 @g6) @g7 @ga @MQ) ?_
   have hls:(B1.set nH 0).length=16:=by rw [List.length_set,hlb]
   refine au (jM @aH @aK @g2 @g7 @hls @Qo) ?_
   refine lD (jk @aH @aK @g2 @hls @Qo) ?_
   rw [hmb,hmw]
   exact ⟨fC,hK⟩
end
end Go.Bm
