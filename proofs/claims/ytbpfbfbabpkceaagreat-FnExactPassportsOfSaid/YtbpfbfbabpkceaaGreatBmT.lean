/- How a run of the second machine is shown: what is shown of it is a run of the small machine. -/
import Derived.Test.YtbpfbfbabpkceaaGreatBmOp
import Derived.Test.YtbpfbfbabpkceaaGreatAmS
set_option linter.unusedVariables false
set_option linter.unusedSimpArgs false
namespace Go.Bm
open Go Go.Am
def ev (f:Fr):Opd→Value
 | .t n=>f n
 | .c v=>if Am.plain v=true then v else .nilIface
 | .f n=> .func (.func n) #[] #[]
def FR (ρ:Nat→Option Nat) (Z:Nat→Option Blk) (f fA:Fr):Prop:= ∀t,VR ρ Z (f t) (fA t)
section
variable {ρ ρ':Nat→Option Nat} {Z Z':Nat→Option Blk}
theorem wG {f fA:Fr} (h:FR ρ Z f fA) (x:Opd):VR ρ Z (ev f x) (Am.ev fA x):=by
 cases x with
 |t n=>exact h n
 |c v=>
  simp only [ev,Am.ev]
  split
  ·rename_i hp;exact .z (.plain hp)
  ·exact .z .junk
 |f n=>exact .func (cs:=[]) (ds:=[]) rfl fun i c d h=>by simp at h
theorem FR.mono {f fA:Fr} (h:FR ρ Z f fA) (hr: ∀i b,ρ i=some b→ρ' i=some b) (hz: ∀b k,Z b=some k→Z' b=some k):FR ρ' Z' f fA:=fun t=>(h t).mono hr hz
theorem FR.upd {f fA:Fr} (h:FR ρ Z f fA) {d:Option Nat} {v u:Value} (hv:VR ρ Z v u):FR ρ Z (updO f d v) (updO fA d u):=by
 intro t
 cases d with
 |none=>exact h t
 |some d=>
  simp only [updO,Am.upd]
  split
  ·exact hv
  ·exact h t
theorem Ie {f fA:Fr} (h:FR ρ Z f fA) (as:List Opd):VL ρ Z (as.map (ev f)) (as.map (Am.ev fA)):=by
 refine ⟨by simp,fun i c d h1 h2=>?_⟩
 rw [List.getElem?_map] at h1 h2
 obtain ⟨q,hq,rfl⟩:=map_inj h1
 rw [hq] at h2;cases h2
 exact wG h q
theorem adU {as bs:List Value} (h:VL ρ Z as bs):FR ρ Z (frame0 as) (frame0 bs):=by
 intro t
 unfold frame0
 simp only [List.getD]
 cases h1:as[t]? with
 |none=>
  have:bs[t]? =none:=by rw [List.getElem?_eq_none_iff] at h1⊢;rw [←h.1];exact h1
  rw [this]
  exact .z (.plain rfl)
 |some a=>
  obtain ⟨b,hb,hr⟩:=h.at_ h1
  rw [hb]
  exact hr
end
def Post (k:Nat) (ρ:Nat→Option Nat) (Z:Nat→Option Blk) (H:BH) (HA:AHeap) (K:Fr→BH→Prop) (eU:Fr) (HA':AHeap):Prop:=
 ∃ρ' Z' f' H',FR ρ' Z' f' eU∧Rel ρ' Z' H' HA'∧k≤H'.length∧(∀i,i<k→ρ' i=ρ i)∧Frm ρ Z H HA ρ' Z' H' HA'∧K f' H'
def T (k:Nat) (c:ACode) (Q:Ex→Fr→BH→Prop) (f:Fr) (H:BH):Prop:=
 ∀ρ Z fA HA,k≤H.length→FR ρ Z f fA→Rel ρ Z H HA→ ∃ex eU HA',Big Γ X c fA HA ex eU HA'∧Post k ρ Z H HA (Q ex) eU HA'
def aF (x:Bool) (g:Nat) (args:List Value) (H:BH) (K:Value→BH→Prop):Prop:=
 ∀ρ Z as HA,VL ρ Z args as→Rel ρ Z H HA→ ∃v' HA',Cal Γ X g as HA v' HA'∧(x=true→Ext HA HA')∧
  ∃ρ' Z' v H',VR ρ' Z' v v'∧Rel ρ' Z' H' HA'∧H.length≤H'.length∧(∀i,i<H.length→ρ' i=ρ i)∧Frm ρ Z H HA ρ' Z' H' HA'∧K v H'
def rD (g:Option (Nat×Bool)) (f:Fr):Option Bool:=
 match g with
 |none=>some true
 |some (t,b)=>match f t with| .bool x=>some (x==b)| .tuple ⟨[]⟩=>some false| _=>none
def rW:AOp→Bool
 | .store .. | .storeF .. | .append .. | .appendF .. | .mapPut .. | .kR .. =>true
 | _=>false
def ug (c c':Option (List Value)):Prop:=
 match c,c' with
 |some cs,some ds=>cs=ds∧cs.all Am.plain=true
 | _,_=>False
def uf (H H':BH):Value→Prop
 | .pointer (some ⟨j,_,none⟩)=>ug (blk H j) (blk H' j)
 | .slice (some ⟨j,_,none⟩) _ _=>ug (blk H j) (blk H' j)
 | .int .. | .bool .. | .string .. =>True
 | _=>False
def keepW (H H':BH):List Value→Prop
 |[]=>True
 |x::xs=>uf H H' x∧keepW H H' xs
theorem Ux {H H':BH}: ∀{l:List Value},keepW H H' l→ ∀x∈l,uf H H' x
 |[],_,x,h=>by simp at h
 |y::l,h,x,hx=>by
  rcases List.mem_cons.1 hx with rfl|hx
  ·exact h.1
  ·exact Ux h.2 x hx
def opsT:Option Nat→List AOper→(Fr→BH→Prop)→Fr→BH→Prop
 | _,[],K,f,H=>K f H
 |d,o::rest,K,f,H=>
  match rD o.guard f with
  |some true=>
   match o.op with
   | .call g args=>aF (gX d) g (args.map (ev f)) H fun v H'=>opsT (d.map (· -1)) rest K (updO f o.dst v) H'
   | .callv g args=>
    match ev f g with
    | .func (.func cap) first caps=>first= #[]∧aF (gX d) cap (args.map (ev f)++caps.toList) H fun v H'=>opsT (d.map (· -1)) rest K (updO f o.dst v) H'
    | _=>False
   | .callF g args fl=>gX d=false∧aF false g (args.map (ev f)) H fun v H'=>keepW H H' (fl.map (ev f))∧opsT (d.map (· -1)) rest K (updO f o.dst v) H'
   |op=>
    match aK op (ev f) H with
    |some (v,H')=>(rW op=true→gX d=false)∧opsT (d.map (· -1)) rest K (updO f o.dst v) H'
    |none=>False
  |some false=>opsT (d.map (· -1)) rest K (updO f o.dst undef) H
  |none=>False
theorem aF.mono {x:Bool} {g:Nat} {args:List Value} {H:BH} {K K':Value→BH→Prop} (h:aF x g args H K) (hk: ∀v H',K v H'→K' v H'):aF x g args H K':=by
 intro ρ Z as HA h1 h2
 obtain ⟨v',HA',h3,h4,ρ',Z',v,H',h5,h6,h7,h8,h9,h10⟩:=h ρ Z as HA h1 h2
 exact ⟨v',HA',h3,h4,ρ',Z',v,H',h5,h6,h7,h8,h9,hk _ _ h10⟩
theorem Post.mono {k:Nat} {ρ:Nat→Option Nat} {Z:Nat→Option Blk} {H:BH} {HA:AHeap} {K K':Fr→BH→Prop} {eU:Fr} {HA':AHeap} (h:Post k ρ Z H HA K eU HA') (hk: ∀f H,K f H→K' f H):Post k ρ Z H HA K' eU HA':=by
 obtain ⟨ρ',Z',f',H',h1,h2,h3,h4,h5,h6⟩:=h
 exact ⟨ρ',Z',f',H',h1,h2,h3,h4,h5,hk _ _ h6⟩
theorem T.mono {k:Nat} {c:ACode} {Q Q':Ex→Fr→BH→Prop} {f:Fr} {H:BH} (h:T k c Q f H) (hq: ∀ex f' H',Q ex f' H'→Q' ex f' H'):T k c Q' f H:=by
 intro ρ Z fA HA hk h1 h2
 obtain ⟨ex,eU,HA',h3,h4⟩:=h ρ Z fA HA hk h1 h2
 exact ⟨ex,eU,HA',h3,h4.mono fun f H=>hq ex f H⟩
theorem adV {ρ ρ':Nat→Option Nat} {Z:Nat→Option Blk} {H:BH} {HA:AHeap} (hR:Rel ρ Z H HA) (h: ∀i,i<H.length→ρ' i=ρ i): ∀i b,ρ i=some b→ρ' i=some b:=by
 intro i b hb
 rw [h i,hb]
 rcases Nat.lt_or_ge i H.length with hi|hi
 ·exact hi
 ·rw [hR.top i hi] at hb;cases hb
theorem Uy {ρ:Nat→Option Nat} {Z:Nat→Option Blk} {f fA:Fr} (h:FR ρ Z f fA) {g:Option (Nat×Bool)} {t:Bool} (hg:rD g f=some t):wantedA g fA=t:=by
 unfold rD at hg
 unfold wantedA
 split at hg
 ·simpa using hg
 ·rename_i n b
  have ht:=h n
  split at hg
  ·rename_i x e
   rw [e] at ht
   simp only [ht.bool]
   simpa using hg
  ·rename_i e
   rw [e] at ht
   obtain ⟨ds,he,hl⟩:=ht.tuple_inv
   simp only [he]
   simpa using hg
  ·cases hg
theorem adW {H:BH} {i:Nat} {cs:List Value} (h:blk H i=some cs):i<H.length:=by
 unfold blk at h
 cases hi:H[i]? with
 |none=>rw [hi] at h;cases h
 |some c=>exact (List.getElem?_eq_some_iff.1 hi).1
theorem adX {Z:Nat→Option Blk} {v u:Value} (hp:Am.plain v=true) (h:VZ Z v u):u=v:=by
 cases h with
 |junk=>simp [Am.plain] at hp
 |plain _=>rfl
 |fz _ _ _ _ _ _=>simp [Am.plain] at hp
 |fz0=>simp [Am.plain] at hp
 |fp _ _ _ _ _=>simp [Am.plain] at hp
 |agg _ _=>simp [Am.plain] at hp
 | @tuple cs ds hl _=>
  have:cs=[]:=by simpa [Am.plain] using hp
  subst this
  have:ds=[]:=List.eq_nil_of_length_eq_zero hl.symm
  rw [this]
 |func _ _=>simp [Am.plain] at hp
theorem adY {ρ:Nat→Option Nat} {Z:Nat→Option Blk} {v u:Value} (h:VR ρ Z v u) (hp:Am.plain v=true):u=v:=by
 cases h with
 |z h=>exact adX hp h
 |tuple hl hc=>
  rename_i cs ds
  obtain rfl:cs=[]:=by simpa [Am.plain] using hp
  obtain rfl:ds=[]:=List.eq_nil_of_length_eq_zero hl.symm
  rfl
 | _=>simp [Am.plain] at hp
theorem Uz {ρ:Nat→Option Nat} {Z:Nat→Option Blk} {cs ds:List Value} (h:VL ρ Z cs ds) (hp:cs.all Am.plain=true):cs=ds:=by
 apply List.ext_getElem?
 intro i
 rcases Nat.lt_or_ge i cs.length with hi|hi
 ·have hc:=List.getElem?_eq_getElem hi
  have hd:=List.getElem?_eq_getElem (show i<ds.length by have:=h.1;omega)
  have:=h.2 i _ _ hc hd
  rw [hc,hd,adY this (List.all_eq_true.1 hp _ (List.getElem_mem hi))]
 ·rw [List.getElem?_eq_none hi,List.getElem?_eq_none (by have:=h.1;omega)]
theorem nX: ∀(l:List AOper) (d:Option Nat) (K:Fr→BH→Prop) (f:Fr) (H:BH),opsT d l K f H→ ∀ρ Z fA HA,FR ρ Z f fA→Rel ρ Z H HA→
  ∃eU HA',Ops Γ X d l fA HA eU HA'∧ ∃ρ' Z' f' H',FR ρ' Z' f' eU∧Rel ρ' Z' H' HA'∧H.length≤H'.length∧(∀i,i<H.length→ρ' i=ρ i)∧Frm ρ Z H HA ρ' Z' H' HA'∧K f' H'
 |[],d,K,f,H,h=>fun ρ Z fA HA hf hR=>⟨fA,HA, .nil,ρ,Z,f,H,hf,hR,Nat.le_refl _,fun _ _=>rfl, .refl _ _ _ _,h⟩
 |o::rest,d,K,f,H,h=>by
  intro ρ Z fA HA hf hR
  unfold opsT at h
  have key: ∀(v:Value) (H1:BH) (v':Value) (HA1:AHeap) (bG:Nat→Option Nat) (Z1:Nat→Option Blk),One Γ X o fA HA (updO fA o.dst v') HA1→(∀m,d=some (m+1)→Ext HA HA1)→VR bG Z1 v v'→Rel bG Z1 H1 HA1→H.length≤H1.length→
    (∀i,i<H.length→bG i=ρ i)→Frm ρ Z H HA bG Z1 H1 HA1→opsT (d.map (· -1)) rest K (updO f o.dst v) H1→
    ∃eU HA',Ops Γ X d (o::rest) fA HA eU HA'∧ ∃ρ' Z' f' H',FR ρ' Z' f' eU∧Rel ρ' Z' H' HA'∧H.length≤H'.length∧(∀i,i<H.length→ρ' i=ρ i)∧Frm ρ Z H HA ρ' Z' H' HA'∧K f' H':=by
   intro v H1 v' HA1 bG Z1 h1 h2 h3 h4 h5 h6 h7 h8
   obtain ⟨eU,HA',h9,ρ',Z',f',H',k1,k2,k3,k4,k5,k6⟩:=nX rest _ K _ H1 h8 bG Z1 _ HA1 ((hf.mono (adV hR h6) h7.zx).upd h3) h4
   exact ⟨eU,HA', .cons h1 h2 h9,ρ',Z',f',H',k1,k2,Nat.le_trans h5 k3,fun i hi=>by rw [k4 i (by omega),h6 i hi],h7.trans k5,k6⟩
  split at h
  ·rename_i hg
   have hw:=Uy hf hg
   split at h
   ·rename_i g args ho
    obtain ⟨v',HA1,h1,h2,bG,Z1,v,H1,h3,h4,h5,h6,h7,h8⟩:=h ρ Z _ HA (Ie hf args) hR
    exact key v H1 v' HA1 bG Z1 (.call hw ho h1) (fun m hm=>h2 (pI hm)) h3 h4 h5 h6 h7 h8
   ·rename_i g args ho
    split at h
    ·rename_i cap first caps hgv
     obtain ⟨rfl,h⟩:=h
     have hv:=wG hf g
     rw [hgv] at hv
     obtain ⟨ds,he,hl⟩:=hv.Ig
     obtain ⟨v',HA1,h1,h2,bG,Z1,v,H1,h3,h4,h5,h6,h7,h8⟩:=h ρ Z _ HA ((Ie hf args).append hl) hR
     exact key v H1 v' HA1 bG Z1 (.callv hw ho (caps:=ds.toList) he h1) (fun m hm=>h2 (pI hm)) h3 h4 h5 h6 h7 h8
    ·cases h
   ·rename_i g args fl ho
    obtain ⟨hd,h⟩:=h
    obtain ⟨v',HA1,h1,h2,bG,Z1,v,H1,h3,h4,h5,h6,h7,hk,h8⟩:=h ρ Z _ HA (Ie hf args) hR
    refine key v H1 v' HA1 bG Z1 (.callF hw ho h1 fun x hx b hbn hb=>?_) (fun m hm=>by rw [pI hm] at hd;cases hd) h3 h4 h5 h6 h7 h8
    have hkp:=Ux hk _ (List.mem_map_of_mem hx)
    have pq:=wG hf x
    have fin: ∀j,ug (blk H j) (blk H1 j)→ρ j=some b→HA1.get b=HA.get b:=by
     intro j hko hj
     unfold ug at hko
     split at hko
     ·rename_i cs ds hc hc'
      obtain ⟨rfl,hp⟩:=hko
      obtain ⟨b1,bk1,e1,e2,e3,e4,e5⟩:=hR.bH j cs hc
      obtain ⟨b2,bk2,g1,g2,g3,g4,g5⟩:=h4.bH j cs hc'
      rw [h6 j (adW hc),hj] at g1
      rw [hj] at e1
      cases g1;cases e1
      have c1:=Uz e5 hp
      have c2:=Uz g5 hp
      rw [e3,g3]
      cases bk1;cases bk2
      simp only at c1 c2 e4 g4
      rw [←c1,←c2,e4,g4]
     ·cases hko
    unfold uf at hkp
    split at hkp
    ·rename_i j o' he
     rw [he] at pq
     obtain ⟨b',hb',hv'⟩:=pq.ptr_inv
     rw [hv'] at hb
     simp only [blkOf,Option.some.injEq] at hb
     subst hb
     exact fin j hkp hb'
    ·rename_i j o' l e' he
     rw [he] at pq
     obtain ⟨b',hb',hv'⟩:=pq.slice_inv
     rw [hv'] at hb
     simp only [blkOf,Option.some.injEq] at hb
     subst hb
     exact fin j hkp hb'
    ·rename_i he
     rw [he] at pq
     rw [pq.int] at hb;cases hb
    ·rename_i he
     rw [he] at pq
     rw [pq.bool] at hb;cases hb
    ·rename_i he
     rw [he] at pq
     rw [pq.string] at hb;cases hb
    ·cases hkp
   ·rename_i op ho1 ho2 ho3
    split at h
    ·rename_i v H1 hop
     obtain ⟨h1,h2⟩:=h
     obtain ⟨v',HA1,bG,h3,h4,h5,h6,h7,h8⟩:=adZ hR (wG hf) hop
     refine key v H1 v' HA1 bG Z (.op hw h3) (fun m hm=>?_) h4 h5 ?_ h8 h6 h2
     ·have hn:=pI hm
      cases hwr:rW o.op with
      |true=>rw [h1 hwr] at hn;cases hn
      |false=>exact J9 (by revert hwr;cases o.op<;>simp [rW]) h3
     ·rcases Nat.lt_or_ge H1.length H.length with hlt|hge
      ·have hlen:H.length≤H1.length:=by
        clear key h2 h1 h3 h4 h5 h6 h7 h8
        revert hop
        generalize hoo:o.op=oo
        intro hop
        cases oo with
        |append e b s x=>
         simp only [aK,eH] at hop
         split at hop
         ·cases hop
         ·split at hop
          ·split at hop
           ·cases hop;exact Nat.le_refl _
           ·split at hop
            ·cases hop;simp
            ·cases hop
          ·split at hop
           ·split at hop
            ·split at hop
             ·cases hop;simp
             ·cases hop
            ·cases hop
           ·cases hop
          ·cases hop
        |indexAddr arr e x i=>
         cases arr<;>simp only [aK] at hop<;>repeat' split at hop
         all_goals first|(cases hop;done)|(cases hop;exact Nat.le_refl _)
        |call=>simp [aK] at hop
        |callv=>simp [aK] at hop
        |callF=>simp [aK] at hop
        |appendF e b s x fl=>
         simp only [aK,eH] at hop
         split at hop
         ·split at hop
          ·cases hop
          ·split at hop
           ·split at hop
            ·cases hop;exact Nat.le_refl _
            ·split at hop
             ·cases hop;simp
             ·cases hop
           ·split at hop
            ·split at hop
             ·split at hop
              ·cases hop;simp
              ·cases hop
             ·cases hop
            ·cases hop
           ·cases hop
         ·cases hop
        |mapPut=>
         simp only [aK,wH] at hop
         repeat' split at hop
         all_goals first
          |(cases hop;done)
          |(cases hop;simp)
        |kR=>
         simp only [aK,wI] at hop
         repeat' split at hop
         all_goals first
          |(cases hop;done)
          |(cases hop;exact Nat.le_refl _)
          |(cases hop;simp)
        |lenMap=>
         simp only [aK,wJ] at hop
         repeat' split at hop
         all_goals first
          |(cases hop;done)
          |(cases hop;exact Nat.le_refl _)
        |makeMap=>
         simp only [aK] at hop
         cases hop
         simp only [List.length_append,List.length_singleton]
         omega
        |storeF=>
         simp only [aK,Ih] at hop
         repeat' split at hop
         all_goals first
          |(cases hop;done)
          |(cases hop;exact Nat.le_refl _)
          |(cases hop;simp)
        | _=>
         simp only [aK] at hop
         repeat' split at hop
         all_goals first
          |(cases hop;done)
          |(cases hop;exact Nat.le_refl _)
          |(cases hop;simp)
          |(obtain ⟨_,_,hq⟩:=map_inj hop;cases hq;exact Nat.le_refl _)
          |(obtain ⟨_,_,hq⟩:=map_inj hop;cases hq;simp)
       omega
      ·exact hge
    ·cases h
  ·rename_i hg
   have hw:=Uy hf hg
   exact key undef H undef HA ρ Z (.skip hw) (fun m hm=>Am.Ext.refl' _) (.z (.plain rfl)) hR (Nat.le_refl _) (fun _ _=>rfl) (.refl _ _ _ _) h
  ·cases h
section
variable {k:Nat} {Q:Ex→Fr→BH→Prop} {f:Fr} {H:BH}
theorem Post.here {ρ:Nat→Option Nat} {Z:Nat→Option Blk} {HA:AHeap} {K:Fr→BH→Prop} {fA:Fr} (hk:k≤H.length) (h1:FR ρ Z f fA) (h2:Rel ρ Z H HA) (h:K f H):Post k ρ Z H HA K fA HA:=
 ⟨ρ,Z,f,H,h1,h2,hk,fun _ _=>rfl, .refl _ _ _ _,h⟩
theorem pJ (h:Q .normal f H):T k .skip Q f H:=fun ρ Z fA HA hk h1 h2=>⟨_,_,_, .skip, .here hk h1 h2 h⟩
theorem EI (h:Q .ret f H):T k .ret Q f H:=fun ρ Z fA HA hk h1 h2=>⟨_,_,_, .ret, .here hk h1 h2 h⟩
theorem Ko {id:Nat} (h:Q (.exit id) f H):T k (.exit id) Q f H:=fun ρ Z fA HA hk h1 h2=>⟨_,_,_, .exit, .here hk h1 h2 h⟩
theorem yj {d:Option Nat} {l:List AOper} (h:opsT d l (Q .normal) f H):T k (.region d l) Q f H:=by
 intro ρ Z fA HA hk h1 h2
 obtain ⟨eU,HA',h3,ρ',Z',f',H',h4,h5,h6,h7,h8,h9⟩:=nX l d _ f H h ρ Z fA HA h1 h2
 exact ⟨_,_,_, .region h3,ρ',Z',f',H',h4,h5,by omega,fun i hi=>h7 i (by omega),h8,h9⟩
def dH (k:Nat) (b:ACode) (Q:Ex→Fr→BH→Prop):Ex→Fr→BH→Prop
 | .normal,f,H=>T k b Q f H
 |ex,f,H=>Q ex f H
theorem pG {a b:ACode} (h:T k a (dH k b Q) f H):T k (.seq a b) Q f H:=by
 intro ρ Z fA HA hk h1 h2
 obtain ⟨ex,nP,HA1,h3,bG,Z1,f1,H1,h4,h5,h6,h7,h8,h9⟩:=h ρ Z fA HA hk h1 h2
 cases ex with
 |normal=>
  obtain ⟨ex,eU,HA',h10,ρ',Z',f',H',h11,h12,h13,Ii,h15,h16⟩:=h9 bG Z1 nP HA1 h6 h4 h5
  exact ⟨ex,eU,HA', .seqN h3 h10,ρ',Z',f',H',h11,h12,h13,fun i hi=>by rw [Ii i hi,h7 i hi],h8.trans h15,h16⟩
 |exit id=>exact ⟨_,nP,HA1, .seqX h3 (by simp),bG,Z1,f1,H1,h4,h5,h6,h7,h8,h9⟩
 |ret=>exact ⟨_,nP,HA1, .seqX h3 (by simp),bG,Z1,f1,H1,h4,h5,h6,h7,h8,h9⟩
theorem au {d:Option Nat} {l:List AOper} {b:ACode} (h: ∀K:Fr→BH→Prop,(∀f' H',T k b Q f' H'→K f' H')→opsT d l K f H):T k (.seq (.region d l) b) Q f H:=
 pG (yj (h _ fun _ _ h=>h))
theorem dN {d:Option Nat} {l:List AOper} (h: ∀K:Fr→BH→Prop,(∀f' H',Q .normal f' H'→K f' H')→opsT d l K f H):T k (.region d l) Q f H:=yj (h _ fun _ _ h=>h)
theorem nZ {c c':ACode} (h: ∀f H ex f' H',Big Γ X c' f H ex f' H'→Big Γ X c f H ex f' H') (ht:T k c' Q f H):T k c Q f H:=by
 intro ρ Z fA HA hk h1 h2
 obtain ⟨ex,eU,HA',h3,h4⟩:=ht ρ Z fA HA hk h1 h2
 exact ⟨ex,eU,HA',h _ _ _ _ _ h3,h4⟩
theorem UA {a b c:ACode} {f:Fr} {H:AHeap} {ex:Ex} {f':Fr} {H':AHeap}:Big Γ X (.seq (.seq a b) c) f H ex f' H'↔Big Γ X (.seq a (.seq b c)) f H ex f' H':=by
 constructor
 ·intro h
  cases h with
  |seqN hab hc=>
   cases hab with
   |seqN ha hb=>exact .seqN ha (.seqN hb hc)
   |seqX ha hne=>exact absurd rfl hne
  |seqX hab hne=>
   cases hab with
   |seqN ha hb=>exact .seqN ha (.seqX hb hne)
   |seqX ha hne=>exact .seqX ha hne
 ·intro h
  cases h with
  |seqN ha hbc=>
   cases hbc with
   |seqN hb hc=>exact .seqN (.seqN ha hb) hc
   |seqX hb hne=>exact .seqX (.seqN ha hb) hne
  |seqX ha hne=>exact .seqX (.seqX ha hne) hne
theorem aB {a b c:ACode}:T k (.seq (.seq a b) c) Q f H=T k (.seq a (.seq b c)) Q f H:=
 propext ⟨nZ fun _ _ _ _ _=>UA.1,nZ fun _ _ _ _ _=>UA.2⟩
theorem wX {b:ACode}:T k (.seq .skip b) Q f H=T k b Q f H:=by
 refine propext ⟨nZ fun _ _ _ _ _ h=>?_,nZ fun _ _ _ _ _ h=> .seqN .skip h⟩
 cases h with
 |seqN ha hb=>cases ha;exact hb
 |seqX ha hne=>cases ha;exact absurd rfl hne
theorem wY {b:ACode}:T k (.seq .ret b) Q f H=T k .ret Q f H:=by
 refine propext ⟨nZ fun _ _ _ _ _ h=>?_,nZ fun _ _ _ _ _ h=>?_⟩
 ·cases h with
  |seqN ha hb=>cases ha
  |seqX ha hne=>exact ha
 ·cases h;exact .seqX .ret (by simp)
theorem wZ {i:Nat} {b:ACode}:T k (.seq (.exit i) b) Q f H=T k (.exit i) Q f H:=by
 refine propext ⟨nZ fun _ _ _ _ _ h=>?_,nZ fun _ _ _ _ _ h=>?_⟩
 ·cases h with
  |seqN ha hb=>cases ha
  |seqX ha hne=>exact ha
 ·cases h;exact .seqX .exit (by simp)
theorem dY {c:Opd} {a b r:ACode} {t:Bool} (hc:ev f c= .bool t) (h:T k (.seq (if t then a else b) r) Q f H):T k (.seq (.cond c a b) r) Q f H:=by
 intro ρ Z fA HA hk h1 h2
 obtain ⟨ex,eU,HA',h3,h4⟩:=h ρ Z fA HA hk h1 h2
 have hv:=wG h1 c
 rw [hc] at hv
 refine ⟨ex,eU,HA',?_,h4⟩
 cases h3 with
 |seqN ha hb=>exact .seqN (.cond hv.bool ha) hb
 |seqX ha hne=>exact .seqX (.cond hv.bool ha) hne
theorem jX {c:Opd} {a b:ACode} {t:Bool} (hc:ev f c= .bool t) (h:T k (if t then a else b) Q f H):T k (.cond c a b) Q f H:=by
 intro ρ Z fA HA hk h1 h2
 obtain ⟨ex,eU,HA',h3,h4⟩:=h ρ Z fA HA hk h1 h2
 have hv:=wG h1 c
 rw [hc] at hv
 exact ⟨ex,eU,HA', .cond hv.bool h3,h4⟩
def bW (id:Nat) (Q:Ex→Fr→BH→Prop):Ex→Fr→BH→Prop
 | .exit i,f,H=>if i=id then Q .normal f H else Q (.exit i) f H
 |ex,f,H=>Q ex f H
theorem uK {id:Nat} {a:ACode} (h:T k a (bW id Q) f H):T k (.block id a) Q f H:=by
 intro ρ Z fA HA hk h1 h2
 obtain ⟨ex,nP,HA1,h3,h4⟩:=h ρ Z fA HA hk h1 h2
 cases ex with
 |normal=>exact ⟨_,nP,HA1, .block h3 (by simp),h4⟩
 |exit i=>
  by_cases e:i=id
  ·subst e
   exact ⟨_,nP,HA1, .blockX h3,h4.mono fun f H h=>by simpa [bW] using h⟩
  ·exact ⟨_,nP,HA1, .block h3 (by simpa using e),h4.mono fun f H h=>by simpa [bW,e] using h⟩
 |ret=>exact ⟨_,nP,HA1, .block h3 (by simp),h4⟩
theorem fV {id:Nat} {a b:ACode} (hn:kQ id a=true) (h:T k (.seq a b) Q f H):T k (.seq (.block id a) b) Q f H:=
 nZ (fun _ _ _ _ _ h=>by
  cases h with
  |seqN ha hb=>exact .seqN (.block ha (by simp)) hb
  |seqX ha hne=>exact .seqX (.block ha (oN a ha hn)) hne) h
theorem fZ {id:Nat} {a:ACode} (hn:kQ id a=true) (h:T k a Q f H):T k (.block id a) Q f H:=
 nZ (fun _ _ _ _ _ h=> .block h (oN a h hn)) h
def Gh (k:Nat) (f:Fr) (H:BH) (f1:Fr) (H1:BH):Prop:=
 (k≤H.length→k≤H1.length)∧ ∀ρ Z fA HA,FR ρ Z f fA→Rel ρ Z H HA→ ∃ρ' Z',FR ρ' Z' f1 fA∧Rel ρ' Z' H1 HA∧(∀i,i<k→ρ' i=ρ i)∧Frm ρ Z H HA ρ' Z' H1 HA
def aY (k:Nat) (v:Value) (H:BH) (v1:Value) (H1:BH):Prop:=
 (k≤H.length→k≤H1.length)∧ ∀ρ Z u HA,VR ρ Z v u→Rel ρ Z H HA→ ∃ρ' Z',VR ρ' Z' v1 u∧Rel ρ' Z' H1 HA∧(∀i,i<k→ρ' i=ρ i)∧Frm ρ Z H HA ρ' Z' H1 HA
theorem Gh.refl:Gh k f H f H:=⟨id,fun ρ Z fA HA h1 h2=>⟨ρ,Z,h1,h2,fun _ _=>rfl, .refl _ _ _ _⟩⟩
theorem Gh.trans {f1 f2:Fr} {H1 H2:BH} (h:Gh k f H f1 H1) (g:Gh k f1 H1 f2 H2):Gh k f H f2 H2:=⟨fun hk=>g.1 (h.1 hk),fun ρ Z fA HA h1 h2=>by
 obtain ⟨bG,Z1,h3,h4,h5,h6⟩:=h.2 ρ Z fA HA h1 h2
 obtain ⟨nR,Z2,h7,h8,h9,h10⟩:=g.2 bG Z1 fA HA h3 h4
 exact ⟨nR,Z2,h7,h8,fun i hi=>by rw [h9 i hi,h5 i hi],h6.trans h10⟩⟩
theorem aY.refl {v:Value}:aY k v H v H:=⟨id,fun ρ Z u HA h1 h2=>⟨ρ,Z,h1,h2,fun _ _=>rfl, .refl _ _ _ _⟩⟩
theorem aY.trans {v v1 v2:Value} {H1 H2:BH} (h:aY k v H v1 H1) (g:aY k v1 H1 v2 H2):aY k v H v2 H2:=⟨fun hk=>g.1 (h.1 hk),fun ρ Z u HA h1 h2=>by
 obtain ⟨bG,Z1,h3,h4,h5,h6⟩:=h.2 ρ Z u HA h1 h2
 obtain ⟨nR,Z2,h7,h8,h9,h10⟩:=g.2 bG Z1 u HA h3 h4
 exact ⟨nR,Z2,h7,h8,fun i hi=>by rw [h9 i hi,h5 i hi],h6.trans h10⟩⟩
theorem jT {c:ACode} {f1:Fr} {H1:BH} (hg:Gh k f H f1 H1) (h:T k c Q f1 H1):T k c Q f H:=by
 intro ρ Z fA HA hk h1 h2
 obtain ⟨bG,Z1,h3,h4,h5,h6⟩:=hg.2 ρ Z fA HA h1 h2
 obtain ⟨ex,eU,HA',h7,ρ',Z',f',H',h8,h9,h10,h11,h12,h13⟩:=h bG Z1 fA HA (hg.1 hk) h3 h4
 exact ⟨ex,eU,HA',h7,ρ',Z',f',H',h8,h9,h10,fun i hi=>by rw [h11 i hi,h5 i hi],h6.trans h12,h13⟩
theorem Post.gh {ρ:Nat→Option Nat} {Z:Nat→Option Blk} {HA:AHeap} {K:Fr→BH→Prop} {eU:Fr} {HA':AHeap} (h:Post k ρ Z H HA (fun f H=> ∃f1 H1,Gh k f H f1 H1∧K f1 H1) eU HA'):Post k ρ Z H HA K eU HA':=by
 obtain ⟨bG,Z1,f1,H1,h1,h2,h3,h4,h5,f2,H2,hg,h6⟩:=h
 obtain ⟨nR,Z2,h7,h8,h9,h10⟩:=hg.2 bG Z1 _ _ h1 h2
 exact ⟨nR,Z2,f2,H2,h7,h8,hg.1 h3,fun i hi=>by rw [h9 i hi,h4 i hi],h5.trans h10,h6⟩
theorem ad1 {c:ACode} (h:T k c (fun ex f H=> ∃f1 H1,Gh k f H f1 H1∧Q ex f1 H1) f H):T k c Q f H:=by
 intro ρ Z fA HA hk h1 h2
 obtain ⟨ex,eU,HA',h3,h4⟩:=h ρ Z fA HA hk h1 h2
 exact ⟨ex,eU,HA',h3,h4.gh⟩
def dG (J:Fr→BH→Prop) (Q:Ex→Fr→BH→Prop):Ex→Fr→BH→Prop
 | .normal,f,H=>J f H
 |ex,f,H=>Q ex f H
theorem Ey {a:ACode} (J:Nat→Fr→BH→Prop) (n:Nat) (h0:J n f H) (hr: ∀n f H,J n f H→T k a (dG (fun f' H'=> ∃m,m<n∧J m f' H') Q) f H):T k (.loop a) Q f H:=by
 intro ρ Z fA HA hk h1 h2
 induction n using Nat.strongRecOn generalizing f H ρ Z fA HA with
 | _ n ih=>
  obtain ⟨ex,nP,HA1,h3,bG,Z1,f1,H1,h4,h5,h6,h7,h8,h9⟩:=hr n f H h0 ρ Z fA HA hk h1 h2
  cases ex with
  |normal=>
   obtain ⟨m,hm,hJ⟩:=h9
   obtain ⟨ex,eU,HA',h10,ρ',Z',f',H',h11,h12,h13,Ii,h15,h16⟩:=ih m hm hJ bG Z1 nP HA1 h6 h4 h5
   exact ⟨ex,eU,HA', .loopN h3 h10,ρ',Z',f',H',h11,h12,h13,fun i hi=>by rw [Ii i hi,h7 i hi],h8.trans h15,h16⟩
  |exit i=>exact ⟨_,nP,HA1, .loopX h3 (by simp),bG,Z1,f1,H1,h4,h5,h6,h7,h8,h9⟩
  |ret=>exact ⟨_,nP,HA1, .loopX h3 (by simp),bG,Z1,f1,H1,h4,h5,h6,h7,h8,h9⟩
theorem aW {id:Nat} {a rest:ACode} (J:Nat→Fr→BH→Prop) (n:Nat) (h0: ∃f1 H1,Gh k f H f1 H1∧J n f1 H1)
  (hr: ∀n f H (R:Ex→Fr→BH→Prop),J n f H→(∀m f' H' f1 H1,m<n→Gh k f' H' f1 H1→J m f1 H1→R .normal f' H')→(∀f' H',T k rest Q f' H'→R (.exit id) f' H')→(∀f' H',Q .ret f' H'→R .ret f' H')→(∀i f' H',i≠id→Q (.exit i) f' H'→R (.exit i) f' H')→T k a R f H):
  T k (.seq (.block id (.loop a)) rest) Q f H:=by
 obtain ⟨f1,H1,hg,h0⟩:=h0
 refine jT hg (pG (uK (Ey J n h0 fun n f H hJ=>ad1 ?_)))
 refine hr n f H _ hJ (fun m f' H' f1 H1 hm hg h=>⟨f1,H1,hg,m,hm,h⟩) (fun f' H' h=>⟨f',H', .refl,?_⟩) (fun f' H' h=>⟨f',H', .refl,h⟩) (fun i f' H' hi h=>⟨f',H', .refl,?_⟩)
 ·simp only [dG,bW,if_true];exact h
 ·simp only [dG,bW,if_neg hi];exact h
end
def resOf (f:Fr) (H:BH):ARes→Option Value
 | .tmp t=>some (f t)
 | .cell t n=>match f t with| .pointer (some ⟨b,o,none⟩)=>(match blk H b with|some cs=>getN n cs o|none=>none)| _=>none
def resAll (f:Fr) (H:BH):List ARes→Option (List Value)
 |[]=>some []
 |r::rs=>match resOf f H r,resAll f H rs with|some v,some vs=>some (v::vs)| _,_=>none
theorem UC {ρ:Nat→Option Nat} {Z:Nat→Option Blk} {f fA:Fr} {H:BH} {HA:AHeap} (hf:FR ρ Z f fA) (hR:Rel ρ Z H HA): ∀{rs:List ARes} {vs:List Value},resAll f H rs=some vs→ ∃us,Am.resAll fA HA rs=some us∧VL ρ Z vs us
 |[],vs,h=>by simp only [resAll,Option.some.injEq] at h;subst h;exact ⟨[],rfl,VL.nil⟩
 |r::rs,vs,h=>by
  simp only [resAll] at h
  split at h
  ·rename_i v vs' h1 h2
   cases h
   obtain ⟨us,h3,h4⟩:=UC hf hR h2
   have: ∃u,Am.resOf fA HA r=some u∧VR ρ Z v u:=by
    cases r with
    |tmp t=>simp only [resOf,Option.some.injEq] at h1;subst h1;exact ⟨_,rfl,hf t⟩
    |cell t n=>
     simp only [resOf] at h1
     have ht:=hf t
     split at h1
     ·rename_i b o e
      rw [e] at ht
      obtain ⟨b',hb,he⟩:=ht.ptr_inv
      split at h1
      ·rename_i cs hc
       obtain ⟨b2,bk,k1,k2,k3,k4,k5⟩:=hR.bH _ _ hc
       rw [hb] at k1;cases k1
       obtain ⟨u,hu,hv⟩:=zF k5 h1
       exact ⟨u,by simp only [Am.resOf,he,k3,hu],hv⟩
      ·cases h1
     ·cases h1
   obtain ⟨u,hu,hv⟩:=this
   exact ⟨u::us,by simp only [Am.resAll,hu,h3],VL.cons hv h4⟩
  ·cases h
theorem ad2 {ρ:Nat→Option Nat} {Z:Nat→Option Blk} {vs us:List Value} (h:VL ρ Z vs us):VR ρ Z (tup vs) (tup us):=by
 match vs,us,h with
 |[],[],_=>exact .tuple rfl fun i c d h=>by simp at h
 |[v],[u],h=>exact h.2 0 v u rfl rfl
 |v::w::vs,u::x::us,h=>exact .tuple h.1 h.2
 |[],u::us,h=>have:=h.1;simp at this
 |[v],[],h=>have:=h.1;simp at this
 |[v],u::x::us,h=>have:=h.1;simp at this
 |v::w::vs,[],h=>have:=h.1;simp at this
 |v::w::vs,[u],h=>have:=h.1;simp at this
def mg (k:Nat) (rs:List ARes) (K:Value→BH→Prop):Ex→Fr→BH→Prop
 | .exit _,_,_=>False
 | _,f,H=> ∃vs,resAll f H rs=some vs∧ ∃v1 H1,aY k (tup vs) H v1 H1∧K v1 H1
theorem aG {g:Nat} {fn:AFunc} {args:List Value} {H:BH} {K:Value→BH→Prop} (hg:Γ g=some fn) (h:T H.length fn.body (mg H.length fn.results K) (frame0 args) H):aF false g args H K:=by
 intro ρ Z as HA h1 h2
 obtain ⟨ex,eU,HA',h3,bG,Z1,f1,H1,h4,h5,h6,h7,h8,h9⟩:=h ρ Z (frame0 as) HA (Nat.le_refl _) (adU h1) h2
 have key:(ex= .normal∨ex= .ret)→(∃vs,resAll f1 H1 fn.results=some vs∧ ∃v1 H2,aY H.length (tup vs) H1 v1 H2∧K v1 H2)→ ∃v' HA',Cal Γ X g as HA v' HA'∧(false=true→Ext HA HA')∧
   ∃ρ' Z' v H',VR ρ' Z' v v'∧Rel ρ' Z' H' HA'∧H.length≤H'.length∧(∀i,i<H.length→ρ' i=ρ i)∧Frm ρ Z H HA ρ' Z' H' HA'∧K v H':=by
  rintro hex ⟨vs,k1,v1,H2,k2,k3⟩
  obtain ⟨us,k4,k5⟩:=UC h4 h5 k1
  obtain ⟨nR,Z2,k6,k7,k8,k9⟩:=k2.2 bG Z1 _ _ (ad2 k5) h5
  exact ⟨_,HA', .body hg h3 hex k4,fun h=>(by cases h),nR,Z2,v1,H2,k6,k7,k2.1 h6,fun i hi=>by rw [k8 i hi,h7 i hi],h8.trans k9,k3⟩
 cases ex with
 |normal=>exact key (.inl rfl) h9
 |ret=>exact key (.inr rfl) h9
 |exit i=>cases h9
def NN (v:Value):Prop:= ∀ρ Z u,VR ρ Z v u→VZ Z v u
theorem NN.plain {v:Value} (hp:Am.plain v=true):NN v:=fun ρ Z u h=>by
 cases h with
 |z h=>exact h
 |ptr _=>simp [Am.plain] at hp
 |slice _=>simp [Am.plain] at hp
 |agg _ _=>simp [Am.plain] at hp
 | @tuple cs ds h1 h2=>
  have hc:cs=[]:=by simpa [Am.plain] using hp
  subst hc
  exact .tuple h1 fun i c d k1 k2=>by simp at k1
 |func _ _=>simp [Am.plain] at hp
 |map _ _=>simp [Am.plain] at hp
theorem NN.int {k:IntKind} {n:Int}:NN (.int k n):= .plain rfl
theorem NN.bool {b:Bool}:NN (.bool b):= .plain rfl
theorem NN.string {s:ByteArray}:NN (.string s):= .plain rfl
theorem NN.nil:NN (.slice none 0 0):= .plain rfl
theorem NN.undef:NN undef:= .plain rfl
theorem NN.iface {n:Nat} {v:Value}:NN (.iface n v):=fun ρ Z u h=>by cases h with|z h=>exact h
theorem NN.fz {l e:Nat} {cs:List Value}:NN (Fz l e cs):= .iface
theorem NN.junk:NN .nilIface:=fun ρ Z u h=>by cases h with|z h=>exact h
theorem NN.agg {cs:List Value} (h: ∀c∈cs,NN c):NN (.agg ⟨cs⟩):=fun ρ Z u hv=>by
 cases hv with
 |z h=>exact h
 |agg h1 h2=>exact .agg h1 fun i c d k1 k2=>h c (List.mem_of_getElem? k1) _ _ _ (h2 i c d k1 k2)
theorem NN.tuple {cs:List Value} (h: ∀c∈cs,NN c):NN (.tuple ⟨cs⟩):=fun ρ Z u hv=>by
 cases hv with
 |z h=>exact h
 |tuple h1 h2=>exact .tuple h1 fun i c d k1 k2=>h c (List.mem_of_getElem? k1) _ _ _ (h2 i c d k1 k2)
theorem NN.func {m:Nat} {cs:List Value} (h: ∀c∈cs,NN c):NN (.func (.func m) #[] ⟨cs⟩):=fun ρ Z u hv=>by
 cases hv with
 |z h=>exact h
 |func h1 h2=>exact .func h1 fun i c d k1 k2=>h c (List.mem_of_getElem? k1) _ _ _ (h2 i c d k1 k2)
def aJ (cs:List Value):Prop:= ∀c∈cs,NN c
theorem aJ.nil:aJ []:=fun c h=>by cases h
theorem aJ.cons {c:Value} {cs:List Value} (h:NN c) (hl:aJ cs):aJ (c::cs):=fun x hx=>by
 rcases List.mem_cons.1 hx with rfl|hx
 ·exact h
 ·exact hl x hx
theorem aJ.map {α:Type} {g:α→Value} {xs:List α} (h: ∀a,NN (g a)):aJ (xs.map g):=fun x hx=>by
 obtain ⟨a,_,rfl⟩:=List.mem_map.1 hx
 exact h a
theorem aJ.append {as bs:List Value} (h:aJ as) (k:aJ bs):aJ (as++bs):=fun x hx=>(List.mem_append.1 hx).elim (h x) (k x)
theorem aJ.replicate {n:Nat} {v:Value} (h:NN v):aJ (List.replicate n v):=fun x hx=>(List.mem_replicate.1 hx).2▸h
theorem aJ.vz {ρ:Nat→Option Nat} {Z:Nat→Option Blk} {cs ds:List Value} (h:aJ cs) (hv:VL ρ Z cs ds):nS Z cs ds:=⟨hv.1,fun i c d h1 h2=>h c (List.mem_of_getElem? h1) _ _ _ (hv.2 i c d h1 h2)⟩
theorem bK {x:Bool} {g:Nat} {args:List Value} {H:BH} {K:Value→BH→Prop} (ha:aJ args) (h:aF false g args [] fun v _=>NN v∧K v H):aF x g args H K:=by
 intro ρ Z as HA h1 h2
 have hR0:Rel (fun _=>none) Z [] HA:=⟨fun i cs h=>by simp [blk] at h,fun i j cs cs' b h=>by simp [blk] at h,fun i cs b h=>by simp [blk] at h,h2.fH,fun _ _=>rfl⟩
 obtain ⟨v',HA',h3,_,bG,Z1,v,H1,h4,h5,_,_,h6,h7,h8⟩:=h _ Z as HA (ha.vz h1).vl hR0
 have hnew: ∀b bk,Z1 b=some bk→Z b=some bk∨HA.n≤b:=fun b bk hb=>by
  rcases h6.zn b bk hb with h9|h9|⟨j,cs',h9,_⟩
  ·exact .inl h9
  ·exact .inr h9
  ·simp [blk] at h9
 have hkeep: ∀b,b<HA.n→HA'.get b=HA.get b:=fun b hb=>h6.keep b hb fun i cs h=>by simp [blk] at h
 refine ⟨v',HA',h3,fun _=>⟨h6.n,hkeep⟩,ρ,Z1,v,H, .z (h7 _ _ _ h4),⟨fun i cs hc=>?_,h2.inj,fun i cs b hc hb=>?_,h5.fH,h2.top⟩,Nat.le_refl _,fun _ _=>rfl,⟨h6.n,fun b hb _=>hkeep b hb,fun i cs b hc hb=> .inr ⟨i,cs,hc,hb⟩,h6.zx,fun b bk hb=>(hnew b bk hb).imp_right .inl⟩,h8⟩
 ·obtain ⟨b,bk,k1,k2,k3,k4,k5⟩:=h2.bH i cs hc
  exact ⟨b,bk,k1,Nat.lt_of_lt_of_le k2 h6.n,by rw [hkeep b k2];exact k3,k4,k5.mono (fun _ _ h=>h) h6.zx⟩
 ·cases hz:Z1 b with
  |none=>rfl
  |some bk=>
   rcases hnew b bk hz with h9|h9
   ·rw [h2.eF i cs b hc hb] at h9;cases h9
   ·have:=h2.lt hc hb;omega
def frz (i:Nat) (cs:List Value):Value→Value
 | .slice (some ⟨j,o,none⟩) l e=>if j=i∧o+l*e≤cs.length then Fz l e ((cs.drop o).take (l*e)) else .slice (some ⟨j,o,none⟩) l e
 |v=>v
theorem nC {i l e:Nat} {cs:List Value} (h:l*e=cs.length):frz i cs (.slice (some ⟨i,0,none⟩) l e)=Fz l e cs:=by
 simp only [frz]
 rw [if_pos ⟨trivial,by omega⟩,List.drop_zero,List.take_of_length_le (by omega)]
theorem vG {i:Nat} {cs:List Value} {k:IntKind} {n:Int}:frz i cs (.int k n)= .int k n:=rfl
theorem Um {i:Nat} {cs:List Value} {b:Bool}:frz i cs (.bool b)= .bool b:=rfl
theorem Un {i:Nat} {cs:List Value} {b:ByteArray}:frz i cs (.string b)= .string b:=rfl
theorem Uo {i:Nat} {cs:List Value} {a:Array Value}:frz i cs (.agg a)= .agg a:=rfl
theorem Ur {i l e:Nat} {cs ds:List Value}:frz i cs (Fz l e ds)=Fz l e ds:=rfl
theorem FW {i:Nat} {cs:List Value}:frz i cs (.slice none 0 0)= .slice none 0 0:=rfl
theorem Us {i:Nat} {cs:List Value} {a:Option Addr}:frz i cs (.pointer a)= .pointer a:=rfl
theorem yV {ρ:Nat→Option Nat} {Z:Nat→Option Blk} {H:BH} {HA:AHeap} (hR:Rel ρ Z H HA) {i:Nat} {cs:List Value} (hc:blk H i=some cs) (hn:aJ cs):
  ∃Z',Rel ρ Z' (H.set i none) HA∧Frm ρ Z H HA ρ Z' (H.set i none) HA∧ ∀v u,VR ρ Z v u→VR ρ Z' (frz i cs v) u:=by
 obtain ⟨b,bk,h1,h2,h3,h4,h5⟩:=hR.bH i cs hc
 obtain ⟨r,fr⟩:=hR.freeze hc h1 h3
 refine ⟨_,r,fr,fun v u hv=>?_⟩
 have hm:=hv.mono (fun _ _ h=>h) fr.zx
 unfold frz
 split
 ·rename_i j o l e
  split
  ·rename_i hk
   obtain ⟨rfl,hk⟩:=hk
   obtain ⟨b',hb,rfl⟩:=hv.slice_inv
   rw [h1] at hb;cases hb
   have hz:=(hn.vz h5)
   refine .z (.fz (bk:=bk) (ds:=(bk.cells.drop o).take (l*e)) (if_pos rfl) ?_ ?_ ?_ rfl ?_)
   ·simp;omega
   ·exact ((hz.drop o).take _).1
   ·rw [←h5.1];exact hk
   ·exact fun i c d k1 k2=>(((hz.drop o).take _).2 i c d k1 k2).mono fr.zx
  ·exact hm
 ·exact hm
theorem Gh.fz {k:Nat} {f:Fr} {H:BH} {i:Nat} {cs:List Value} (hc:blk H i=some cs) (hn:aJ cs):Gh k f H (fun t=>frz i cs (f t)) (H.set i none):=
 ⟨fun h=>by simpa using h,fun ρ Z fA HA h1 h2=>by
  obtain ⟨Z',h3,h4,h5⟩:=yV h2 hc hn
  exact ⟨ρ,Z',fun t=>h5 _ _ (h1 t),h3,fun _ _=>rfl,h4⟩⟩
def o7 (i:Nat) (cs:List Value):Value→Value
 | .tuple ⟨vs⟩=> .tuple ⟨vs.map (frz i cs)⟩
 |v=>frz i cs v
theorem aY.fz {k:Nat} {v:Value} {H:BH} {i:Nat} {cs:List Value} (hc:blk H i=some cs) (hn:aJ cs):aY k v H (o7 i cs v) (H.set i none):=
 ⟨fun h=>by simpa using h,fun ρ Z u HA h1 h2=>by
  obtain ⟨Z',h3,h4,h5⟩:=yV h2 hc hn
  refine ⟨ρ,Z',?_,h3,fun _ _=>rfl,h4⟩
  unfold o7
  split
  ·rename_i vs
   obtain ⟨ds,rfl,hl⟩:=h1.tuple_inv
   obtain ⟨ds⟩:=ds
   refine .tuple (by simpa using hl.1) fun i c d k1 k2=>?_
   rw [List.getElem?_map] at k1
   obtain ⟨q,hq,rfl⟩:=map_inj k1
   exact h5 _ _ (hl.2 i q d hq k2)
  ·exact h5 _ _ h1⟩
theorem uZ {x:Bool} {g:Nat} {args:List Value} {H:BH} {K:Value→BH→Prop} (i:Nat) {cs:List Value} (hc:blk H i=some cs) (hn:aJ cs) (h:aF x g (args.map (frz i cs)) (H.set i none) K):aF x g args H K:=by
 intro ρ Z as HA h1 h2
 obtain ⟨Z',h3,h4,h5⟩:=yV h2 hc hn
 obtain ⟨v',HA',k1,k2,ρ',Z2,v,H',k3,k4,k5,k6,k7,k8⟩:=h ρ Z' as HA ⟨by simpa using h1.1,fun i c d e1 e2=>by
  rw [List.getElem?_map] at e1
  obtain ⟨q,hq,rfl⟩:=map_inj e1
  exact h5 _ _ (h1.2 i q d hq e2)⟩ h3
 exact ⟨v',HA',k1,k2,ρ',Z2,v,H',k3,k4,by simpa using k5,fun i hi=>k6 i (by simpa using hi),h4.trans k7,k8⟩
def jo (e:Nat):Value→Value
 | .slice none 0 0=>Fz 0 e []
 |v=>v
theorem Ij {ρ:Nat→Option Nat} {Z:Nat→Option Blk} {e:Nat} {v u:Value} (h:VR ρ Z v u):VR ρ Z (jo e v) u:=by
 unfold jo
 split
 ·obtain ⟨_,_,rfl⟩:=h.nil_inv;exact .z .fz0
 ·exact h
def UD (e:Nat):Value→Value
 | .tuple ⟨vs⟩=> .tuple ⟨vs.map (jo e)⟩
 |v=>jo e v
theorem aY.nil {k:Nat} {v:Value} {H:BH} (e:Nat):aY k v H (UD e v) H:=
 ⟨id,fun ρ Z u HA h1 h2=>by
  refine ⟨ρ,Z,?_,h2,fun _ _=>rfl, .refl _ _ _ _⟩
  unfold UD
  split
  ·rename_i vs
   obtain ⟨ds,rfl,hl⟩:=h1.tuple_inv
   obtain ⟨ds⟩:=ds
   refine .tuple (by simpa using hl.1) fun i c d k1 k2=>?_
   rw [List.getElem?_map] at k1
   obtain ⟨q,hq,rfl⟩:=map_inj k1
   exact Ij (hl.2 i q d hq k2)
  ·exact Ij h1⟩
theorem agQ {x:Bool} {g:Nat} {args:List Value} {H:BH} {K:Value→BH→Prop} (e:Nat) (h:aF x g (args.map (jo e)) H K):aF x g args H K:=by
 intro ρ Z as HA h1 h2
 exact h ρ Z as HA ⟨by simpa using h1.1,fun i c d e1 e2=>by
  rw [List.getElem?_map] at e1
  obtain ⟨q,hq,rfl⟩:=map_inj e1
  exact Ij (h1.2 i q d hq e2)⟩ h2
def nm (ns:List Nat) (i:Nat):Option Nat:=ns.findIdx? (· ==i)
def og (ns:List Nat):Value→Value
 | .pointer (some ⟨i,o,none⟩)=>match nm ns i with|some j=> .pointer (some ⟨j,o,none⟩)|none=> .nilIface
 | .slice (some ⟨i,o,none⟩) l e=>match nm ns i with|some j=> .slice (some ⟨j,o,none⟩) l e|none=> .nilIface
 | .pointer none=> .pointer none
 | .slice none 0 0=> .slice none 0 0
 | .int k n=> .int k n
 | .bool b=> .bool b
 | .string s=> .string s
 | .iface n v=> .iface n v
 | .nilFunc=> .nilFunc
 | .map none=> .map none
 | .map (some i)=>match nm ns i,nm ns (i+1) with|some j,some j'=>if j'=j+1 then .map (some j) else .nilIface| _,_=> .nilIface
 | _=> .nilIface
def pl1:Value→Bool
 | .int _ _| .bool _| .string _| .iface _ _| .slice none 0 0=>true
 | _=>false
def ren (ns:List Nat):Value→Value
 | .agg cs=>if cs.toList.all pl1=true then .agg cs else .nilIface
 | .tuple cs=>if cs.toList.all pl1=true then .tuple cs else .nilIface
 | .func (.func m) ⟨[]⟩ cs=> .func (.func m) #[] (cs.map (og ns))
 |v=>og ns v
theorem NN.pl1 {v:Value} (h:pl1 v=true):NN v:=by
 unfold Bm.pl1 at h
 split at h
 ·exact .int
 ·exact .bool
 ·exact .string
 ·exact .iface
 ·exact .nil
 ·cases h
section
variable {ρ ρ':Nat→Option Nat} {Z:Nat→Option Blk} {ns:List Nat}
theorem DI {i j:Nat} (h:nm ns i=some j):ns[j]? =some i:=by
 unfold nm at h
 obtain ⟨hj,hp,_⟩:=List.findIdx?_eq_some_iff_getElem.1 h
 rw [List.getElem?_eq_getElem hj]
 simpa using hp
theorem UE (hr: ∀i j,ns[j]? =some i→ρ' j=ρ i) {v u:Value} (h:VR ρ Z v u):VR ρ' Z (og ns v) u:=by
 unfold og
 split
 ·rename_i i o
  obtain ⟨b,hb,rfl⟩:=h.ptr_inv
  split
  ·rename_i j hj;exact .ptr (by rw [hr i j (DI hj)];exact hb)
  ·exact .z .junk
 ·rename_i i o l e
  obtain ⟨b,hb,rfl⟩:=h.slice_inv
  split
  ·rename_i j hj;exact .slice (by rw [hr i j (DI hj)];exact hb)
  ·exact .z .junk
 ·exact .z (NN.plain rfl _ _ _ h)
 ·exact .z (NN.plain rfl _ _ _ h)
 ·exact .z (NN.plain rfl _ _ _ h)
 ·exact .z (NN.plain rfl _ _ _ h)
 ·exact .z (NN.plain rfl _ _ _ h)
 ·exact .z (NN.iface _ _ _ h)
 ·exact .z (NN.plain rfl _ _ _ h)
 ·exact .z (NN.plain rfl _ _ _ h)
 ·rename_i i
  obtain ⟨b,hb,hb1,rfl⟩:=h.BP
  split
  ·rename_i j j' hj hj'
   split
   ·rename_i e
    subst e
    exact .map (by rw [hr i j (DI hj)];exact hb) (by rw [hr (i+1) (j+1) (DI hj')];exact hb1)
   ·exact .z .junk
  ·exact .z .junk
 ·exact .z .junk
theorem vO (hr: ∀i j,ns[j]? =some i→ρ' j=ρ i) {v u:Value} (h:VR ρ Z v u):VR ρ' Z (ren ns v) u:=by
 unfold ren
 split
 ·rename_i cs
  split
  ·rename_i hp
   obtain ⟨cs⟩:=cs
   exact .z (NN.agg (fun c hc=> .pl1 (List.all_eq_true.1 hp c hc)) _ _ _ h)
  ·exact .z .junk
 ·rename_i cs
  split
  ·rename_i hp
   obtain ⟨cs⟩:=cs
   exact .z (NN.tuple (fun c hc=> .pl1 (List.all_eq_true.1 hp c hc)) _ _ _ h)
  ·exact .z .junk
 ·rename_i m cs
  obtain ⟨ds,rfl,hl⟩:=h.Ig
  obtain ⟨cs⟩:=cs
  obtain ⟨ds⟩:=ds
  rw [List.map_toArray]
  refine .func (by simpa using hl.1) fun i c d k1 k2=>?_
  rw [List.getElem?_map] at k1
  obtain ⟨q,hq,rfl⟩:=map_inj k1
  exact UE hr (hl.2 i q d hq k2)
 ·exact UE hr h
end
theorem pz {ns:List Nat} {H:BH} {j:Nat} {cs:List Value} (h:blk (ns.map (blk H)) j=some cs): ∃i,ns[j]? =some i∧blk H i=some cs:=by
 unfold blk at h
 rw [List.getElem?_map] at h
 cases hn:ns[j]? with
 |none=>rw [hn] at h;cases h
 |some i=>rw [hn] at h;exact ⟨i,rfl,h⟩
def HN (H:BH):Prop:= ∀i cs,blk H i=some cs→aJ cs
theorem HN.nil:HN []:=fun i cs h=>by simp [blk] at h
theorem HN.none {H:BH} (h:HN H):HN (none::H):=fun i cs hc=>by
 cases i with
 |zero=>simp [blk] at hc
 |succ i=>exact h i cs (by simpa [blk] using hc)
theorem HN.cons {H:BH} {c:List Value} (h0:aJ c) (h:HN H):HN (some c::H):=fun i cs hc=>by
 cases i with
 |zero=>simp [blk] at hc;subst hc;exact h0
 |succ i=>exact h i cs (by simpa [blk] using hc)
theorem Gh.norm {k:Nat} {f:Fr} {H:BH} (ns:List Nat) (hd:ns.Nodup) (hk: ∀j,j<k→ns[j]? =some j) (hn:HN H):Gh k f H (fun t=>ren ns (f t)) (ns.map (blk H)):=by
 refine ⟨fun _=>?_,fun ρ Z fA HA h1 h2=>?_⟩
 ·rcases Nat.lt_or_ge ns.length k with h|h
  ·have:=hk ns.length h
   simp at this
  ·simpa using h
 ·have hr: ∀(i j:Nat),ns[j]? =some i→(match ns[j]? with|some i=>ρ i|none=>none)=ρ i:=fun i j h=>by rw [h]
  refine ⟨fun j=>match ns[j]? with|some i=>ρ i|none=>none,Z,fun t=>vO hr (h1 t),⟨fun j cs hc=>?_,fun j j' cs cs' b hc hc' hb hb'=>?_,fun j cs b hc hb=>?_,h2.fH,fun j hj=>?_⟩,fun j hj=>?_,⟨Nat.le_refl _,fun _ _ _=>rfl,fun j cs b hc hb=>?_,fun _ _ h=>h,fun _ _ h=> .inl h⟩⟩
  ·obtain ⟨i,hi,hc'⟩:=pz hc
   obtain ⟨b,bk,e1,e2,e3,e4,e5⟩:=h2.bH i cs hc'
   refine ⟨b,bk,by rw [hi];exact e1,e2,e3,e4,((hn i cs hc').vz e5).vl⟩
  ·obtain ⟨i,hi,hci⟩:=pz hc
   obtain ⟨i',hi',mM⟩:=pz hc'
   rw [hi] at hb;rw [hi'] at hb'
   have:=h2.inj i i' cs cs' b hci mM hb hb'
   subst this
   obtain ⟨e1,e2⟩:=List.getElem?_eq_some_iff.1 hi
   obtain ⟨e3,e4⟩:=List.getElem?_eq_some_iff.1 hi'
   have hp:=List.pairwise_iff_getElem.1 hd
   rcases Nat.lt_trichotomy j j' with hl|hl|hl
   ·exact absurd (e2.trans e4.symm) (hp j j' e1 e3 hl)
   ·exact hl
   ·exact absurd (e4.trans e2.symm) (hp j' j e3 e1 hl)
  ·obtain ⟨i,hi,hci⟩:=pz hc
   rw [hi] at hb
   exact h2.eF i cs b hci hb
  ·have:ns[j]? =none:=List.getElem?_eq_none (by simpa using hj)
   rw [this]
  ·exact hr j j (hk j hj)
  ·obtain ⟨i,hi,hci⟩:=pz hc
   rw [hi] at hb
   exact .inr ⟨i,cs,hci,hb⟩
def oK:List Nat→Nat→BH→BH→BH
 |[],_,H,_=>H
 |i::ns,k,H,H1=>oK ns (k+1) (H.set i (blk H1 k)) H1
theorem agR {k:Nat} {H H1:BH}:oK [] k H H1=H:=rfl
theorem DJ {i k:Nat} {ns:List Nat} {H H1:BH}:oK (i::ns) k H H1=oK ns (k+1) (H.set i (blk H1 k)) H1:=rfl
theorem kM {H:BH} {i j:Nat} {c:Option (List Value)} (h:i<H.length):blk (H.set i c) j=if j=i then c else blk H j:=by
 unfold blk
 by_cases e:j=i
 ·subst e;simp [h]
 ·rw [if_neg e,List.getElem?_set_ne (Ne.symm e)]
theorem oC {H:BH} {i:Nat} {cs:List Value} (h:blk H i=some cs):i<H.length:=by
 rcases Nat.lt_or_ge i H.length with h1|h1
 ·exact h1
 ·simp [blk,List.getElem?_eq_none h1] at h
theorem Ik: ∀{ns:List Nat} {k:Nat} {H H1:BH},(oK ns k H H1).length=H.length
 |[],_,_,_=>rfl
 |i::ns,k,H,H1=>by rw [DJ,Ik,List.length_set]
theorem zG: ∀{ns:List Nat} {k:Nat} {H H1:BH} {j:Nat},(∀i∈ns,i<H.length)→j∉ns→blk (oK ns k H H1) j=blk H j
 |[],_,_,_,_,_,_=>rfl
 |i::ns,k,H,H1,j,hl,hj=>by
  rw [DJ,zG (fun x hx=>by rw [List.length_set];exact hl x (by simp [hx])) (fun hx=>hj (by simp [hx])),kM (hl i (by simp)),if_neg (fun e=>hj (by simp [e]))]
theorem Il: ∀{ns:List Nat} {k:Nat} {H H1:BH} {j i:Nat},(∀i∈ns,i<H.length)→ns.Nodup→ns[j]? =some i→blk (oK ns k H H1) i=blk H1 (k+j)
 |[],_,_,_,_,_,_,_,h=>by simp at h
 |a::ns,k,H,H1,0,i,hl,hd,h=>by
  simp only [List.getElem?_cons_zero,Option.some.injEq] at h
  subst h
  rw [DJ,zG (fun x hx=>by rw [List.length_set];exact hl x (by simp [hx])) (List.nodup_cons.1 hd).1,kM (hl a (by simp)),if_pos rfl]
  rfl
 |a::ns,k,H,H1,j+1,i,hl,hd,h=>by
  rw [DJ,Il (j:=j) (fun x hx=>by rw [List.length_set];exact hl x (by simp [hx])) (List.nodup_cons.1 hd).2 (by simpa using h)]
  congr 1
  omega
def Bk (ns:List Nat) (v v2:Value):Prop:= ∀(ρ bG:Nat→Option Nat) (Z:Nat→Option Blk) (u:Value),(∀i j,ns[j]? =some i→bG j=ρ i)→VR bG Z v u→VR ρ Z v2 u
theorem Bk.nn {ns:List Nat} {v:Value} (h:NN v):Bk ns v v:=fun ρ bG Z u _ hv=> .z (h _ _ _ hv)
theorem Bk.slice {ns:List Nat} {i j o l e:Nat} (h:ns[j]? =some i):Bk ns (.slice (some ⟨j,o,none⟩) l e) (.slice (some ⟨i,o,none⟩) l e):=fun ρ bG Z u hr hv=>by
 obtain ⟨b,hb,rfl⟩:=hv.slice_inv
 exact .slice (by rw [←hr i j h];exact hb)
theorem UF {g:Nat} {args:List Value} {H:BH} {K:Value→BH→Prop} (ns:List Nat) (hd:ns.Nodup) (hl: ∀i∈ns,∃cs,blk H i=some cs∧aJ cs)
  (h:aF false g (args.map (ren ns)) (ns.map (blk H)) fun v H1=> ∃v2,Bk ns v v2∧HN H1∧K v2 (oK ns 0 H H1)):aF false g args H K:=by
 intro ρ Z as HA h1 h2
 have hlt: ∀i∈ns,i<H.length:=fun i hi=>by obtain ⟨cs,hc,_⟩:=hl i hi;exact oC hc
 have hr: ∀(i j:Nat),ns[j]? =some i→(match ns[j]? with|some i=>ρ i|none=>none)=ρ i:=fun i j h=>by rw [h]
 have hinj: ∀i i' cs cs' b,blk H i=some cs→blk H i'=some cs'→ρ i=some b→ρ i'=some b→i=i':=h2.inj
 have hR0:Rel (fun j=>match ns[j]? with|some i=>ρ i|none=>none) Z (ns.map (blk H)) HA:=by
  refine ⟨fun j cs hc=>?_,fun j j' cs cs' b hc hc' hb hb'=>?_,fun j cs b hc hb=>?_,h2.fH,fun j hj=>?_⟩
  ·obtain ⟨i,hi,hc'⟩:=pz hc
   obtain ⟨b,bk,e1,e2,e3,e4,e5⟩:=h2.bH i cs hc'
   obtain ⟨cs2,hc2,hn⟩:=hl i (List.mem_of_getElem? hi)
   rw [hc'] at hc2;cases hc2
   exact ⟨b,bk,by rw [hi];exact e1,e2,e3,e4,(hn.vz e5).vl⟩
  ·obtain ⟨i,hi,hci⟩:=pz hc
   obtain ⟨i',hi',mM⟩:=pz hc'
   rw [hi] at hb;rw [hi'] at hb'
   have:=h2.inj i i' cs cs' b hci mM hb hb'
   subst this
   obtain ⟨e1,e2⟩:=List.getElem?_eq_some_iff.1 hi
   obtain ⟨e3,e4⟩:=List.getElem?_eq_some_iff.1 hi'
   have hp:=List.pairwise_iff_getElem.1 hd
   rcases Nat.lt_trichotomy j j' with hl|hl|hl
   ·exact absurd (e2.trans e4.symm) (hp j j' e1 e3 hl)
   ·exact hl
   ·exact absurd (e4.trans e2.symm) (hp j' j e3 e1 hl)
  ·obtain ⟨i,hi,hci⟩:=pz hc
   rw [hi] at hb
   exact h2.eF i cs b hci hb
  ·have:ns[j]? =none:=List.getElem?_eq_none (by simpa using hj)
   rw [this]
 obtain ⟨v',HA',k1,_,bG,Z1,v,H1,k2,k3,k4,k5,k6,v2,k7,k8,k9⟩:=h _ Z as HA ⟨by simpa using h1.1,fun i c d e1 e2=>by
  rw [List.getElem?_map] at e1
  obtain ⟨q,hq,rfl⟩:=map_inj e1
  exact vO hr (h1.2 i q d hq e2)⟩ hR0
 have Io: ∀i j,ns[j]? =some i→bG j=ρ i:=fun i j hj=>by
  have:j<(ns.map (blk H)).length:=by
   have:=(List.getElem?_eq_some_iff.1 hj).1
   simpa using this
  rw [k5 j this,hr i j hj]
 have hlive: ∀i cs,blk (oK ns 0 H H1) i=some cs→ ∃cs0,blk H i=some cs0:=fun i cs hc=>by
  by_cases hi:i∈ns
  ·obtain ⟨c,hc,_⟩:=hl i hi;exact ⟨c,hc⟩
  ·rw [zG hlt hi] at hc;exact ⟨cs,hc⟩
 have hown: ∀j cs b,blk (ns.map (blk H)) j=some cs→(match ns[j]? with|some i=>ρ i|none=>none)=some b→ ∃i,i∈ns∧blk H i=some cs∧ρ i=some b:=fun j cs b hc hb=>by
  obtain ⟨i,hi,hci⟩:=pz hc
  rw [hi] at hb
  exact ⟨i,List.mem_of_getElem? hi,hci,hb⟩
 refine ⟨v',HA',k1,fun e=>(by cases e),ρ,Z1,v2,oK ns 0 H H1,k7 ρ bG Z1 v' Io k2,⟨fun i cs hc=>?_,fun i i' cs cs' b hc hc' hb hb'=>?_,fun i cs b hc hb=>?_,k3.fH,fun i hi=>h2.top i (by rw [Ik] at hi;exact hi)⟩,by rw [Ik];exact Nat.le_refl _,fun _ _=>rfl,
  ⟨k6.n,fun b hb hn=>k6.keep b hb fun j cs hc hb'=>?_,fun i cs b hc hb=>?_,k6.zx,fun b bk hb=>?_⟩,k9⟩
 ·by_cases hi:i∈ns
  ·obtain ⟨j,hj⟩:=List.getElem?_of_mem hi
   rw [Il hlt hd hj,Nat.zero_add] at hc
   obtain ⟨b,bk,e1,e2,e3,e4,e5⟩:=k3.bH j cs hc
   exact ⟨b,bk,by rw [←Io i j hj];exact e1,e2,e3,e4,((k8 j cs hc).vz e5).vl⟩
  ·rw [zG hlt hi] at hc
   obtain ⟨b,bk,e1,e2,e3,e4,e5⟩:=h2.bH i cs hc
   refine ⟨b,bk,e1,Nat.lt_of_lt_of_le e2 k6.n,?_,e4,e5.mono (fun _ _ h=>h) k6.zx⟩
   rw [k6.keep b e2 fun j cs' hc' hb'=>?_]
   ·exact e3
   ·obtain ⟨i',hi',mM,um⟩:=hown j cs' b hc' hb'
    exact hi (h2.inj i i' cs cs' b hc mM e1 um▸hi')
 ·obtain ⟨c,hc1⟩:=hlive i cs hc
  obtain ⟨c',hc2⟩:=hlive i' cs' hc'
  exact h2.inj i i' c c' b hc1 hc2 hb hb'
 ·by_cases hi:i∈ns
  ·obtain ⟨j,hj⟩:=List.getElem?_of_mem hi
   rw [Il hlt hd hj,Nat.zero_add] at hc
   exact k3.eF j cs b hc (by rw [Io i j hj];exact hb)
  ·rw [zG hlt hi] at hc
   cases hz:Z1 b with
   |none=>rfl
   |some bk=>
    exfalso
    rcases k6.zn b bk hz with h9|h9|⟨j,cs',h9,h10⟩
    ·rw [h2.eF i cs b hc hb] at h9;cases h9
    ·have:=h2.lt hc hb;omega
    ·obtain ⟨i',hi',mM,um⟩:=hown j cs' b h9 h10
     exact hi (h2.inj i i' cs cs' b hc mM hb um▸hi')
 ·obtain ⟨i',hi',mM,um⟩:=hown j cs b hc hb'
  exact hn i' cs mM um
 ·obtain ⟨c,hc1⟩:=hlive i cs hc
  exact .inr ⟨i,c,hc1,hb⟩
 ·rcases k6.zn b bk hb with h9|h9|⟨j,cs',h9,h10⟩
  ·exact .inl h9
  ·exact .inr (.inl h9)
  ·obtain ⟨i',hi',mM,um⟩:=hown j cs' b h9 h10
   exact .inr (.inr ⟨i',cs',mM,um⟩)
theorem ad3 {g:Nat} {args:List Value} {H:BH} {K:Value→BH→Prop} (ns:List Nat) (hd:ns.Nodup) (hl: ∀i∈ns,∃cs,blk H i=some cs∧aJ cs)
  (h:aF false g (args.map (ren ns)) (ns.map (blk H)) fun v H1=>NN v∧HN H1∧K v (oK ns 0 H H1)):aF false g args H K:=
 UF ns hd hl (h.mono fun v H1 ⟨h1,h2,h3⟩=>⟨v, .nn h1,h2,h3⟩)
theorem acB {g:Nat} {args:List Value} {H:BH} {K:Value→BH→Prop} {i:Nat} {cs:List Value} (hc:blk H i=some cs) (hn:aJ cs)
  (h:aF false g (args.map (ren [i])) [some cs] fun v H1=> ∃o l e,v= .slice (some ⟨0,o,none⟩) l e∧HN H1∧K (.slice (some ⟨i,o,none⟩) l e) (H.set i (blk H1 0))):aF false g args H K:=
 UF [i] (by simp) (fun j hj=>by
  obtain rfl:j=i:=by simpa using hj
  exact ⟨cs,hc,hn⟩) (by
  simp only [List.map_cons,List.map_nil,hc]
  exact h.mono fun v H1 ⟨o,l,e,h1,h2,h3⟩=>⟨_,by rw [h1];exact .slice rfl,h2,h3⟩)
theorem UG {x:Bool} {g:Nat} {args:List Value} {H:BH} {K:Value→BH→Prop} (ha:aJ args) (h:aF false g args [] fun v H1=> ∃j cs v2,(∀(ρ ρ':Nat→Option Nat) (Z:Nat→Option Blk) (u:Value),ρ' H.length=ρ j→VR ρ Z v u→VR ρ' Z v2 u)∧blk H1 j=some cs∧aJ cs∧K v2 (H++[some cs])):aF x g args H K:=by
 intro ρ Z as HA h1 h2
 have hR0:Rel (fun _=>none) Z [] HA:=⟨fun i cs h=>by simp [blk] at h,fun i j cs cs' b h=>by simp [blk] at h,fun i cs b h=>by simp [blk] at h,h2.fH,fun _ _=>rfl⟩
 obtain ⟨v',HA',h3,_,bG,Z1,v,H1,h4,h5,_,_,h6,j,cs,v2,hv2,hj,hn,h8⟩:=h _ Z as HA (ha.vz h1).vl hR0
 obtain ⟨b0,bk1,hb0,e2,e3,e4,e5⟩:=h5.bH j cs hj
 have hge:HA.n≤b0:=by
  rcases h6.own j cs b0 hj hb0 with h9|⟨i,cs',h9,_⟩
  ·exact h9
  ·simp [blk] at h9
 have hnew: ∀b bk,Z1 b=some bk→Z b=some bk∨HA.n≤b:=fun b bk hb=>by
  rcases h6.zn b bk hb with h9|h9|⟨j,cs',h9,_⟩
  ·exact .inl h9
  ·exact .inr h9
  ·simp [blk] at h9
 have hkeep: ∀b,b<HA.n→HA'.get b=HA.get b:=fun b hb=>h6.keep b hb fun i cs h=>by simp [blk] at h
 have hold: ∀i cs',blk (H++[some cs]) i=some cs'→(i=H.length∧cs'=cs)∨(i<H.length∧blk H i=some cs'):=fun i cs' hc=>by
  rcases Nat.lt_trichotomy i H.length with hi|hi|hi
  ·right
   refine ⟨hi,?_⟩
   unfold blk at hc⊢
   rwa [List.getElem?_append_left hi] at hc
  ·left
   subst hi
   unfold blk at hc
   rw [List.getElem?_append_right (Nat.le_refl _)] at hc
   simp at hc
   exact ⟨rfl,hc.symm⟩
  ·unfold blk at hc
   rw [List.getElem?_eq_none (by simp;omega)] at hc
   cases hc
 have hρ: ∀i,i<H.length→put ρ H.length b0 i=ρ i:=fun i hi=>by simp only [put];rw [if_neg (by omega)]
 have iY:put ρ H.length b0 H.length=some b0:=by simp [put]
 refine ⟨_,HA',h3,fun _=>⟨h6.n,hkeep⟩,put ρ H.length b0,Z1,v2,H++[some cs],hv2 bG _ Z1 _ (by rw [iY,hb0]) h4,⟨fun i cs' hc=>?_,fun i i' cs1 cs2 b hc hc' hb hb'=>?_,fun i cs' b hc hb=>?_,h5.fH,fun i hi=>?_⟩,by simp,hρ,⟨h6.n,fun b hb _=>hkeep b hb,fun i cs' b hc hb=>?_,h6.zx,fun b bk hb=>(hnew b bk hb).imp_right .inl⟩,h8⟩
 ·rcases hold i cs' hc with ⟨rfl,rfl⟩|⟨hi,hc⟩
  ·exact ⟨b0,bk1,iY,e2,e3,e4,(hn.vz e5).vl⟩
  ·obtain ⟨b,bk,k1,k2,k3,k4,k5⟩:=h2.bH i cs' hc
   refine ⟨b,bk,by rw [hρ i hi];exact k1,Nat.lt_of_lt_of_le k2 h6.n,by rw [hkeep b k2];exact k3,k4,k5.mono (fun q d hq=>?_) h6.zx⟩
   rcases Nat.lt_or_ge q H.length with bD|bD
   ·rw [hρ q bD];exact hq
   ·rw [h2.top q bD] at hq;cases hq
 ·rcases hold i cs1 hc with ⟨rfl,rfl⟩|⟨hi,hc⟩<;>rcases hold i' cs2 hc' with ⟨rfl,_⟩|⟨hi',hc'⟩
  ·rfl
  ·rw [iY] at hb;cases hb
   rw [hρ i' hi'] at hb'
   have:=h2.lt hc' hb'
   omega
  ·rw [iY] at hb';cases hb'
   rw [hρ i hi] at hb
   have:=h2.lt hc hb
   omega
  ·rw [hρ i hi] at hb;rw [hρ i' hi'] at hb'
   exact h2.inj i i' cs1 cs2 b hc hc' hb hb'
 ·rcases hold i cs' hc with ⟨rfl,rfl⟩|⟨hi,hc⟩
  ·rw [iY] at hb;cases hb
   exact h5.eF j _ b0 hj hb0
  ·rw [hρ i hi] at hb
   cases hz:Z1 b with
   |none=>rfl
   |some bk=>
    rcases hnew b bk hz with h9|h9
    ·rw [h2.eF i cs' b hc hb] at h9;cases h9
    ·have:=h2.lt hc hb;omega
 ·simp only [List.length_append,List.length_singleton] at hi
  simp only [put]
  rw [if_neg (by omega)]
  exact h2.top i (by omega)
 ·rcases hold i cs' hc with ⟨rfl,rfl⟩|⟨hi,hc⟩
  ·rw [iY] at hb;cases hb
   exact .inl hge
  ·rw [hρ i hi] at hb
   exact .inr ⟨i,cs',hc,hb⟩
theorem MX {x:Bool} {g:Nat} {args:List Value} {H:BH} {K:Value→BH→Prop} (ha:aJ args) (h:aF false g args [] fun v H1=> ∃j l e cs,v= .slice (some ⟨j,0,none⟩) l e∧blk H1 j=some cs∧aJ cs∧K (.slice (some ⟨H.length,0,none⟩) l e) (H++[some cs])):aF x g args H K:=
 UG ha (h.mono fun v H1 ⟨j,l,e,cs,h1,h2,h3,h4⟩=>⟨j,cs,_,fun ρ ρ' Z u hr hv=>by
  rw [h1] at hv
  obtain ⟨b,hb,rfl⟩:=hv.slice_inv
  exact .slice (by rw [hr];exact hb),h2,h3,h4⟩)
theorem agS {x:Bool} {g:Nat} {args:List Value} {H:BH} {K:Value→BH→Prop} (ha:aJ args) (h:aF false g args [] fun v H1=> ∃j l e cs k n,v= .tuple ⟨[.slice (some ⟨j,0,none⟩) l e, .int k n]⟩∧blk H1 j=some cs∧aJ cs∧K (.tuple ⟨[.slice (some ⟨H.length,0,none⟩) l e, .int k n]⟩) (H++[some cs])):aF x g args H K:=
 UG ha (h.mono fun v H1 ⟨j,l,e,cs,k,n,h1,h2,h3,h4⟩=>⟨j,cs,_,fun ρ ρ' Z u hr hv=>by
  rw [h1] at hv
  obtain ⟨ds,rfl,hl⟩:=hv.tuple_inv
  obtain ⟨ds⟩:=ds
  obtain ⟨d1,r1,rfl,w1,hl⟩:=hl.iV
  obtain ⟨d2,r2,rfl,w2,hl⟩:=hl.iV
  obtain rfl:=hl.jo
  obtain ⟨b,hb,rfl⟩:=w1.slice_inv
  obtain rfl:=w2.int
  exact .tuple rfl (VL.cons (.slice (by rw [hr];exact hb)) (VL.cons (.z (.plain rfl)) VL.nil)).2,h2,h3,h4⟩)
theorem Na {g:Nat} {args:List Value} {H:BH} {K:Value→BH→Prop} {i:Nat} {cs:List Value} (hc:blk H i=some cs) (hn:aJ cs)
  (h:aF false g (args.map (ren [i])) [some cs] fun v H1=>NN v∧HN H1∧K v (H.set i (blk H1 0))):aF false g args H K:=
 ad3 [i] (by simp) (fun j hj=>by
  obtain rfl:j=i:=by simpa using hj
  exact ⟨cs,hc,hn⟩) (by
  simp only [List.map_cons,List.map_nil,hc]
  exact h)
theorem aY.norm {k:Nat} {v:Value} {H:BH} (ns:List Nat) (hd:ns.Nodup) (hk: ∀j,j<k→ns[j]? =some j) (hn:HN H) (hv:NN v):aY k v H v (ns.map (blk H)):=
 ⟨(Gh.norm (f:=fun _=>v) ns hd hk hn).1,fun ρ Z u HA h1 h2=>by
  obtain ⟨ρ',Z',h3,h4,h5,h6⟩:=(Gh.norm (f:=fun _=>v) ns hd hk hn).2 ρ Z (fun _=>u) HA (fun _=>h1) h2
  exact ⟨ρ',Z', .z ((hv ρ Z u h1).mono h6.zx),h4,h5,h6⟩⟩
theorem aF.gh {x:Bool} {g:Nat} {args:List Value} {H:BH} {K0 K:Value→BH→Prop} (h:aF x g args H K0) (hk: ∀v H1,K0 v H1→ ∃v2 H2,aY H.length v H1 v2 H2∧K v2 H2):aF x g args H K:=by
 intro ρ Z as HA h1 h2
 obtain ⟨v',HA',h3,h4,bG,Z1,v,H1,h5,h6,h7,h8,h9,h10⟩:=h ρ Z as HA h1 h2
 obtain ⟨v2,H2,k1,k2⟩:=hk v H1 h10
 obtain ⟨nR,Z2,k3,k4,k5,k6⟩:=k1.2 bG Z1 _ _ h5 h6
 exact ⟨v',HA',h3,h4,nR,Z2,v2,H2,k3,k4,k1.1 h7,fun i hi=>by rw [k5 i hi,h8 i hi],h9.trans k6,k2⟩
theorem oz {x:Bool} {g:Nat} {args:List Value} {H:BH} {K:Value→BH→Prop} {l e:Nat} {cs:List Value} (ha:aJ args) (hn:aJ cs) (hl:l*e=cs.length) (h:aF false g args [] fun v H1=> ∃j,v= .slice (some ⟨j,0,none⟩) l e∧blk H1 j=some cs) (hK:K (Fz l e cs) H):aF x g args H K:=
 bK ha (h.gh fun v H1 ⟨j,h1,h2⟩=>⟨o7 j cs v,H1.set j none,aY.fz h2 hn,by
  have e1:o7 j cs (.slice (some ⟨j,0,none⟩) l e)=Fz l e cs:=by
   simp only [o7]
   exact nC hl
  rw [h1,e1]
  exact ⟨NN.fz,hK⟩⟩)
theorem CQ {x:Bool} {g:Nat} {args:List Value} {H:BH} {K:Value→BH→Prop} {l e:Nat} {cs:List Value} (ha:aJ args) (hn:aJ cs) (h:aF false g args [] fun v H1=> ∃j,v= .slice (some ⟨j,0,none⟩) l e∧blk H1 j=some cs) (hK:K (.slice (some ⟨H.length,0,none⟩) l e) (H++[some cs])):aF x g args H K:=
 MX ha (h.mono fun v H1 ⟨j,h1,h2⟩=>⟨j,l,e,cs,h1,h2,hn,hK⟩)
end Go.Bm
