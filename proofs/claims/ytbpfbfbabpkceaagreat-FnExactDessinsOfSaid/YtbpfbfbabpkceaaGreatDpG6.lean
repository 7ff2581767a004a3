/- DpRa -/
import Derived.Test.YtbpfbfbabpkceaaGreatAmIp
import Derived.Test.YtbpfbfbabpkceaaGreatDpG5
set_option linter.unusedVariables false
set_option linter.unusedSimpArgs false
set_option linter.unusedSectionVars false
namespace Go.Bm
open Go Go.Am Go.Bm
def KD:Type:={d:L2//By 16 d.1∧By 16 d.2}
instance:Inhabited KD:=⟨⟨(fH,fH),Q5.wL,Q5.wL⟩⟩
def ji (n:Int) (x:KD):List Value:=DC n x.1.1 x.1.2
def cfD (x y:KD):Int:=oV x.1 y.1
theorem zO {x y:KD}:Go.Proofs.ltOf cfD x y=true↔bU x.1 y.1:=by
 have:=Iq (x:=x.1) (y:=y.1) x.2.1 x.2.2 y.2.1 y.2.2
 simp only [Go.Proofs.ltOf,cfD,decide_eq_true_eq,this]
theorem wM {x y:KD}:Go.Proofs.ltOf cfD x y=false↔ ¬bU x.1 y.1:=by
 rw [←zO];simp
theorem swoD:Go.Sort.SWO (Go.Proofs.ltOf cfD) where
 irrefl:=fun x=>wM.2 (tH _)
 trans:=fun x y z h k=>zO.2 (lt2_trans (zO.1 h) (zO.1 k))
 ntrans:=fun x y z h k=>wM.2 fun hz=>by
  have h:=wM.1 h
  have k:=wM.1 k
  by_cases e:bU y.1 x.1
  ·exact k (lt2_trans e hz)
  ·have:=zQ h e
   rw [this] at hz
   exact k hz
theorem CS {n:Int} (x:KD):(ji n x).length=33:=by
 have h1:=x.2.1.len
 have h2:=x.2.2.len
 simp [ji,h1,h2]
theorem tC {n:Int} (x:KD): ∀c∈ji n x,∃k m,c= .int k m:=fun c hc=>by
 rcases List.mem_cons.1 hc with rfl|hc
 ·exact ⟨_,_,rfl⟩
 ·rcases List.mem_append.1 hc with hc|hc<;>(obtain ⟨y,_,rfl⟩:=List.mem_map.1 hc;exact ⟨_,_,rfl⟩)
theorem Ir: ∀(m:Nat) {cs:List Value},keyG (List.replicate m .u8) cs=true→ ∃l:List Nat,l.length=m∧(∀x∈l,x<256)∧cs=l.map N8
 |0,cs,h=>⟨[],rfl,by simp,keyG_nil h⟩
 |m+1,cs,h=>by
  obtain ⟨k,cs',rfl,hw,h2⟩:=keyG_cons h
  obtain ⟨l,h3,h4,rfl⟩:=Ir m h2
  have e1:IntKind.u8.min=0:=by decide
  have e2:IntKind.u8.max=255:=by decide
  simp only [Lit.wf,e1,e2,Bool.and_eq_true,decide_eq_true_eq] at hw
  refine ⟨k.toNat::l,by simp [h3],fun x hx=>?_,?_⟩
  ·rcases List.mem_cons.1 hx with rfl|hx
   ·omega
   ·exact h4 x hx
  ·rw [List.map_cons]
   have:((k.toNat:Nat):Int)=k:=by omega
   show _=Value.int .u8 ((k.toNat:Nat):Int)::_
   rw [this]
theorem Iu {l:List Nat} (h:l.length=16) (hx: ∀x∈l,x<256):By 16 l:=⟨h,fun i=>by
 unfold nl
 rw [List.getD_eq_getElem?_getD]
 cases hi:l[i]? with
 |none=>simp
 |some x=>exact hx x (List.mem_of_getElem? hi)⟩
theorem Zm {n:Int} {cs:List Value} (h:keyG (.i64::List.replicate 32 .u8) (.int .i64 n::cs)=true): ∃x:KD,Value.agg ⟨.int .i64 n::cs⟩=KV (ji n) x:=by
 obtain ⟨k,cs',e,_,h2⟩:=keyG_cons h
 cases e
 obtain ⟨l,h3,h4,rfl⟩:=Ir 32 h2
 have b1:By 16 (l.take 16):=Iu (by simp [h3]) fun x hx=>h4 x (List.mem_of_mem_take hx)
 have b2:By 16 (l.drop 16):=Iu (by simp [h3]) fun x hx=>h4 x (List.mem_of_mem_drop hx)
 refine ⟨⟨(l.take 16,l.drop 16),b1,b2⟩,?_⟩
 unfold KV ji
 show Value.agg ⟨_⟩=Value.agg ⟨.int .i64 n::((l.take 16).map N8++(l.drop 16).map N8)⟩
 rw [←List.map_append,List.take_append_drop]
theorem CU (a:Value): ¬oN a a:=List.lt_irrefl _
theorem Zn {a b c:Value} (h:oN a b) (k:oN b c):oN a c:=List.lt_trans h k
theorem Iw: ∀{l k:List Value},l.Pairwise oN→k.Pairwise oN→(∀x,x∈l↔x∈k)→l=k
 |[],[],_,_,_=>rfl
 |[],y::k,_,_,h=>by have:=(h y).2 (by simp);cases this
 |x::l,[],_,_,h=>by have:=(h x).1 (by simp);cases this
 |x::l,y::k,h1,h2,h=>by
  obtain ⟨a1,a2⟩:=List.pairwise_cons.1 h1
  obtain ⟨c1,c2⟩:=List.pairwise_cons.1 h2
  have e:x=y:=by
   rcases List.mem_cons.1 ((h x).1 (by simp)) with e|hx
   ·exact e
   ·rcases List.mem_cons.1 ((h y).2 (by simp)) with e|hy
    ·exact e.symm
    ·exact absurd (Zn (c1 x hx) (a1 y hy)) (CU _)
  subst e
  rw [Iw a2 c2 fun z=>?_]
  have hz:=h z
  rw [List.mem_cons,List.mem_cons] at hz
  constructor
  ·intro hl
   rcases hz.1 (.inr hl) with rfl|hk
   ·exact absurd (a1 _ hl) (CU _)
   ·exact hk
  ·intro hk
   rcases hz.2 (.inr hk) with rfl|hl
   ·exact absurd (c1 _ hk) (CU _)
   ·exact hl
theorem Iy {n:Int}: ∀{l:List KD},l.Pairwise (fun x y=>Go.Proofs.ltOf cfD y x=false)→(l.map (KV (ji n))).Nodup→(l.map (KV (ji n))).Pairwise oN
 |[],_,_=> .nil
 |x::l,h,hn=>by
  obtain ⟨h1,h2⟩:=List.pairwise_cons.1 h
  rw [List.map_cons,List.nodup_cons] at hn
  rw [List.map_cons]
  refine List.pairwise_cons.2 ⟨fun k hk=>?_,Iy h2 hn.2⟩
  obtain ⟨y,hy,rfl⟩:=List.mem_map.1 hk
  have h3:=wM.1 (h1 y hy)
  have h4:bU x.1 y.1:=by
   by_cases e:bU x.1 y.1
   ·exact e
   ·have:=zQ e h3
    have hxy:x=y:=Subtype.ext this
    subst hxy
    exact absurd (List.mem_map.2 ⟨x,hy,rfl⟩) hn.1
  have:=Q5.zS x.1.1 y.1.1 x.1.2 y.1.2 (by rw [x.2.1.len,y.2.1.len]) h4
  have e1:(x.1.1++x.1.2).map N8=x.1.1.map N8++x.1.2.map N8:=List.map_append
  have e2:(y.1.1++y.1.2).map N8=y.1.1.map N8++y.1.2.map N8:=List.map_append
  rw [e1,e2] at this
  exact this
theorem grown_of {w w':World} (h1:w'.os=w.os) (h2:w'.tape=w.tape) (h3:w'.output=w.output∧w.drawn≤w'.drawn) (h4:w.heap.size≤w'.heap.size) (h5: ∀r,r<w.heap.size→w'.heap[r]? =w.heap[r]?): ∃q os',w'=Go.Sort.grow (w.drewN q) os':=by
 refine ⟨w'.drawn-w.drawn,w'.heap.extract w.heap.size w'.heap.size,?_⟩
 obtain ⟨hp,tp,dr,os,out⟩:=w
 obtain ⟨hp',tp',Iz,os',out'⟩:=w'
 simp only at h1 h2 h3 h4 h5
 obtain ⟨rfl,h3⟩:=h3
 subst h1;subst h2
 have e1:dr+(Iz-dr)=Iz:=by omega
 have e2:hp++hp'.extract hp.size hp'.size=hp':=by
  apply Array.ext_getElem?
  intro i
  rcases Nat.lt_or_ge i hp.size with hi|hi
  ·rw [Array.getElem?_append_left hi,h5 i hi]
  ·rw [Array.getElem?_append_right hi,Array.getElem?_extract]
   simp only [Nat.min_self]
   split
   ·congr 1;omega
   ·rw [Array.getElem?_eq_none (by omega)]
 simp only [World.drewN,Go.Sort.grow,e1,e2]
def GC (g:Nat):Bool:=g==wI||g==CJ||g==tu
theorem Zp: ∀g fn,GC g=true→Γ g=some fn→codeIn GC fn.body=true:=by
 intro g fn h1 h2
 simp only [GC,Bool.or_eq_true,beq_iff_eq] at h1
 rcases h1 with (rfl|rfl)|rfl
 ·rw [show Γ wI=some kK from rfl] at h2
  cases h2
  decide
 ·rw [show Γ CJ=some oO from rfl] at h2
  cases h2
  decide
 ·rw [show Γ tu=none from rfl] at h2
  cases h2
theorem Zq: ∀g args H v H',GC g=true→X g args H v H'→XB g args H v H':=by
 rintro g args H v H' h1 (h|h)
 ·exact h
 ·obtain ⟨rfl,_⟩:=h
  exact absurd h1 (by decide)
section
variable {Pr:Program} {μ φ:Am.Fun}
theorem Zl (hΓ: ∀g fn q,Γ g=some fn→φ g=some q→trFunc Pr μ φ q=some fn) (hX: ∀g args H v H',XB g args H v H'→SimCal Pr φ g args H v H') {qC:FuncId} (hq:φ wI=some qC) (n:Int) (w:World) (x y:KD):
  Calls Pr qC #[.agg (ji n x).toArray, .agg (ji n y).toArray] w fun e w'=>e= .returned (.int .i64 (cfD x y))∧ ∃q os',w'=Go.Sort.grow (w.drewN q) os':=by
 have h:=IB (x0:=false) (n:=n) (m:=n) (H:=[]) (K:=fun v _=>v=I (oV (x.1.1,x.1.2) (y.1.1,y.1.2))) x.2.1 x.2.2 y.2.1 y.2.2 rfl
 have hpl: ∀z:KD,(ji n z).all Am.plain=true:=fun z=>List.all_eq_true.2 fun c hc=>by
  obtain ⟨k,m,rfl⟩:=tC z c hc
  rfl
 have hv: ∀z:KD,VR (fun _=>none) (fun _=>none) (DV n z.1.1 z.1.2) (DV n z.1.1 z.1.2):=fun z=> .agg rfl (VL.plain (hpl z)).2
 obtain ⟨v',HA',hc,_,ρ',Z',v,H',h1,_,_,_,_,rfl⟩:=h (fun _=>none) (fun _=>none) [DV n x.1.1 x.1.2,DV n y.1.1 y.1.2] ⟨0,fun _=>none⟩ (VL.cons (hv x) (VL.cons (hv y) VL.nil)) ⟨fun i cs h=>by simp [blk] at h,fun i j cs cs' b h=>by simp [blk] at h,fun i cs b h=>by simp [blk] at h,fun b bk h=>(by cases h),fun _ _=>rfl⟩
 obtain rfl:=h1.int
 have hc2:=Cal.less (X':=XB) Zp Zq hc (by decide)
 have hs:=(sound hΓ hX hc2).2.2 qC hq
 have hr:Am.Rel φ (fun _=>none) ⟨0,fun _=>none⟩ w:=⟨fun b blk L h=>(by cases h),fun b b' blk blk' L L' h=>(by cases h),fun _ _=>rfl,fun b L blk h=>(by cases h),fun b L h=>by cases h⟩
 have hva: ∀z:KD,Am.VR φ (fun _=>none) (DV n z.1.1 z.1.2) (.agg (ji n z).toArray):=fun z=>vr_ints fun c hc=>List.all_eq_true.1 (hpl z) c hc
 refine (hs.2 (fun _=>none) [.agg (ji n x).toArray, .agg (ji n y).toArray] w hr (VRL.cons (hva x) (VRL.cons (hva y) VRL.nil)) fun _ _ _=>rfl).mono fun e w' ⟨β',v'',he,hv',hg⟩=>?_
 obtain rfl:=hv'.int
 exact ⟨he,grown_of hg.2.os hg.2.tape hg.2.output hg.2.size fun r hr=>hg.2.frame r hr fun b blk L h=>by cases h⟩
theorem Zk {q:FuncId} (hq:φ Cj=some q) (hfn: ∃fn,Pr.funcs[q]? =some fn∧fn.body.isSome=true∧(fn.name== "runtime.NumGoroutine")=false)
  (hwalk: ∀{n:Int} {gm ck:Nat} {es:Array MapEntry} {w0:World},w0.heap[gm]? =some (.map es ck)→MapKept.Stamped es ck→(∀e∈es.toList,e.val= .bool true∧ ∃x:KD,e.key=KV (ji n) x)→es.size≤1000000→
   Calls Pr q #[.map (some gm)] w0 fun e w'=> ∃(l:List KD) (g cap:Nat) (c:Array Value) (t:TypeId),e= .returned (.slice (some ⟨g,0,none⟩) l.length cap)∧l.Pairwise (fun x y=>Go.Proofs.ltOf cfD y x=false)∧(l.map (KV (ji n))).Nodup∧(∀k,k∈l.map (KV (ji n))↔ ∃e∈es.toList,e.key=k)∧
   w0.heap.size≤g∧w'.heap[g]? =some (.cells c t)∧l.length≤cap∧cap*33≤c.size∧(∀(i:Nat) (v:Value),(l.flatMap (ji n))[i]? =some v→c[i]? =some v)∧(∀r,r<w0.heap.size→w'.heap[r]? =w0.heap[r]?)∧w0.heap.size≤w'.heap.size∧w'.os=w0.os∧w'.tape=w0.tape∧w'.output=w0.output∧w0.drawn≤w'.drawn):
  ∀g args H v H',XM g args H v H'→SimCal Pr φ g args H v H':=by
 rintro g args H v H' ⟨rfl,b,gk,n,ds,rfl,h1,h2,h3,h4,h5,h6,rfl,rfl⟩
 refine ⟨Nat.le_succ _,fun hF=>hF.alloc _,fun q' hq'=>?_⟩
 rw [hq] at hq'
 cases hq'
 refine ⟨hfn,fun β us w hR hargs hfr=>?_⟩
 obtain ⟨hl,hvs⟩:=hargs
 match us,hl,hvs with
 |[va],_,hvs=>
  have hva:=hvs 0 _ va rfl rfl
  cases hva with
  |plain h=>simp [Am.plain] at h
  |map hL hlt=>
   rename_i gm base N
   obtain ⟨_,_,es,ck,hh,hE⟩:=hR.maps b _ _ hL hlt h1
   have hbn:b<H.n:=by
    rcases Nat.lt_or_ge b H.n with q|q
    ·exact q
    ·rw [hR.fin b q] at h1;cases h1
   obtain ⟨e1,e2,e3,e4⟩:=hE gk h2 (hR.mapn b _ hL hlt hbn).2
   refine (hwalk (n:=n) hh e2 (fun e he=>?_) (by omega)).mono fun e w' ⟨l,g,cap,c,t,he,k1,k2,k3,k4,k5,k6,k7,k8,k9,k10,k11,k12,k13,k14⟩=>?_
   ·obtain ⟨q1,q2⟩:=e3 e he
    obtain ⟨cs,q3,q4⟩:=h4 _ q2
    obtain ⟨x,hx⟩:=Zm q4
    exact ⟨q1,x,by rw [q3,hx]⟩
   ·have hds:l.map (KV (ji n))=ds:=Iw (Iy k1 k2) h5 fun k=>by
     rw [k3,h6]
     constructor
     ·rintro ⟨e,he,rfl⟩;exact (e3 e he).2
     ·intro hk;exact e4 k hk
    have hll:l.length=ds.length:=by rw [←hds,List.length_map]
    have hfl:ds.flatMap cellsL=l.flatMap (ji n):=by rw [←hds,List.flatMap_map];rfl
    have hlen:=CV (enc:=ji n) CS l
    have hcap:l.length*33≤cap*33:=Nat.mul_le_mul_right _ k6
    have hg:=Good.fresh hR (hfr H.n (Nat.le_refl _) (Nat.lt_succ_self _)) (cs:=ds.flatMap cellsL) (c:=c) (t:=t) k4 k5 k9 k11 k12 ⟨k13,k14⟩ k10 (by rw [hfl,hlen];omega) fun i v hi=>by
     rw [hfl] at hi
     refine ⟨v,k8 i v hi,?_⟩
     obtain ⟨x,_,hx⟩:=List.mem_flatMap.1 (List.mem_of_getElem? hi)
     obtain ⟨k,m,rfl⟩:=tC x v hx
     exact .plain rfl
    refine ⟨_,_,he,?_,hg⟩
    rw [hll]
    exact .slice (base:=0) (o:=0) (N:=c.size) (by simp [Ren.put]) (by omega) (by omega)
end
end Go.Bm
