/- DpRa -/
import Derived.Test.YtbpfbfbabpkceaaGreatAmIp
import Derived.Test.YtbpfbfbabpkceaaGreatDpG5
set_option linter.unusedVariables false
set_option linter.unusedSimpArgs false
set_option linter.unusedSectionVars false
namespace Go.Bm
open Go Go.Am Go.Bm
def KD:Type:={d:L2//By 16 d.1∧By 16 d.2}
instance:Inhabited KD:=⟨⟨(fQ,fQ),Q5.yC,Q5.yC⟩⟩
def jL (n:Int) (x:KD):List Value:=DC n x.1.1 x.1.2
def cfD (x y:KD):Int:=qg x.1 y.1
theorem BM {x y:KD}:Go.Proofs.ltOf cfD x y=true↔cZ x.1 y.1:=by
 have:=KW (x:=x.1) (y:=y.1) x.2.1 x.2.2 y.2.1 y.2.2
 simp only [Go.Proofs.ltOf,cfD,decide_eq_true_eq,this]
theorem yD {x y:KD}:Go.Proofs.ltOf cfD x y=false↔ ¬cZ x.1 y.1:=by
 rw [←BM];simp
theorem swoD:Go.Sort.SWO (Go.Proofs.ltOf cfD) where
 irrefl:=fun x=>yD.2 (sK _)
 trans:=fun x y z h k=>BM.2 (lt2_trans (BM.1 h) (BM.1 k))
 ntrans:=fun x y z h k=>yD.2 fun hz=>by
  have h:=yD.1 h
  have k:=yD.1 k
  by_cases e:cZ y.1 x.1
  ·exact k (lt2_trans e hz)
  ·have:=yE h e
   rw [this] at hz
   exact k hz
theorem EY {n:Int} (x:KD):(jL n x).length=33:=by
 have h1:=x.2.1.len
 have h2:=x.2.2.len
 simp [jL,h1,h2]
theorem uQ {n:Int} (x:KD): ∀c∈jL n x,∃k m,c= .int k m:=fun c hc=>by
 rcases List.mem_cons.1 hc with rfl|hc
 ·exact ⟨_,_,rfl⟩
 ·rcases List.mem_append.1 hc with hc|hc<;>(obtain ⟨y,_,rfl⟩:=List.mem_map.1 hc;exact ⟨_,_,rfl⟩)
theorem KX: ∀(m:Nat) {cs:List Value},keyG (List.replicate m .u8) cs=true→ ∃l:List Nat,l.length=m∧(∀x∈l,x<256)∧cs=l.map N8
 |0,cs,h=>⟨[],rfl,by simp,keyG_nil h⟩
 |m+1,cs,h=>by
  obtain ⟨k,cs',rfl,hw,h2⟩:=keyG_cons h
  obtain ⟨l,h3,h4,rfl⟩:=KX m h2
  have e1:IntKind.u8.min=0:=by decide
  have e2:IntKind.u8.max=255:=by decide
  simp only [Lit.wf,e1,e2,Bool.and_eq_true,decide_eq_true_eq] at hw
  refine ⟨k.toNat::l,by simp [h3],fun x hx=>?_,?_⟩
  ·rcases List.mem_cons.1 hx with rfl|hx
   ·omega
   ·exact h4 x hx
  ·rw [List.map_cons]
   have:((k.toNat:Nat):Int)=k:=by omega
   show _=Value.int .u8 ((k.toNat:Nat):Int)::_
   rw [this]
theorem KY {l:List Nat} (h:l.length=16) (hx: ∀x∈l,x<256):By 16 l:=⟨h,fun i=>by
 unfold nl
 rw [List.getD_eq_getElem?_getD]
 cases hi:l[i]? with
 |none=>simp
 |some x=>exact hx x (List.mem_of_getElem? hi)⟩
theorem abt {n:Int} {cs:List Value} (h:keyG (.i64::List.replicate 32 .u8) (.int .i64 n::cs)=true): ∃x:KD,Value.agg ⟨.int .i64 n::cs⟩=KV (jL n) x:=by
 obtain ⟨k,cs',e,_,h2⟩:=keyG_cons h
 cases e
 obtain ⟨l,h3,h4,rfl⟩:=KX 32 h2
 have b1:By 16 (l.take 16):=KY (by simp [h3]) fun x hx=>h4 x (List.mem_of_mem_take hx)
 have b2:By 16 (l.drop 16):=KY (by simp [h3]) fun x hx=>h4 x (List.mem_of_mem_drop hx)
 refine ⟨⟨(l.take 16,l.drop 16),b1,b2⟩,?_⟩
 unfold KV jL
 show Value.agg ⟨_⟩=Value.agg ⟨.int .i64 n::((l.take 16).map N8++(l.drop 16).map N8)⟩
 rw [←List.map_append,List.take_append_drop]
theorem EZ (a:Value): ¬pK a a:=List.lt_irrefl _
theorem abu {a b c:Value} (h:pK a b) (k:pK b c):pK a c:=List.lt_trans h k
theorem KZ: ∀{l k:List Value},l.Pairwise pK→k.Pairwise pK→(∀x,x∈l↔x∈k)→l=k
 |[],[],_,_,_=>rfl
 |[],y::k,_,_,h=>by have:=(h y).2 (by simp);cases this
 |x::l,[],_,_,h=>by have:=(h x).1 (by simp);cases this
 |x::l,y::k,h1,h2,h=>by
  obtain ⟨a1,a2⟩:=List.pairwise_cons.1 h1
  obtain ⟨c1,c2⟩:=List.pairwise_cons.1 h2
  have e:x=y:=by
   rcases List.mem_cons.1 ((h x).1 (by simp)) with e|hx
   ·exact e
   ·rcases List.mem_cons.1 ((h y).2 (by simp)) with e|hy
    ·exact e.symm
    ·exact absurd (abu (c1 x hx) (a1 y hy)) (EZ _)
  subst e
  rw [KZ a2 c2 fun z=>?_]
  have hz:=h z
  rw [List.mem_cons,List.mem_cons] at hz
  constructor
  ·intro hl
   rcases hz.1 (.inr hl) with rfl|hk
   ·exact absurd (a1 _ hl) (EZ _)
   ·exact hk
  ·intro hk
   rcases hz.2 (.inr hk) with rfl|hl
   ·exact absurd (c1 _ hk) (EZ _)
   ·exact hl
theorem La {n:Int}: ∀{l:List KD},l.Pairwise (fun x y=>Go.Proofs.ltOf cfD y x=false)→(l.map (KV (jL n))).Nodup→(l.map (KV (jL n))).Pairwise pK
 |[],_,_=> .nil
 |x::l,h,hn=>by
  obtain ⟨h1,h2⟩:=List.pairwise_cons.1 h
  rw [List.map_cons,List.nodup_cons] at hn
  rw [List.map_cons]
  refine List.pairwise_cons.2 ⟨fun k hk=>?_,La h2 hn.2⟩
  obtain ⟨y,hy,rfl⟩:=List.mem_map.1 hk
  have h3:=yD.1 (h1 y hy)
  have h4:cZ x.1 y.1:=by
   by_cases e:cZ x.1 y.1
   ·exact e
   ·have:=yE e h3
    have hxy:x=y:=Subtype.ext this
    subst hxy
    exact absurd (List.mem_map.2 ⟨x,hy,rfl⟩) hn.1
  have:=Q5.BN x.1.1 y.1.1 x.1.2 y.1.2 (by rw [x.2.1.len,y.2.1.len]) h4
  have e1:(x.1.1++x.1.2).map N8=x.1.1.map N8++x.1.2.map N8:=List.map_append
  have e2:(y.1.1++y.1.2).map N8=y.1.1.map N8++y.1.2.map N8:=List.map_append
  rw [e1,e2] at this
  exact this
theorem grown_of {w w':World} (h1:w'.os=w.os) (h2:w'.tape=w.tape) (h3:w'.output=w.output∧w.drawn≤w'.drawn) (h4:w.heap.size≤w'.heap.size) (h5: ∀r,r<w.heap.size→w'.heap[r]? =w.heap[r]?): ∃q os',w'=Go.Sort.grow (w.drewN q) os':=by
 refine ⟨w'.drawn-w.drawn,w'.heap.extract w.heap.size w'.heap.size,?_⟩
 obtain ⟨hp,tp,dr,os,out⟩:=w
 obtain ⟨hp',tp',yF,os',out'⟩:=w'
 simp only at h1 h2 h3 h4 h5
 obtain ⟨rfl,h3⟩:=h3
 subst h1;subst h2
 have e1:dr+(yF-dr)=yF:=by omega
 have e2:hp++hp'.extract hp.size hp'.size=hp':=by
  apply Array.ext_getElem?
  intro i
  rcases Nat.lt_or_ge i hp.size with hi|hi
  ·rw [Array.getElem?_append_left hi,h5 i hi]
  ·rw [Array.getElem?_append_right hi,Array.getElem?_extract]
   simp only [Nat.min_self]
   split
   ·congr 1;omega
   ·rw [Array.getElem?_eq_none (by omega)]
 simp only [World.drewN,Go.Sort.grow,e1,e2]
def GC (g:Nat):Bool:=g==yx||g==ER||g==uO
theorem abv: ∀g fn,GC g=true→Γ g=some fn→codeIn GC fn.body=true:=by
 intro g fn h1 h2
 simp only [GC,Bool.or_eq_true,beq_iff_eq] at h1
 rcases h1 with (rfl|rfl)|rfl
 ·rw [show Γ yx=some lC from rfl] at h2
  cases h2
  decide
 ·rw [show Γ ER=some pV from rfl] at h2
  cases h2
  decide
 ·rw [show Γ uO=none from rfl] at h2
  cases h2
theorem abw: ∀g args H v H',GC g=true→X g args H v H'→XB g args H v H':=by
 rintro g args H v H' h1 (h|h|h)
 ·exact h
 ·obtain ⟨rfl,_⟩:=h
  exact absurd h1 (by decide)
 ·obtain ⟨rfl,_⟩:=h
  exact absurd h1 (by decide)
section
variable {Pr:Program} {μ φ:Am.Fun}
theorem abq (hΓ: ∀g fn q,Γ g=some fn→φ g=some q→trFunc Pr μ φ q=some fn) (hX: ∀g args H v H',XB g args H v H'→SimCal Pr φ g args H v H') {qC:FuncId} (hq:φ yx=some qC) (n:Int) (w:World) (x y:KD):
  Calls Pr qC #[.agg (jL n x).toArray, .agg (jL n y).toArray] w fun e w'=>e= .returned (.int .i64 (cfD x y))∧ ∃q os',w'=Go.Sort.grow (w.drewN q) os':=by
 have h:=Lc (x0:=false) (n:=n) (m:=n) (H:=[]) (K:=fun v _=>v=I (qg (x.1.1,x.1.2) (y.1.1,y.1.2))) x.2.1 x.2.2 y.2.1 y.2.2 rfl
 have hpl: ∀z:KD,(jL n z).all Am.plain=true:=fun z=>List.all_eq_true.2 fun c hc=>by
  obtain ⟨k,m,rfl⟩:=uQ z c hc
  rfl
 have hv: ∀z:KD,VR (fun _=>none) (fun _=>none) (DV n z.1.1 z.1.2) (DV n z.1.1 z.1.2):=fun z=> .agg rfl (VL.plain (hpl z)).2
 obtain ⟨v',HA',hc,_,ρ',Z',v,H',h1,_,_,_,_,rfl⟩:=h (fun _=>none) (fun _=>none) [DV n x.1.1 x.1.2,DV n y.1.1 y.1.2] ⟨0,fun _=>none⟩ (VL.cons (hv x) (VL.cons (hv y) VL.nil)) ⟨fun i cs h=>by simp [blk] at h,fun i j cs cs' b h=>by simp [blk] at h,fun i cs b h=>by simp [blk] at h,fun b bk h=>(by cases h),fun _ _=>rfl⟩
 obtain rfl:=h1.int
 have hc2:=Cal.less (X':=XB) abv abw hc (by decide)
 have hs:=(sound hΓ hX hc2).2.2 qC hq
 have hr:Am.Rel φ (fun _=>none) ⟨0,fun _=>none⟩ w:=⟨fun b blk L h=>(by cases h),fun b b' blk blk' L L' h=>(by cases h),fun _ _=>rfl,fun b L blk h=>(by cases h),fun b L h=>by cases h⟩
 have hva: ∀z:KD,Am.VR φ (fun _=>none) (DV n z.1.1 z.1.2) (.agg (jL n z).toArray):=fun z=>vr_ints fun c hc=>List.all_eq_true.1 (hpl z) c hc
 refine (hs.2 (fun _=>none) [.agg (jL n x).toArray, .agg (jL n y).toArray] w hr (VRL.cons (hva x) (VRL.cons (hva y) VRL.nil)) fun _ _ _=>rfl).mono fun e w' ⟨β',v'',he,hv',hg⟩=>?_
 obtain rfl:=hv'.int
 exact ⟨he,grown_of hg.2.os hg.2.tape hg.2.output hg.2.size fun r hr=>hg.2.frame r hr fun b blk L h=>by cases h⟩
theorem abp {q:FuncId} (hq:φ EJ=some q) (hfn: ∃fn,Pr.funcs[q]? =some fn∧fn.body.isSome=true∧(fn.name== "runtime.NumGoroutine")=false)
  (hwalk: ∀{n:Int} {gm ck:Nat} {es:Array MapEntry} {w0:World},w0.heap[gm]? =some (.map es ck)→MapKept.Stamped es ck→(∀e∈es.toList,e.val= .bool true∧ ∃x:KD,e.key=KV (jL n) x)→es.size≤1000000→
   Calls Pr q #[.map (some gm)] w0 fun e w'=> ∃(l:List KD) (g cap:Nat) (c:Array Value) (t:TypeId),e= .returned (.slice (some ⟨g,0,none⟩) l.length cap)∧l.Pairwise (fun x y=>Go.Proofs.ltOf cfD y x=false)∧(l.map (KV (jL n))).Nodup∧(∀k,k∈l.map (KV (jL n))↔ ∃e∈es.toList,e.key=k)∧
   w0.heap.size≤g∧w'.heap[g]? =some (.cells c t)∧l.length≤cap∧cap*33≤c.size∧(∀(i:Nat) (v:Value),(l.flatMap (jL n))[i]? =some v→c[i]? =some v)∧(∀r,r<w0.heap.size→w'.heap[r]? =w0.heap[r]?)∧w0.heap.size≤w'.heap.size∧w'.os=w0.os∧w'.tape=w0.tape∧w'.output=w0.output∧w0.drawn≤w'.drawn):
  ∀g args H v H',XM g args H v H'→SimCal Pr φ g args H v H':=by
 rintro g args H v H' ⟨rfl,b,gk,n,ds,rfl,h1,h2,h3,h4,h5,h6,rfl,rfl⟩
 refine ⟨Nat.le_succ _,fun hF=>hF.alloc _,fun q' hq'=>?_⟩
 rw [hq] at hq'
 cases hq'
 refine ⟨hfn,fun β us w hR hargs hfr=>?_⟩
 obtain ⟨hl,hvs⟩:=hargs
 match us,hl,hvs with
 |[va],_,hvs=>
  have hva:=hvs 0 _ va rfl rfl
  cases hva with
  |plain h=>simp [Am.plain] at h
  |map hL hlt=>
   rename_i gm base N
   obtain ⟨_,_,es,ck,hh,hE⟩:=hR.maps b _ _ hL hlt h1
   have hbn:b<H.n:=by
    rcases Nat.lt_or_ge b H.n with q|q
    ·exact q
    ·rw [hR.fin b q] at h1;cases h1
   obtain ⟨e1,e2,e3,e4⟩:=hE gk h2 (hR.mapn b _ hL hlt hbn).2
   refine (hwalk (n:=n) hh e2 (fun e he=>?_) (by omega)).mono fun e w' ⟨l,g,cap,c,t,he,k1,k2,k3,k4,k5,k6,k7,k8,k9,k10,k11,k12,k13,k14⟩=>?_
   ·obtain ⟨q1,q2⟩:=e3 e he
    obtain ⟨cs,q3,q4⟩:=h4 _ q2
    obtain ⟨x,hx⟩:=abt q4
    exact ⟨q1,x,by rw [q3,hx]⟩
   ·have hds:l.map (KV (jL n))=ds:=KZ (La k1 k2) h5 fun k=>by
     rw [k3,h6]
     constructor
     ·rintro ⟨e,he,rfl⟩;exact (e3 e he).2
     ·intro hk;exact e4 k hk
    have hll:l.length=ds.length:=by rw [←hds,List.length_map]
    have hfl:ds.flatMap cellsL=l.flatMap (jL n):=by rw [←hds,List.flatMap_map];rfl
    have hlen:=E5 (enc:=jL n) EY l
    have hcap:l.length*33≤cap*33:=Nat.mul_le_mul_right _ k6
    have hg:=Good.fresh hR (hfr H.n (Nat.le_refl _) (Nat.lt_succ_self _)) (cs:=ds.flatMap cellsL) (c:=c) (t:=t) k4 k5 k9 k11 k12 ⟨k13,k14⟩ k10 (by rw [hfl,hlen];omega) fun i v hi=>by
     rw [hfl] at hi
     refine ⟨v,k8 i v hi,?_⟩
     obtain ⟨x,_,hx⟩:=List.mem_flatMap.1 (List.mem_of_getElem? hi)
     obtain ⟨k,m,rfl⟩:=uQ x v hx
     exact .plain rfl
    refine ⟨_,_,he,?_,hg⟩
    rw [hll]
    exact .slice (base:=0) (o:=0) (N:=c.size) (by simp [Ren.put]) (by omega) (by omega)
end
end Go.Bm
