/- A map's keys that are structs of whole numbers; an entry put into a map. -/
import Derived.Test.YtbpfbfbabpkceaaGreatAmRel
import Derived.Maps.Keyed
import Derived.DeepKeys4
set_option linter.unusedVariables false
set_option linter.unusedSimpArgs false
namespace Go.Am
open Go
theorem keyG_cons {q:IntKind} {qs:List IntKind} {cs:List Value} (h:keyG (q::qs) cs=true): ∃n cs',cs= .int q n::cs'∧(Lit.int q n).wf=true∧keyG qs cs'=true:=by
 cases cs with
 |nil=>simp [keyG] at h
 |cons c cs=>
  cases c<;>simp only [keyG,Bool.and_eq_true,decide_eq_true_eq,Bool.false_eq_true] at h
  obtain ⟨⟨rfl,h1,h3⟩,h2⟩:=h
  exact ⟨_,_,rfl,by simp [Lit.wf,h1,h3],h2⟩
theorem keyG_nil {cs:List Value} (h:keyG [] cs=true):cs=[]:=by
 cases cs with
 |nil=>rfl
 |cons c cs=>simp [keyG] at h
theorem keyG_len: ∀{qs:List IntKind} {cs:List Value},keyG qs cs=true→cs.length=qs.length
 |[],cs,h=>by rw [keyG_nil h];rfl
 |q::qs,cs,h=>by
  obtain ⟨n,cs',rfl,_,h2⟩:=keyG_cons h
  simp [keyG_len h2]
theorem keyG_drop: ∀{qs:List IntKind} {cs:List Value} (n:Nat),keyG qs cs=true→keyG (qs.drop n) (cs.drop n)=true
 |qs,cs,0,h=>h
 |[],cs,n+1,h=>by rw [keyG_nil h];rfl
 |q::qs,cs,n+1,h=>by
  obtain ⟨k,cs',rfl,_,h2⟩:=keyG_cons h
  exact keyG_drop n h2
theorem keyG_take: ∀{qs:List IntKind} {cs:List Value} (n:Nat),keyG qs cs=true→keyG (qs.take n) (cs.take n)=true
 |qs,cs,0,h=>by simp [keyG]
 |[],cs,n+1,h=>by rw [keyG_nil h];rfl
 |q::qs,cs,n+1,h=>by
  obtain ⟨k,cs',rfl,h1,h2⟩:=keyG_cons h
  have h1':(decide (q.min≤k)&&decide (k≤q.max))=true:=h1
  simp only [List.take_succ_cons,keyG,h1',keyG_take n h2,decide_true,Bool.and_true]
theorem keyG_vr {φ:Fun} {β:Ren}: ∀{qs:List IntKind} {cs ds:List Value},keyG qs cs=true→VRL φ β cs ds→ds=cs
 |[],cs,ds,h,hv=>by
  obtain rfl:=keyG_nil h
  exact List.eq_nil_of_length_eq_zero hv.1.symm
 |q::qs,cs,ds,h,hv=>by
  obtain ⟨n,cs',rfl,h1,h2⟩:=keyG_cons h
  cases ds with
  |nil=>have:=hv.1;simp at this
  |cons d ds=>
   have hd:=(hv.2 0 _ d rfl rfl).int
   have:=keyG_vr h2 (ds:=ds) ⟨by have:=hv.1;simpa using this,fun i c d h1 h2=>hv.2 (i+1) c d (by simpa using h1) (by simpa using h2)⟩
   rw [hd,this]
def kindsT (Pr:Program):Nat→TypeId→List IntKind
 |0,_=>[]
 |d+1,t=>
  match Pr.underlying t with
  |some (.int q)=>[q]
  |some (.array n e)=>(List.replicate n (kindsT Pr d e)).flatten
  |some (.struct fs)=>(fs.toList.map fun f=>kindsT Pr d f.type).flatten
  | _=>[]
theorem keyLits_some {Pr:Program}: ∀(d:Nat) (t:TypeId) (qs:List IntKind) (cs ds:List Value),keyG qs cs=true→keyG qs ds=true→(Pr.keyLits d t cs).isSome=true→(Pr.keyLits d t ds).isSome=true
 |0,t,qs,cs,ds,hc,hd,h=>by simp [Program.keyLits] at h
 |d+1,t,qs,cs,ds,hc,hd,h=>by
  have ih:=keyLits_some (Pr:=Pr) d
  have hlen:ds.length=cs.length:=by rw [keyG_len hd,keyG_len hc]
  have key: ∀{A:Type} (l:List A) (F:A→List Value→Option (List Lit)) (hF: ∀a∈l,(F a cs).isSome=true→(F a ds).isSome=true),(l.mapM fun a=>F a cs).isSome=true→(l.mapM fun a=>F a ds).isSome=true:=by
   intro A l F hF hs
   obtain ⟨r,hr⟩:=Option.isSome_iff_exists.1 hs
   have: ∀(l:List A) (r:List (List Lit)),(∀a∈l,(F a cs).isSome=true→(F a ds).isSome=true)→(l.mapM fun a=>F a cs)=some r→ ∃r',(l.mapM fun a=>F a ds)=some r':=by
    intro l
    induction l with
    |nil=>intro r _ _;exact ⟨[],rfl⟩
    |cons a l ihl=>
     intro r hF hr
     rw [List.mapM_cons] at hr⊢
     cases h1:F a cs with
     |none=>rw [h1] at hr;cases hr
     |some x=>
      rw [h1] at hr
      cases h2:l.mapM fun a=>F a cs with
      |none=>rw [h2] at hr;cases hr
      |some y=>
       obtain ⟨x',hx'⟩:=Option.isSome_iff_exists.1 (hF a (by simp) (by rw [h1];rfl))
       obtain ⟨y',hy'⟩:=ihl y (fun b hb=>hF b (by simp [hb])) h2
       exact ⟨x'::y',by rw [hx',hy'];rfl⟩
   obtain ⟨r',hr'⟩:=this l r hF hr
   rw [hr'];rfl
  have part: ∀(o n:Nat) (e:TypeId),(Pr.keyLits d e ((cs.drop o).take n)).isSome=true→(Pr.keyLits d e ((ds.drop o).take n)).isSome=true:=fun o n e hs=>
   ih e ((qs.drop o).take n) _ _ (keyG_take n (keyG_drop o hc)) (keyG_take n (keyG_drop o hd)) hs
  unfold Program.keyLits at h⊢
  split at h
  ·rename_i hu
   cases qs with
   |nil=>have:=keyG_nil hc;cases this
   |cons q qs=>obtain ⟨n,cs',e,_,_⟩:=keyG_cons hc;cases e
  ·rename_i q q' n hu
   cases qs with
   |nil=>have:=keyG_nil hc;cases this
   |cons q0 qs=>
    obtain ⟨n1,cs',e,_,h2⟩:=keyG_cons hc
    cases e
    obtain rfl:=List.eq_nil_of_length_eq_zero (by rw [←keyG_len h2];rfl:qs.length=0)
    obtain ⟨n2,ds',rfl,h3,h4⟩:=keyG_cons hd
    obtain rfl:=keyG_nil h4
    split at h
    ·rename_i hq
     rw [hu]
     show (if q'=q∧(Lit.int q n2).wf=true then some [Lit.int q n2] else none).isSome=true
     rw [if_pos ⟨hq.1,by rw [←hq.1];exact h3⟩]
     rfl
    ·cases h
  ·rename_i hu
   cases qs with
   |nil=>have:=keyG_nil hc;cases this
   |cons q qs=>obtain ⟨n,cs',e,_,_⟩:=keyG_cons hc;cases e
  ·rename_i n e hu
   split at h
   ·rename_i hl
    rw [hu]
    show (if ds.length=Pr.cellsOf t then ((List.range n).mapM fun i=>Pr.keyLits d e ((ds.drop (i*Pr.cellsOf e)).take (Pr.cellsOf e))).map List.flatten else none).isSome=true
    rw [if_pos (by rw [hlen];exact hl)]
    rw [Option.isSome_map] at h⊢
    exact key _ (fun i xs=>Pr.keyLits d e ((xs.drop (i*Pr.cellsOf e)).take (Pr.cellsOf e))) (fun i _=>part _ _ _) h
   ·cases h
  ·rename_i fs hu
   split at h
   ·rename_i hl
    rw [hu]
    show (if ds.length=Pr.cellsOf t∧fs.all (·.name != "_")=true then (fs.toList.mapM fun f=>Pr.keyLits d f.type ((ds.drop f.offset).take (Pr.cellsOf f.type))).map List.flatten else none).isSome=true
    rw [if_pos (by rw [hlen];exact hl)]
    rw [Option.isSome_map] at h⊢
    exact key _ (fun (f:Field) xs=>Pr.keyLits d f.type ((xs.drop f.offset).take (Pr.cellsOf f.type))) (fun i _=>part _ _ _) h
   ·cases h
  ·cases h
def keyTy (Pr:Program) (k:TypeId) (qs:List IntKind):Bool:=
 laidOutB Pr&&decide (Pr.types.size+2≤10000)&&decide (k<Pr.types.size)&&Pr.keyType k&&(match Pr.underlying k with|some (.struct _)=>true| _=>false)&&decide (qs.length=Pr.cellsOf k)&&
  keyG qs (qs.map fun q=> .int q 0)&&(Pr.keyLits (Pr.types.size+1) k (qs.map fun q=> .int q 0)).isSome
theorem keyTy_law {Pr:Program} {k:TypeId} {qs:List IntKind} (h:keyTy Pr k qs=true):Maps.Keyed Pr k:=by
 simp only [keyTy,Bool.and_eq_true,decide_eq_true_eq] at h
 obtain ⟨⟨⟨⟨⟨⟨⟨h1,h2⟩,h3⟩,h4⟩,h5⟩,h6⟩,h7⟩,h8⟩:=h
 refine Maps.Keyed.of_law (deep_law_laid h1 (m:=Pr.types.size+1) h2 h3 h4 ?_)
 split at h5
 ·rename_i hu;rw [hu]
 ·cases h5
theorem keyTy_of {Pr:Program} {k:TypeId} {qs:List IntKind} (h:keyTy Pr k qs=true) {cs:List Value} (hg:keyG qs cs=true): ∃l,keyOf Pr k (.agg ⟨cs⟩)=some l:=by
 simp only [keyTy,Bool.and_eq_true,decide_eq_true_eq] at h
 obtain ⟨⟨⟨⟨⟨⟨⟨h1,h2⟩,h3⟩,h4⟩,h5⟩,h6⟩,h7⟩,h8⟩:=h
 split at h5
 ·rename_i fs hu
  have hs:=keyLits_some _ _ qs _ cs h7 hg h8
  obtain ⟨ls,hls⟩:=Option.isSome_iff_exists.1 hs
  refine ⟨.string (keyBytes ls),?_⟩
  have hf:(Value.agg ⟨cs⟩).formed Pr k=true:=by
   simp only [Value.formed,hu]
   simpa [←h6] using keyG_len hg
  simp [keyOf,hu,h4,hf,Value.cells,hls]
 ·cases h5
open Go.MapKept in
theorem run_put {Pr:Program} {w:World} {mty kt et:TypeId} {g ck:Nat} {es:Array MapEntry} {key val:Value} {l:Lit} (K:Maps.Keyed Pr kt) (hm:Pr.underlying mty=some (.map kt et)) (hkey:keyOf Pr kt key=some l)
  (hb:w.heap[g]? =some (.map es ck)) (hall: ∀e∈es.toList,∃l,keyOf Pr kt e.key=some l):
  ∃es' ck',(Instr.mapUpdate mty (.map (some g)) key val).run Pr w= .ok () {w with heap:=w.heap.setIfInBounds g (.map es' ck')}∧
   ((es'=es.push ⟨key,val,ck⟩∧ck'=ck+1∧ ∀e∈es.toList,e.key≠key)∨ ∃(i:Nat) (e:MapEntry),es[i]? =some e∧e.key=key∧ck'=ck∧es'=es.modify i fun e=>{e with key:=key,val:=val}):=by
 have hg:(getObj g).run Pr w= .ok (.map es ck) w:=MapKept.run_getObj_map hb
 rcases K.find w hkey es.toList hall with ⟨h1,h2⟩|⟨j,e,h1,h2,h3⟩
 ·refine ⟨_,_,?_, .inl ⟨rfl,rfl,h2⟩⟩
  simp only [Instr.mapUpdate,Sem.run_bind,run_underlying hm,Result.andThen_ok,hg,K.check w false hkey,h1]
  exact MapKept.run_setObj_map _ hb
 ·have h2':es[j]? =some e:=by rw [←Array.getElem?_toList];exact h2
  refine ⟨_,_,?_, .inr ⟨j,e,h2',h3,rfl,rfl⟩⟩
  simp only [Instr.mapUpdate,Sem.run_bind,run_underlying hm,Result.andThen_ok,hg,K.check w false hkey,h1,h2',Option.map_some,Option.getD_some,h3,K.stays w hkey]
  exact MapKept.run_setObj_map _ hb
theorem MapE.put {es:Array MapEntry} {ck:Nat} {ks:List Value} (h:MapE es ck ks) {key:Value} {es':Array MapEntry} {ck':Nat}
  (hc:(es'=es.push ⟨key, .bool true,ck⟩∧ck'=ck+1∧ ∀e∈es.toList,e.key≠key)∨ ∃(i:Nat) (e:MapEntry),es[i]? =some e∧e.key=key∧ck'=ck∧es'=es.modify i fun e=>{e with key:=key,val:= .bool true}):MapE es' ck' (ks++[key]):=by
 obtain ⟨h1,h2,h3,h4⟩:=h
 rcases hc with ⟨rfl,rfl,h5⟩|⟨i,e,h5,rfl,rfl,rfl⟩
 ·refine ⟨by simp;omega,MapKept.stamped_push h2 h5,fun x hx=>?_,fun k hk=>?_⟩
  ·rw [Array.toList_push,List.mem_append,List.mem_singleton] at hx
   rcases hx with hx|rfl
   ·obtain ⟨k1,k2⟩:=h3 x hx
    exact ⟨k1,List.mem_append_left _ k2⟩
   ·exact ⟨rfl,by simp⟩
  ·rw [List.mem_append,List.mem_singleton] at hk
   rcases hk with hk|rfl
   ·obtain ⟨x,hx,he⟩:=h4 k hk
    exact ⟨x,by rw [Array.toList_push];exact List.mem_append_left _ hx,he⟩
   ·exact ⟨_,by rw [Array.toList_push];exact List.mem_append_right _ (List.mem_singleton.2 rfl),rfl⟩
 ·have hf: ∀x:MapEntry,es[i]? =some x→({x with key:=e.key,val:= .bool true}:MapEntry).key=x.key:=fun x hx=>by
   rw [h5] at hx;cases hx;rfl
  have hkeys:=MapKept.modify_keys (es:=es) i (fun x=>{x with key:=e.key,val:= .bool true}) hf
  have hmem: ∀x∈(es.modify i fun x=>{x with key:=e.key,val:= .bool true}).toList,x.key∈es.toList.map (·.key):=fun x hx=>by
   rw [←hkeys];exact List.mem_map_of_mem hx
  refine ⟨by simp;omega,MapKept.stamped_modify h2 i _ (fun x _=>rfl) (fun x _ hx=>hf x hx),fun x hx=>?_,fun k hk=>?_⟩
  ·refine ⟨?_,?_⟩
   ·obtain ⟨j,hj,rfl⟩:=List.mem_iff_getElem.1 hx
    rw [Array.getElem_toList,Array.getElem_modify]
    split
    ·rfl
    ·exact (h3 _ (Array.getElem_mem_toList _)).1
   ·obtain ⟨y,hy,he⟩:=List.mem_map.1 (hmem x hx)
    rw [←he]
    exact List.mem_append_left _ (h3 y hy).2
  ·have hk':k∈es.toList.map (·.key):=by
    rw [List.mem_append,List.mem_singleton] at hk
    rcases hk with hk|rfl
    ·obtain ⟨x,hx,rfl⟩:=h4 k hk
     exact List.mem_map_of_mem hx
    ·exact List.mem_map.2 ⟨e,by rw [←Array.getElem?_toList] at h5;exact List.mem_of_getElem? h5,rfl⟩
   rw [←hkeys] at hk'
   obtain ⟨x,hx,rfl⟩:=List.mem_map.1 hk'
   exact ⟨x,hx,rfl⟩
theorem keyI_inj: ∀{qs:List IntKind} {x y:Value},keyV qs x=true→keyV qs y=true→keyI x=keyI y→x=y:=by
 have key: ∀(qs:List IntKind) (cs ds:List Value),keyG qs cs=true→keyG qs ds=true→cs.map numV=ds.map numV→cs=ds:=by
  intro qs
  induction qs with
  |nil=>intro cs ds h1 h2 _;rw [keyG_nil h1,keyG_nil h2]
  |cons q qs ih=>
   intro cs ds h1 h2 h
   obtain ⟨n,cs',rfl,_,h3⟩:=keyG_cons h1
   obtain ⟨m,ds',rfl,_,h4⟩:=keyG_cons h2
   simp only [List.map_cons,List.cons.injEq,numV] at h
   rw [h.1,ih _ _ h3 h4 h.2]
 intro qs x y hx hy h
 cases x<;>simp only [keyV,Bool.false_eq_true] at hx
 cases y<;>simp only [keyV,Bool.false_eq_true] at hy
 rename_i cs ds
 obtain ⟨cs⟩:=cs
 obtain ⟨ds⟩:=ds
 rw [key qs cs ds hx hy h]
theorem nodup_le {α:Type}: ∀{l k:List α},l.Nodup→(∀x∈l,x∈k)→l.length≤k.length
 |[],k,_,_=>by simp
 |a::l,k,h,hs=>by
  obtain ⟨h1,h2⟩:=List.nodup_cons.1 h
  obtain ⟨k1,k2,rfl⟩:=List.append_of_mem (hs a (by simp))
  have:=nodup_le (k:=k1++k2) h2 fun x hx=>by
   have h3:=hs x (by simp [hx])
   simp only [List.mem_append,List.mem_cons] at h3⊢
   rcases h3 with h3|rfl|h3
   ·exact .inl h3
   ·exact absurd hx h1
   ·exact .inr h3
  simp only [List.length_append,List.length_cons] at this⊢
  omega
theorem cntI_is: ∀(l:List (List Int)),∃k:List (List Int),k.Nodup∧(∀x,x∈k↔x∈l)∧k.length=cntI l
 |[]=>⟨[],List.nodup_nil,fun _=>Iff.rfl,rfl⟩
 |a::l=>by
  obtain ⟨k,h1,h2,h3⟩:=cntI_is l
  unfold cntI
  by_cases e:a∈l
  ·rw [if_pos e]
   refine ⟨k,h1,fun x=>?_,h3⟩
   rw [h2,List.mem_cons]
   constructor
   ·exact .inr
   ·rintro (rfl|h)
    ·exact e
    ·exact h
  ·rw [if_neg e]
   exact ⟨a::k,List.nodup_cons.2 ⟨fun h=>e ((h2 a).1 h),h1⟩,fun x=>by rw [List.mem_cons,List.mem_cons,h2],by simp [h3]⟩
theorem cntI_of {l k:List (List Int)} (h:k.Nodup) (hm: ∀x,x∈k↔x∈l):cntI l=k.length:=by
 obtain ⟨k',h1,h2,h3⟩:=cntI_is l
 have a:=nodup_le h1 fun x hx=>(hm x).2 ((h2 x).1 hx)
 have b:=nodup_le h fun x hx=>(h2 x).2 ((hm x).1 hx)
 omega
theorem nodup_map {α γ:Type} {f:α→γ}: ∀{l:List α},l.Nodup→(∀a∈l,∀b∈l,f a=f b→a=b)→(l.map f).Nodup
 |[],_,_=>by simp
 |a::l,h,hf=>by
  obtain ⟨h1,h2⟩:=List.nodup_cons.1 h
  rw [List.map_cons,List.nodup_cons]
  refine ⟨fun hm=>?_,nodup_map h2 fun x hx y hy=>hf x (by simp [hx]) y (by simp [hy])⟩
  obtain ⟨b,hb,he⟩:=List.mem_map.1 hm
  exact h1 (hf b (by simp [hb]) a (by simp) he▸hb)
theorem MapE.count {es:Array MapEntry} {ck:Nat} {ks:List Value} {qs:List IntKind} (h:MapE es ck ks) (hq:ks.all (keyV qs)=true):cntI (ks.map keyI)=es.size:=by
 obtain ⟨_,h2,h3,h4⟩:=h
 have hk: ∀e∈es.toList,keyV qs e.key=true:=fun e he=>List.all_eq_true.1 hq _ (h3 e he).2
 rw [cntI_of (k:=(es.toList.map (·.key)).map keyI) (nodup_map h2.2.2 fun a ha b hb=>by
  obtain ⟨x,hx,rfl⟩:=List.mem_map.1 ha
  obtain ⟨y,hy,rfl⟩:=List.mem_map.1 hb
  exact keyI_inj (hk x hx) (hk y hy)) fun x=>?_]
 ·simp
 ·rw [List.mem_map,List.mem_map]
  constructor
  ·rintro ⟨k,hk',rfl⟩
   obtain ⟨e,he,rfl⟩:=List.mem_map.1 hk'
   exact ⟨_,(h3 e he).2,rfl⟩
  ·rintro ⟨k,hk',rfl⟩
   obtain ⟨e,he,rfl⟩:=h4 k hk'
   exact ⟨_,List.mem_map_of_mem he,rfl⟩
theorem Good.mapPut {φ:Fun} {β:Ren} {H:AHeap} {w:World} (h:Rel φ β H w) {b:Nat} {L:Loc} {gk:Blk} (hb:H.get b=some ⟨[],true⟩) (hL:β b=some L) (hlt:L.size<L.base) (hgk:H.get (b+1)=some gk) {cs':List Value}
  {es es':Array MapEntry} {ck ck':Nat} (hh:w.heap[L.g]? =some (.map es ck)) (hm:MapE es' ck' cs'):Good φ β H w β (H.set (b+1) cs') {w with heap:=w.heap.setIfInBounds L.g (.map es' ck')}:=by
 obtain ⟨hs1,hs2⟩:=MapKept.heap_set (o':=Obj.map es' ck') hh
 have hlt2:b<H.n:=by
  rcases Nat.lt_or_ge b H.n with q|q
  ·exact q
  ·rw [h.fin b q] at hb;cases hb
 obtain ⟨hn1,hn2⟩:=h.mapn b L hL hlt hlt2
 have key: ∀x y L',β x=some L'→(H.set (b+1) cs').get x=some y→H.get x=some y:=fun x y L' hx hy=>by
  simp only [AHeap.set] at hy
  rwa [if_neg] at hy
  intro e
  rw [e,hn2] at hx
  cases hx
 refine ⟨⟨fun x y L' hy hx hle=>?_,fun x x' y y' L1 L2 hy hr hy' hx hx' he=>h.inj x x' y y' L1 L2 (key _ _ _ hx hy) hr (key _ _ _ hx' hy') hx hx' he,fun x hx=>?_,fun x L' y hx hl hy=>?_,h.mapn⟩,
  ⟨rfl,rfl,⟨rfl,Nat.le_refl _⟩,by simp,fun r hr hn=>?_,fun x y L' hy hr hx=> .inr ⟨x,y,L',key _ _ _ hx hy,hr,hx,rfl⟩,fun _ _ h=>h,fun _ _ h=> .inl h,Nat.le_refl _,fun _ _ h h0=>by rw [h0] at h;cases h⟩⟩
 ·obtain ⟨c,t,fr,k1,k2⟩:=h.cells x y L' (key _ _ _ hx hy) hx hle
  refine ⟨c,t,fr,?_,k2⟩
  show (w.heap.setIfInBounds L.g (.map es' ck'))[L'.g]? =_
  rw [hs2 _ (fun e=>by rw [e,hh] at k1;cases k1)]
  exact k1
 ·have hx':H.n≤x:=hx
  simp only [AHeap.set]
  rw [if_neg (by omega)]
  exact h.fin x hx'
 ·have hy':=key _ _ _ hx hy
  obtain ⟨k1,k2,e1,c1,k3,k4⟩:=h.maps x L' y hx hl hy'
  by_cases e:x=b
  ·subst e
   rw [hL] at hx
   cases hx
   refine ⟨k1,k2,es',ck',hs1,fun gh hg _=>?_⟩
   simp only [AHeap.set,if_true,Option.some.injEq] at hg
   subst hg
   exact hm
  ·refine ⟨k1,k2,e1,c1,?_,fun gh hg h0=>?_⟩
   ·show (w.heap.setIfInBounds L.g (.map es' ck'))[L'.g]? =_
    rw [hs2 _ (fun e'=>e (h.inj b x _ y L L' hb rfl hy' hL hx e'.symm).symm)]
    exact k3
   ·simp only [AHeap.set] at hg
    rw [if_neg (by omega)] at hg
    exact k4 gh hg h0
 ·exact hs2 r (fun e=>hn b _ L hb rfl hL e.symm)
end Go.Am
