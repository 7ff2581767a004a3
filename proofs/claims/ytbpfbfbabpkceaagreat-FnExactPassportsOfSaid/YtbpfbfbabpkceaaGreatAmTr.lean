/- From the model's operations to the small machine's, by a program; each operation comes to the same. -/
import Derived.Test.YtbpfbfbabpkceaaGreatAmMap
import Derived.Laws.Slices
import Derived.Laws.BytesArg
set_option linter.unusedVariables false
set_option linter.unusedSimpArgs false
namespace Go.Am
open Go
def optL {α γ:Type} (f:α→Option γ):List α→Option (List γ)
 |[]=>some []
 |a::as=>match f a,optL f as with|some b,some bs=>some (b::bs)| _,_=>none
theorem optL_len {α γ:Type} {f:α→Option γ}: ∀{as:List α} {bs:List γ},optL f as=some bs→bs.length=as.length
 |[],_,h=>by simp [optL] at h;subst h;rfl
 |a::as,bs,h=>by
  simp only [optL] at h
  split at h
  ·rename_i b bs' h1 h2
   cases h
   simp [optL_len h2]
  ·cases h
theorem optL_at {α γ:Type} {f:α→Option γ}: ∀{as:List α} {bs:List γ},optL f as=some bs→ ∀{i:Nat} {a:α},as[i]? =some a→ ∃b,bs[i]? =some b∧f a=some b
 |[],_,_,i,a,ha=>by simp at ha
 |a::as,bs,h,i,x,ha=>by
  simp only [optL] at h
  split at h
  ·rename_i b bs' h1 h2
   cases h
   cases i with
   |zero=>simp at ha;subst ha;exact ⟨b,by simp,h1⟩
   |succ i=>simp at ha;obtain ⟨y,hy,hf⟩:=optL_at h2 ha;exact ⟨y,by simpa using hy,hf⟩
  ·cases h
section
variable (Pr:Program) (μ φ:Fun)
def trOpd:Operand→Option Opd
 | .tmp t=>some (.t t)
 | .const v=>if plain v then some (.c v) else none
 | .func f=>match μ f with|some g=>if φ g=some f then some (.f g) else none|none=>none
 | .global _=>none
def szT (t:TypeId):Option Nat:=(Pr.info? t).map (·.size)
def isAggD:TypeDesc→Bool
 | .struct _| .array _ _=>true
 | _=>false
def numT (t:TypeId):Option (Option Nat):=
 match Pr.underlying t with
 |some d=>if isAggD d then (szT Pr t).map some else some none
 |none=>none
def zeroT (t:TypeId):Option (List Value):=
 match Pr.info? t with
 |some i=>match i.zero with|some z=>if z.cells.toList.all plain then some z.cells.toList else none|none=>none
 |none=>none
def isIntD:TypeDesc→Bool
 | .int _=>true
 | _=>false
def trOpt (x:Option Operand):Option (Option Opd):=
 match x with
 |none=>some none
 |some x=>(trOpd μ φ x).map some
def placesT (t:TypeId):Option (Nat→Option (Nat×Nat)):=
 match Pr.underlying t with
 |some (.array _ e)=>match szT Pr e with|some s=>some fun i=>some (i*s,s)|none=>none
 |some (.struct fs)=>match fs.toList.mapM (fun f=>(Pr.info? f.type).map fun i=>(f.offset,i.size)) with|some ps=>some (ps.toArray[·]?)|none=>none
 | _=>none
def tileT:List Field→Nat→Option Nat
 |[],o=>some o
 |f::fs,o=>if f.offset=o then (match szT Pr f.type with|some s=>tileT fs (o+s)|none=>none) else none
def eqTy:Nat→TypeId→Bool
 |0,_=>false
 |m+1,t=>
  match Pr.underlying t with
  |some (.int _)=>szT Pr t==some 1
  |some (.array n e)=>eqTy m e&&(match szT Pr e,szT Pr t with|some s,some z=>z==n*s| _,_=>false)
  |some (.struct fs)=> !Pr.stoodInHeld t&&(fs.toList.all fun f=>f.name != "_" &&eqTy m f.type)&&(match tileT Pr fs.toList 0,szT Pr t with|some z,some y=>y==z| _,_=>false)
  | _=>false
def trPart (place:Nat→Option (Nat×Nat)) (p:Nat×Operand):Option (Nat×Nat×Opd):=
 match place p.1,trOpd μ φ p.2 with
 |some (o,n),some x=>some (o,n,x)
 | _,_=>none
def trCall (c:Call) (type:TypeId):Option AOp:=
 match c.callee with
 | .builtin .len=>
  match c.args.toList,c.argTypes[0]? with
  |[x],some t=>
   match Pr.underlying t,trOpd μ φ x with
   |some (.slice _),some x=>some (.len x)
   |some .string,some x=>some (.lenStr x)
   |some (.array n _),some x=>some (.lenConst n)
   |some (.map kt _),some x=>some (.lenMap (kindsT Pr 4 kt) x)
   | _,_=>none
  | _,_=>none
 | .builtin .append=>
  match c.args.toList,c.argTypes.toList with
  |[s,x],[t,u]=>
   match Pr.underlying t,trOpd μ φ s,trOpd μ φ x with
   |some (.slice e),some s,some x=>
    match Pr.info? e,zeroT Pr e with
    |some i,some z=>if t=u∧0<i.bytes∧z.length=i.size then some (.append i.size i.bytes s x) else none
    | _,_=>none
   | _,_,_=>none
  | _,_=>none
 | .builtin .max=>(match c.args.toList with|[x,y]=>(match trOpd μ φ x,trOpd μ φ y with|some x,some y=>some (.max [x,y])| _,_=>none)| _=>none)
 | .builtin .min=>(match c.args.toList with|[x,y]=>(match trOpd μ φ x,trOpd μ φ y with|some x,some y=>some (.min [x,y])| _,_=>none)| _=>none)
 | .builtin .clear=>
  match c.args.toList,c.argTypes.toList with
  |[x],[t]=>
   match Pr.underlying t,trOpd μ φ x with
   |some (.slice e),some x=>(match zeroT Pr e with|some [z]=>some (.kR z x)| _=>some (.max []))
   | _,_=>some (.max [])
  | _,_=>some (.max [])
 | .value (.func f)=>
  match μ f,optL (trOpd μ φ) c.args.toList,Pr.funcs[f]? with
  |some g,some xs,some fn=>if φ g=some f∧fn.body.isSome=true∧(fn.name== "runtime.NumGoroutine")=false then some (.call g xs) else none
  | _,_,_=>none
 | .value f=>match trOpd μ φ f,optL (trOpd μ φ) c.args.toList with|some f,some xs=>some (.callv f xs)| _,_=>none
 | _=>none
def trOp (o:Oper):Option AOp:=
 match o.op with
 | .move x| .assign x=>(trOpd μ φ x).map .move
 | .pick c a b=>match trOpd μ φ c,trOpd μ φ a,trOpd μ φ b with|some c,some a,some b=>some (.pick c a b)| _,_,_=>none
 | .alloc e=>(zeroT Pr e).map .alloc
 | .box _ x=>(trOpd μ φ x).map .box
 | .build t parts=>
  match placesT Pr t,zeroT Pr t with
  |some pl,some z=>match optL (trPart μ φ pl) parts.toList with|some ps=>some (.build z ps)|none=>none
  | _,_=>none
 | .buildSlice t n parts=>
  match Pr.underlying t with
  |some (.slice e)=>
   match szT Pr e,zeroT Pr e with
   |some s,some z=>match optL (trPart μ φ fun i=>some (i*s,s)) parts.toList with|some ps=>if z.length=s then some (.buildSlice s n z ps) else none|none=>none
   | _,_=>none
  | _=>none
 | .load t a=>match numT Pr t,trOpd μ φ a with|some n,some a=>some (.load n a)| _,_=>none
 | .store t a v=>match szT Pr t,trOpd μ φ a,trOpd μ φ v with|some n,some a,some v=>some (.store n a v)| _,_,_=>none
 | .binOp op t x y _=>
  match Pr.underlying t,trOpd μ φ x,trOpd μ φ y with
  |some (.int _),some x,some y=>some (.bin op x y)
  |some .string,some x,some y=>some (.sbin op x y)
  |some .bool,some x,some y=>(match op with| .eql=>some (.eqb false x y)| .neq=>some (.eqb true x y)| _=>none)
  |some (.slice _),some x,some (.c (.slice none 0 0))=>(match op with| .eql=>some (.eqn false x)| .neq=>some (.eqn true x)| _=>none)
  |some d,some x,some y=>
   if isAggD d=true∧eqTy Pr 8 t=true∧Pr.eqGuardType Pr.depth t=false then
    (match op,szT Pr t with| .eql,some n=>some (.eqa false n x y)| .neq,some n=>some (.eqa true n x y)| _,_=>none)
   else none
  | _,_,_=>none
 | .unOp op _ x=>
  match op,trOpd μ φ x with
  | .not,some x=>some (.not x)
  | .neg,some x=>some (.neg x)
  | _,_=>none
 | .convert src dst x=>
  match Pr.underlying src,Pr.underlying dst,trOpd μ φ x with
  |some (.int _),some (.int k),some x=>some (.conv k x)
  |some (.slice e),some .string,some x=>(match Pr.underlying e with|some (.int .u8)=>some (.strOf x)| _=>none)
  | _,_,_=>none
 | .makeMap _ none=>some .makeMap
 | .mapUpdate t m k x=>
  match Pr.underlying t,trOpd μ φ m,trOpd μ φ k,x with
  |some (.map kt _),some m,some k, .const (.bool true)=>if keyTy Pr kt (kindsT Pr 4 kt)=true then some (.mapPut (kindsT Pr 4 kt) m k) else none
  | _,_,_,_=>none
 | .makeSlice t l c=>
  match Pr.underlying t,trOpd μ φ l,trOpd μ φ c with
  |some (.slice e),some l,some c=>
   match Pr.info? e,zeroT Pr e with
   |some i,some z=>if z.length=i.size then some (.makeSlice i.size i.bytes z l c) else none
   | _,_=>none
  | _,_,_=>none
 | .slice t x lo hi none=>
  match Pr.underlying t,trOpd μ φ x,trOpt μ φ lo,trOpt μ φ hi with
  |some (.slice e),some x,some lo,some hi=>(match szT Pr e with|some s=>some (.slice s x lo hi)|none=>none)
  |some .string,some x,some lo,some hi=>some (.sliceStr x lo hi)
  |some (.array n e),some x,some lo,some hi=>(match szT Pr e with|some s=>some (.sliceArr n s x lo hi)|none=>none)
  | _,_,_,_=>none
 | .fieldAddr s x f=>
  match Pr.underlying s,trOpd μ φ x with
  |some (.struct fs),some x=>
   (match fs[f]? with
   |some fd=>(match szT Pr fd.type with|some n=>if n=0 then none else some (.fieldAddr fd.offset x)|none=>none)
   |none=>none)
  | _,_=>none
 | .field s x f=>
  match Pr.underlying s,trOpd μ φ x with
  |some (.struct fs),some x=>
   (match fs[f]? with
   |some fd=>(match numT Pr fd.type with|some n=>some (.field n fd.offset x)|none=>none)
   |none=>none)
  | _,_=>none
 | .indexAddr t x i=>
  match Pr.underlying t,trOpd μ φ x,trOpd μ φ i with
  |some (.slice e),some x,some i=>(match szT Pr e with|some s=>some (.indexAddr none s x i)|none=>none)
  |some (.array n e),some x,some i=>(match szT Pr e with|some s=>some (.indexAddr (some n) s x i)|none=>none)
  | _,_,_=>none
 | .index t x i=>
  match Pr.underlying t,trOpd μ φ x,trOpd μ φ i with
  |some (.array n e),some x,some i=>(match szT Pr e,numT Pr e with|some s,some m=>some (.index n s m x i)| _,_=>none)
  |some .string,some x,some i=>some (.indexStr x i)
  | _,_,_=>none
 | .extract x j=>(trOpd μ φ x).map fun x=> .extract x j
 | .nilCheck x=>(trOpd μ φ x).map .nilCheck
 | .makeFunc (.func f) first caps=>
  match μ f,first.toList,optL (trOpd μ φ) caps.toList with
  |some g,[],some cs=>if φ g=some f then some (.makeFunc g cs) else none
  | _,_,_=>none
 | .call c=>trCall Pr μ φ c o.type
 | _=>none
end
def OpOK (φ:Fun) (β:Ren) (H:AHeap) (w:World) (r:Result Next) (v:Value) (H':AHeap):Prop:=
 ∃n v' w' β',r= .ok n w'∧((n= .value v')∨(n= .skip∧v'=undef))∧VR φ β' v v'∧Good φ β H w β' H' w'
section
variable {Pr:Program} {μ φ:Fun} {β:Ren} {H H':AHeap} {w:World} {ρ:Operand→Value} {ρa:Opd→Value} {v:Value}
theorem OpOK.same {r:Result Next} (hR:Rel φ β H w) {v':Value} (hr:r= .ok (.value v') w) (hv:VR φ β v v'):OpOK φ β H w r v H:=⟨_,v',w,β,hr, .inl rfl,hv, .refl hR⟩
theorem trOpd_vr (hρ: ∀t,VR φ β (ρa (.t t)) (ρ (.tmp t))) (hc: ∀v,ρ (.const v)=v) (hca: ∀v,ρa (.c v)=v) (hf: ∀f,ρ (.func f)= .func (.func f) #[] #[]) (hfa: ∀f,ρa (.f f)= .func (.func f) #[] #[]) {x:Operand} {ax:Opd} (h:trOpd μ φ x=some ax):VR φ β (ρa ax) (ρ x):=by
 cases x with
 |tmp t=>simp only [trOpd,Option.some.injEq] at h;subst h;exact hρ t
 |const c=>
  simp only [trOpd] at h
  split at h
  ·rename_i hp
   cases h
   rw [hc,hca]
   exact .plain hp
  ·cases h
 |global g=>simp [trOpd] at h
 |func f=>
  simp only [trOpd] at h
  split at h
  ·rename_i g hg
   split at h
   ·rename_i hφ
    cases h
    rw [hf,hfa]
    exact .func hφ rfl (fun i c d h=>by simp at h)
   ·cases h
  ·cases h
theorem isAgg_run {t:TypeId} {d:TypeDesc} (h:Pr.underlying t=some d) (w:World):(isAgg t).run Pr w= .ok (isAggD d) w:=by
 unfold isAgg
 rw [Sem.run_bind,run_underlying h w]
 cases d<;>rfl
theorem sizeOf_run {t:TypeId} {n:Nat} (h:szT Pr t=some n) (w:World):(sizeOf t).run Pr w= .ok n w:=by
 unfold szT at h
 cases hi:Pr.info? t with
 |none=>simp [hi] at h
 |some i=>
  simp [hi] at h
  simp [sizeOf,typeInfo,hi,h]
theorem numT_some {t:TypeId} {n:Option Nat} (h:numT Pr t=some n): ∃d,Pr.underlying t=some d∧((n=none∧isAggD d=false)∨ ∃m,n=some m∧isAggD d=true∧szT Pr t=some m):=by
 unfold numT at h
 split at h
 ·rename_i d hd
  refine ⟨d,hd,?_⟩
  split at h
  ·rename_i ha
   cases hs:szT Pr t with
   |none=>simp [hs] at h
   |some m=>simp [hs] at h;subst h;exact .inr ⟨m,rfl,ha,rfl⟩
  ·rename_i ha
   cases h
   exact .inl ⟨rfl,by simpa using ha⟩
 ·cases h
theorem getN_load (hR:Rel φ β H w) {b o:Nat} {blk:Blk} {L:Loc} (hb:H.get b=some blk) (hL:β b=some L) {t:TypeId} {n:Option Nat} (hn:numT Pr t=some n) (hv:getN n blk.cells o=some v):
  ∃v',(loadVar t ⟨L.g,L.base+o,none⟩).run Pr w= .ok v' w∧VR φ β v v':=by
 obtain ⟨d,hd,⟨rfl,ha⟩|⟨m,rfl,ha,hs⟩⟩:=numT_some hn
 ·obtain ⟨u,hu,hr⟩:=hR.cell_at hb hL (i:=o) hv
  refine ⟨u,?_,hr⟩
  simp [loadVar,isAgg_run hd,ha,hu]
 ·simp only [getN] at hv
  split at hv
  ·rename_i ho
   cases hv
   obtain ⟨ds,h1,h2,h3⟩:=hR.cells_at hb hL ho
   refine ⟨.agg ⟨ds⟩,?_, .agg h1.1 h1.2⟩
   have:=run_loadCells_list (P:=Pr) w ⟨L.g,L.base+o,none⟩ ds h3
   rw [h2] at this
   simp [loadVar,isAgg_run hd,ha,sizeOf_run hs,this]
  ·cases hv
theorem getN_part {t:TypeId} {n:Option Nat} (hn:numT Pr t=some n) {cs ds:Array Value} (hr:VRL φ β cs.toList ds.toList) {o:Nat} (hv:getN n cs.toList o=some v):
  ∃v',(part t ds o).run Pr w= .ok v' w∧VR φ β v v':=by
 obtain ⟨d,hd,⟨rfl,ha⟩|⟨m,rfl,ha,hs⟩⟩:=numT_some hn
 ·obtain ⟨u,hu,h⟩:=hr.at_ (i:=o) hv
  refine ⟨u,?_,h⟩
  have:ds[o]? =some u:=by simpa using hu
  simp [part,isAgg_run hd,ha,this]
 ·simp only [getN] at hv
  split at hv
  ·rename_i ho
   cases hv
   refine ⟨.agg (ds.extract o (o+m)),by simp [part,isAgg_run hd,ha,sizeOf_run hs],?_⟩
   have h1:=(hr.drop o).take m
   have e:ds.extract o (o+m)=⟨(ds.toList.drop o).take m⟩:=by
    apply Array.ext'
    simp [Array.toList_extract]
   rw [e]
   exact .agg h1.1 h1.2
  ·cases hv
theorem zeroT_some {t:TypeId} {z:List Value} (h:zeroT Pr t=some z): ∃i zv,Pr.info? t=some i∧i.zero=some zv∧zv.cells.toList=z∧ ∀c∈z,plain c=true:=by
 unfold zeroT at h
 split at h
 ·rename_i i hi
  split at h
  ·rename_i zv hz
   split at h
   ·rename_i hp
    cases h
    exact ⟨i,zv,hi,hz,rfl,fun c hc=>List.all_eq_true.1 hp c hc⟩
   ·cases h
  ·cases h
 ·cases h
theorem VRL.gets {cs:List Value} {c:Array Value} (h:VRL φ β cs c.toList):cs.length≤c.size∧ ∀(i:Nat) (v:Value),cs[i]? =some v→ ∃u,c[i]? =some u∧VR φ β v u:=
 ⟨by have:=h.1;simp at this;omega,fun i v hv=>by obtain ⟨u,hu,hr⟩:=h.at_ hv;exact ⟨u,by simpa using hu,hr⟩⟩
theorem OpOK.new (hR:Rel φ β H w) (hf:β H.n=none) {cs:List Value} {c:Array Value} {t:TypeId} (hv:VRL φ β cs c.toList) {r:Result Next} (hr:r= .ok (.value (.pointer (some ⟨w.heap.size,0,none⟩))) (w.alloc (.cells c t))):
  OpOK φ β H w r (P H.n 0) (H.alloc cs):=by
 obtain ⟨h1,h2⟩:=hv.gets
 exact ⟨_,_,_,_,hr, .inl rfl, .ptr (base:=0) (o:=0) (N:=c.size) (by simp [Ren.put]) (Nat.zero_le _),Good.alloc hR hf c t h1 h2⟩
theorem OpOK.newS (hR:Rel φ β H w) (hf:β H.n=none) {cs:List Value} {c:Array Value} {t:TypeId} (hl:cs.length≤c.size) (hv: ∀(i:Nat) (v:Value),cs[i]? =some v→ ∃u,c[i]? =some u∧VR φ β v u) {l cap e:Nat} (hc:l≤cap) (hs:cap*e≤c.size)
  {r:Result Next} (hr:r= .ok (.value (.slice (some ⟨w.heap.size,0,none⟩) l cap)) (w.alloc (.cells c t))):OpOK φ β H w r (S H.n 0 l e) (H.alloc cs):=
 ⟨_,_,_,_,hr, .inl rfl, .slice (base:=0) (o:=0) (N:=c.size) (by simp [Ren.put]) hc (by omega),Good.alloc hR hf c t hl hv⟩
theorem repl_get {z:List Value} {n i:Nat} (hz:z≠[]) (hi:i<n*z.length):(repl z n)[i]? =some (z[i%z.length]'(Nat.mod_lt _ (by cases z<;>simp_all))):=by
 unfold repl
 induction n generalizing i with
 |zero=>simp at hi
 |succ n ih=>
  rw [List.replicate_succ,List.flatten_cons]
  rcases Nat.lt_or_ge i z.length with h|h
  ·rw [List.getElem?_append_left h,List.getElem?_eq_getElem h]
   simp [Nat.mod_eq_of_lt h]
  ·rw [List.getElem?_append_right h,ih (by rw [Nat.add_mul] at hi;omega)]
   simp only [Option.some.injEq]
   congr 1
   rw [←Nat.mod_eq_sub_mod h]
theorem repl_len (z:List Value) (n:Nat):(repl z n).length=n*z.length:=by
 induction n with
 |zero=>simp [repl]
 |succ n ih=>
  unfold repl at*
  rw [List.replicate_succ,List.flatten_cons,List.length_append,ih,Nat.add_mul]
  omega
theorem repl_made (z:Array Value) (n:Nat):madeCells z (n*z.size)=⟨repl z.toList n⟩:=by
 apply Array.ext'
 apply List.ext_getElem?
 intro i
 by_cases hz:z.toList=[]
 ·have:z= #[]:=by simpa using hz
  subst this
  have:repl ([]:List Value) n=[]:=by have:=repl_len [] n;simpa using this
  simp [this,madeCells]
 ·rcases Nat.lt_or_ge i (n*z.size) with hi|hi
  ·rw [repl_get hz (by simpa using hi)]
   have hm:i%z.size<z.size:=Nat.mod_lt _ (by cases z with|mk l=>cases l<;>simp_all)
   simp [madeCells,hi,hm]
  ·have hl:=repl_len z.toList n
   rw [List.getElem?_eq_none (by simp [madeCells];omega),List.getElem?_eq_none (by rw [hl];simpa using hi)]
theorem foldl_splice: ∀(vs:List Value) (k off:Nat) (cells:Array Value),off+k+vs.length≤cells.size→
  ((vs.zipIdx k).foldl (fun (cs:Array Value) (p:Value×Nat)=>cs.setIfInBounds (off+p.2) p.1) cells).toList=splice cells.toList (off+k) vs
 |[],k,off,cells,_=>by simp [splice]
 |v::vs,k,off,cells,h=>by
  simp only [List.zipIdx_cons,List.foldl_cons]
  simp only [List.length_cons] at h
  rw [foldl_splice vs (k+1) off _ (by simp;omega)]
  unfold splice
  apply List.ext_getElem?
  intro i
  simp only [Array.toList_setIfInBounds,List.getElem?_append,List.length_append,List.length_take,List.length_set,Array.length_toList,List.getElem?_take,List.getElem?_drop,List.getElem?_set,List.length_cons,List.getElem?_cons]
  by_cases h1:i<off+k
  ·simp [h1,show i<off+(k+1) by omega,show i<min (off+(k+1)) cells.size by omega,show i<min (off+k) cells.size by omega,show off+k≠i by omega,show i<min (off+(k+1)) cells.size+vs.length by omega,show i<min (off+k) cells.size+(vs.length+1) by omega]
  ·by_cases h2:i=off+k
   ·subst h2
    simp [show off+k<min (off+(k+1)) cells.size by omega,show¬off+k<min (off+k) cells.size by omega,show off+k-min (off+k) cells.size=0 by omega,show off+k<off+(k+1) by omega,show off+k<cells.size by omega,show off+k<min (off+(k+1)) cells.size+vs.length by omega,show off+k<min (off+k) cells.size+(vs.length+1) by omega]
   ·have e1:min (off+(k+1)) cells.size=off+(k+1):=by omega
    have e2:min (off+k) cells.size=off+k:=by omega
    rw [e1,e2]
    by_cases h3:i<off+k+(vs.length+1)
    ·simp [show i<off+(k+1)+vs.length by omega,h3,show¬i<off+(k+1) by omega,h1,show i-(off+k)≠0 by omega,show i-(off+(k+1))=i-(off+k)-1 by omega]
    ·simp [show¬i<off+(k+1)+vs.length by omega,h3,show i-(off+(k+1)+vs.length)=i-(off+k+(vs.length+1)) by omega,show off+k+1+vs.length+(i-(off+k+(vs.length+1)))=off+k+(vs.length+1)+(i-(off+k+(vs.length+1))) by omega,show off+(k+1)+vs.length+(i-(off+k+(vs.length+1)))=off+k+(vs.length+1)+(i-(off+k+(vs.length+1))) by omega,show off+k≠off+k+(vs.length+1)+(i-(off+k+(vs.length+1))) by omega]
theorem VRL.splice {cs ds s u:List Value} (h:VRL φ β cs ds) (hs:VRL φ β s u) (o:Nat):VRL φ β (splice cs o s) (splice ds o u):=by
 unfold Am.splice
 rw [hs.1]
 exact ((h.take o).append hs).append (h.drop _)
theorem splice_len {cs s:List Value} {o:Nat} (h:o+s.length≤cs.length):(splice cs o s).length=cs.length:=by
 unfold splice
 simp only [List.length_append,List.length_take,List.length_drop]
 omega
theorem fill_ok {os:Array Operand} (hρ: ∀x ax,x∈os→trOpd μ φ x=some ax→VR φ β (ρa ax) (ρ x)) (place:Nat→Option (Nat×Nat)): ∀(parts:List (Nat×Operand)) (ps:List (Nat×Nat×Opd)) (cs:List Value) (ds:Array Value) (out:List Value),
  (∀p∈parts,p.2∈os)→optL (trPart μ φ place) parts=some ps→VRL φ β cs ds.toList→fillL cs (ps.map fun p=>(p.1,p.2.1,ρa p.2.2))=some out→
  ∃c:Array Value,Instr.fill place ds (parts.map fun p=>(p.1,ρ p.2))=some c∧VRL φ β out c.toList
 |[],ps,cs,ds,out,hm,h,hr,hf=>by
  simp [optL] at h
  subst h
  simp [fillL] at hf
  subst hf
  exact ⟨ds,rfl,hr⟩
 |p::parts,ps,cs,ds,out,hm,h,hr,hf=>by
  simp only [optL] at h
  split at h
  ·rename_i q qs h1 h2
   cases h
   simp only [trPart] at h1
   split at h1
   ·rename_i o n x hp hx
    cases h1
    simp only [List.map_cons,fillL] at hf
    split at hf
    ·rename_i hc
     have hv:=(hρ _ _ (hm p (by simp)) hx).cells
     have hlen:=hv.1
     have hsz:(ρ p.2).cells.size=n:=by simp at hlen;omega
     have hcs:cs.length=ds.size:=by have:=hr.1;simpa using this
     have hsp:=foldl_splice (ρ p.2).cells.toList 0 o ds (by simp;omega)
     have hr2:VRL φ β (splice cs o (cellsL (ρa x))) ((ρ p.2).cells.zipIdx.foldl (fun cs (p:Value×Nat)=>cs.setIfInBounds (o+p.2) p.1) ds).toList:=by
      rw [←Array.foldl_toList,Array.toList_zipIdx,hsp]
      exact hr.splice hv _
     obtain ⟨c,h3,h4⟩:=fill_ok hρ place parts qs _ _ out (fun q hq=>hm q (by simp [hq])) h2 hr2 hf
     refine ⟨c,?_,h4⟩
     simp only [List.map_cons,Instr.fill,hp]
     have hb:((decide ((ρ p.2).cells.size≠n))||decide (o+(ρ p.2).cells.size>ds.size))=false:=by simp [hsz];omega
     rw [if_neg (by rw [hb];simp)]
     exact h3
    ·cases hf
   ·cases h1
  ·cases h
end
end Go.Am
