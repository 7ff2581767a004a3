/- From the model's code to the small machine's, by a program; how one operation in its place is carried over. -/
import Derived.Test.YtbpfbfbabpkceaaGreatAmSem
set_option linter.unusedVariables false
set_option linter.unusedSimpArgs false
namespace Go.Am
open Go
section
variable (Pr:Program) (μ φ:Fun) (nt:Nat)
def trGuard (ops:Array Oper):Option (Nat×Bool)→Option (Option (Nat×Bool))
 |none=>some none
 |some (j,b)=>match (ops[j]?).bind (·.dst) with|some t=>some (some (t,b))|none=>none
def trOper (ops:Array Oper) (o:Oper):Option AOper:=
 match trOp Pr μ φ o,trGuard ops o.guard with
 |some a,some g=>match o.dst with|none=>some ⟨none,a,g⟩|some d=>if d<nt then some ⟨some d,a,g⟩ else none
 | _,_=>none
def writesA:AOp→Bool
 | .store .. | .storeF .. | .append .. | .appendF .. | .mapPut .. | .kR .. =>true
 | _=>false
def impA:AOp→Bool
 | .call g _=>g==102||g==356||g==98
 | _=>false
def closL (ops:List Oper):List (List Nat):=
 ops.foldl (fun acc o=>acc++[o.after.toList.foldl (fun s e=>if Region.binds .any e then e.on::(acc.getD e.on []++s) else s) []]) []
def floatA (a:AOper):Bool:=
 a.guard.isNone&&
 match a.op with
 | .store .. | .storeF .. | .append .. | .appendF .. | .sliceArr .. | .strOf .. | .makeMap| .mapPut .. | .lenMap .. | .kR .. | .call .. | .callv .. | .callF .. =>false
 | .alloc .. | .box .. | .buildSlice .. | .makeSlice .. =>a.dst.isSome
 | _=>true
def flopd (a:AOper):Option Opd:=
 match a.op with
 | .load _ x=>some x
 | .alloc .. | .box .. | .buildSlice .. | .makeSlice .. =>a.dst.map .t
 | _=>none
def flOf (as:List AOper) (c:List Nat) (m:Nat):List Opd:=
 (List.range m).filterMap fun j=>if c.contains j then none else (as[j]?).bind flopd
def convO (c:List Nat) (as:List AOper) (m:Nat) (a:AOper):AOper:=
 match a.op with
 | .store n x v=>if (List.range m).all (fun j=>c.contains j) then a else ⟨a.dst, .storeF n x v (flOf as c m),a.guard⟩
 | .append e b s x=>if (List.range m).all (fun j=>c.contains j) then a else ⟨a.dst, .appendF e b s x (flOf as c m),a.guard⟩
 | .call g xs=>if (List.range m).all (fun j=>c.contains j) then a else ⟨a.dst, .callF g xs (flOf as c m),a.guard⟩
 | _=>a
def keptA (as:List AOper) (j s:Nat) (a:AOper):Bool:=
 match a.op with
 | .load _ (.t t)=>(List.range s).all fun k=>decide (k<j)||(match as[k]? with|some b=> !(b.dst==some t)|none=>true)
 | _=>true
def drawOk (ops:Array Oper) (as:List AOper) (m:Nat):Bool:=
 let c:=closL ops.toList
 (List.range ops.size).all fun i=>
  match ops[i]? with
  |none=>false
  |some oi=>
   oi.after.toList.all (fun e=> !Region.binds .any e||decide (e.on<i))&&
   (decide (i<m)||(((List.range i).all fun j=>decide (j<m)||(c.getD i []).contains j)&&
    (((List.range m).all fun j=>(c.getD i []).contains j)||
     ((match as[i]? with|some a=>(match a.op with| .store .. | .move _| .append .. | .call .. | .bin .. | .min _| .max _=>a.guard.isNone| _=>false)|none=>false)&&
      (List.range m).all fun j=>(c.getD i []).contains j||(match as[j]? with|some a=>floatA a&&keptA as j i a|none=>false)))))&&
   (match oi.op with| .select .. =>false| _=>true)&&
   (List.range ops.size).all fun j=>
    match ops[j]? with
    |none=>false
    |some oj=>
     i==j||
     ((match oi.dst,oj.dst with|some d,some e=>d !=e| _,_=>true)&&
      (match oj.dst with
      |some d=> !(oi.looksAt ops).contains d||(decide (j<i)&&(c.getD i []).contains j)||(decide (i<j)&&(c.getD j []).contains i)
      |none=>true))
def convL (ops:Array Oper) (as:List AOper) (m:Nat):List AOper:=as.mapIdx fun i a=>if i<m then a else convO ((closL ops.toList).getD i []) as m a
def turnN (σ:List Nat) (i:Nat):Nat:=if i<σ.length then σ.getD i 0 else i
def turnO (σ:List Nat) (o:Oper):Oper:={o with after:=o.after.map fun e=>{e with on:=turnN σ e.on},guard:=o.guard.map fun g=>(turnN σ g.1,g.2)}
def turnL (π σ:List Nat) (ops:Array Oper):Array Oper:=(π.map fun i=>turnO σ (ops.getD i default)).toArray
def invL (π:List Nat):List Nat:=(List.range π.length).map fun i=>π.idxOf i
def turnB (π σ:List Nat) (n:Nat):Bool:=
 decide (π.length=n)&&decide (σ.length=n)&&(List.range n).all fun i=>decide (π.getD i n<n)&&decide (σ.getD i n<n)&&decide (σ.getD (π.getD i n) n=i)&&decide (π.getD (σ.getD i n) n=i)
def liftB (ops:Array Oper) (as:List AOper) (m i:Nat):Bool:=
 decide (i<m)||(match as[i]? with|some ⟨_, .indexAddr ..,none⟩=>((closL ops.toList).getD i []).all fun j=>decide (j<m)| _=>false)
def liftP (ops:Array Oper) (as:List AOper) (m:Nat):List Nat:=
 (List.range ops.size).filter (fun i=>liftB ops as m i)++(List.range ops.size).filter fun i=> !liftB ops as m i
def headN (as:List AOper):Nat:=(as.takeWhile fun a=> !writesA a.op&& !impA a.op).length
def trTurned (ops:Array Oper) (as:List AOper):Option ACode:=
 let π:=liftP ops as (headN as)
 let ops':=turnL π (invL π) ops
 match optL (trOper Pr μ φ nt ops') ops'.toList with
 |some as'=>
  if Pr.follows .mixedOrders&&(turnB π (invL π) ops.size&&drawOk ops' as' (headN as')) then some (.region (some (headN as')) (convL ops' as' (headN as'))) else none
 |none=>none
def trRegion (ops:Array Oper) (draw:Bool):Option ACode:=
 match optL (trOper Pr μ φ nt ops) ops.toList with
 |some as=>
  if draw then
   if Pr.follows .mixedOrders&&drawOk ops as (headN as) then some (.region (some (headN as)) (convL ops as (headN as))) else trTurned Pr μ φ nt ops as
  else some (.region none as)
 |none=>none
def trCode:Code→Option ACode
 | .skip=>some .skip
 | .region _ ops draw=>trRegion Pr μ φ nt ops draw
 | .seq a b=>match trCode a,trCode b with|some a,some b=>some (.seq a b)| _,_=>none
 | .cond c a b=>match trOpd μ φ c,trCode a,trCode b with|some c,some a,some b=>some (.cond c a b)| _,_,_=>none
 | .block id a=>(trCode a).map (.block id)
 | .loop a=>(trCode a).map .loop
 | .exit id=>some (.exit id)
 | .ret=>some .ret
 | _=>none
def trRes (r:ResultVar):Option ARes:=
 match r with
 | .tmp t=>some (.tmp t)
 | .cell t ty=>(numT Pr ty).map (.cell t)
end
def trFunc (Pr:Program) (μ φ:Fun) (f:FuncId):Option AFunc:=
 match Pr.funcs[f]? with
 |some fn=>
  if (fn.name== "runtime.NumGoroutine")=true then none else
  match fn.body with
  |some c=>match trCode Pr μ φ fn.ntmps c,optL (trRes Pr) fn.results.toList with|some b,some rs=>some ⟨rs,b⟩| _,_=>none
  |none=>none
 |none=>none
structure FRel (φ:Fun) (β:Ren) (nt:Nat) (f:Fr) (a:Act):Prop where
 size:nt≤a.tmps.size
 val: ∀t,VR φ β (f t) (a.tmps.getD t undef)
section
variable {Pr:Program} {μ φ:Fun} {β β':Ren} {H H' H1:AHeap} {w:World} {nt:Nat} {f:Fr} {a:Act}
theorem FRel.mono (hb: ∀b L,β b=some L→β' b=some L) (h:FRel φ β nt f a):FRel φ β' nt f a:=⟨h.size,fun t=>(h.val t).mono hb⟩
theorem put_getD (a:Act) (d:Nat) (v:Value) (hd:d<a.tmps.size) (t:Nat):(a.put (some d) v).tmps.getD t undef=if t=d then v else a.tmps.getD t undef:=by
 simp only [Act.put]
 by_cases h:t=d
 ·subst h
  simp [hd]
 ·rw [if_neg h]
  simp [Array.getElem?_setIfInBounds_ne (Ne.symm h)]
theorem FRel.put (h:FRel φ β nt f a) {d:Option Nat} (hd: ∀x,d=some x→x<nt) {v v':Value} (hv:VR φ β v v'):FRel φ β nt (updO f d v) (a.put d v'):=by
 cases d with
 |none=>exact h
 |some d=>
  have hlt:d<a.tmps.size:=Nat.lt_of_lt_of_le (hd d rfl) h.size
  refine ⟨by simp [Act.put];exact h.size,fun t=>?_⟩
  rw [put_getD a d v' hlt]
  show VR φ β (if t=d then v else f t) _
  split
  ·exact hv
  ·exact h.val t
theorem put_def (a:Act) (d:Option Nat) (v:Value):(a.put d v).defers=a.defers:=by cases d<;>rfl
def LRel (φ:Fun) (β:Ren) (ops:Array Oper) (o:Oper) (f:Fr) (a:Act):Prop:= ∀t,t∈o.looksAt ops→VR φ β (f t) (a.tmps.getD t undef)
theorem FRel.looks (h:FRel φ β nt f a) (ops:Array Oper) (o:Oper):LRel φ β ops o f a:=fun t _=>h.val t
theorem VR.bool_iff {v u:Value} (h:VR φ β v u) (b:Bool):u= .bool b↔v= .bool b:=by
 constructor
 ·intro e
  subst e
  cases h
  rfl
 ·intro e
  subst e
  exact h.bool
theorem wanted_ok {ops:Array Oper} {o:Oper} {g:Option (Nat×Bool)} (hg:trGuard ops o.guard=some g) (h:LRel φ β ops o f a):Region.wanted o (yielded ops a.tmps)=wantedA g f:=by
 unfold Region.wanted
 cases hgd:o.guard with
 |none=>
  rw [hgd] at hg
  simp [trGuard] at hg
  subst hg
  rfl
 |some jb=>
  obtain ⟨j,b⟩:=jb
  rw [hgd] at hg
  simp only [trGuard] at hg
  split at hg
  ·rename_i t ht
   cases hg
   have hv:=h t (by simp [Oper.looksAt,hgd,ht])
   simp only [wantedA,yielded,ht,Option.bind_some]
   have hget: ∀x:Bool,a.tmps[t]? =some (.bool x)↔f t= .bool x:=by
    intro x
    rw [←hv.bool_iff x]
    cases he:a.tmps[t]? with
    |none=>
     have:=Array.getElem?_eq_none_iff.1 he
     simp [Array.getD,undef,Nat.not_lt.2 this]
    |some q=>simp [he]
   cases hft:f t with
   |bool x=>
    have:=(hget x).2 hft
    simp [this]<;>(cases x<;>cases b<;>rfl)
   | _=>
    cases he:a.tmps[t]? with
    |none=>simp
    |some q=>
     cases q with
     |bool x=>have:=(hget x).1 he;rw [hft] at this;cases this
     | _=>simp
  ·cases hg
def Fin (H:AHeap):Prop:= ∀b,H.n≤b→H.get b=none
def SimOne (Pr:Program) (μ φ:Fun) (ao:AOper) (f:Fr) (H:AHeap) (f1:Fr) (H1:AHeap):Prop:=
 H.n≤H1.n∧(Fin H→Fin H1)∧ ∃v,f1=updO f ao.dst v∧
  ∀(nt:Nat) (all:Array Oper) (o:Oper),trOper Pr μ φ nt all o=some ao→ ∀(β:Ren) (a:Act) (w:World),Rel φ β H w→LRel φ β all o f a→nt≤a.tmps.size→(∀b,H.n≤b→b<H1.n→β b=none)→a.defers=[]→
   ∀(Q:Exit→Act→World→Prop) (K:Act→World→Prop),(∀β' v' w',Good φ β H w β' H1 w'→VR φ β' v v'→K (a.put o.dst v') w')→
    if Region.wanted o (yielded all a.tmps) then o.wp Pr a w K Q else K (a.put o.dst undef) w
theorem trOper_some {all:Array Oper} {o:Oper} {ao:AOper} (h:trOper Pr μ φ nt all o=some ao):trOp Pr μ φ o=some ao.op∧trGuard all o.guard=some ao.guard∧ao.dst=o.dst∧ ∀d,o.dst=some d→d<nt:=by
 unfold trOper at h
 split at h
 ·rename_i a g h1 h2
  split at h
  ·rename_i hd
   cases h
   exact ⟨h1,h2,hd.symm,fun d h=>by rw [hd] at h;cases h⟩
  ·rename_i d hd
   split at h
   ·rename_i hlt
    cases h
    exact ⟨h1,h2,hd.symm,fun d' h=>by rw [hd] at h;cases h;exact hlt⟩
   ·cases h
 ·cases h
theorem hρ_of {all:Array Oper} {o:Oper} (h:LRel φ β all o f a): ∀x ax,x∈o.op.operands→trOpd μ φ x=some ax→VR φ β (ev f ax) (a.eval x):=by
 intro x ax hx htr
 cases x with
 |tmp t=>
  simp only [trOpd,Option.some.injEq] at htr
  subst htr
  refine h t ?_
  unfold Oper.looksAt
  exact List.mem_append_left _ (List.mem_filterMap.2 ⟨.tmp t,by simpa using hx,rfl⟩)
 |const c=>
  simp only [trOpd] at htr
  split at htr
  ·rename_i hp
   cases htr
   exact .plain hp
  ·cases htr
 |global g=>simp [trOpd] at htr
 |func q=>
  simp only [trOpd] at htr
  split at htr
  ·rename_i g hg
   split at htr
   ·rename_i hφ
    cases htr
    exact .func hφ rfl (fun i c d h=>by simp at h)
   ·cases htr
  ·cases htr
theorem aOp_n {ao:AOp} {ρ:Opd→Value} {v:Value} (h:aOp ao ρ H=some (v,H')):H.n≤H'.n:=by
 have key: ∀(x:Option (Value×AHeap)),x=some (v,H')→(∀q,x=some q→H.n≤q.2.n)→H.n≤H'.n:=fun x hx hq=>hq _ hx
 refine key _ h fun q hq=>?_
 clear h key
 cases ao<;>simp only [aOp,aAppend,aStore,aPut,aLen,sJ] at hq
 case indexAddr arr e x i=>
  cases arr<;>simp only [aOp] at hq
  all_goals
   repeat' split at hq
   all_goals first|(cases hq;done)|(cases hq;simp)
 all_goals
  repeat' split at hq
  all_goals first
   |(cases hq;done)
   |(cases hq;simp [AHeap.alloc,AHeap.set,AHeap.kill];done)
   |(cases hq;simp [AHeap.alloc];omega)
   |(obtain ⟨_,_,hq⟩:=map_some_inj hq;cases hq;simp [AHeap.alloc];done)
   |(obtain ⟨_,_,rfl⟩:=map_some_inj hq;simp [AHeap.alloc];done)
theorem Fin.alloc (h:Fin H) (cs:List Value):Fin (H.alloc cs):=fun b hb=>by
 replace hb:H.n+1≤b:=hb
 show (if b=H.n then _ else _)=none
 rw [if_neg (by omega)]
 exact h b (by omega)
theorem Fin.kill (h:Fin H) (x:Nat):Fin (H.kill x):=fun b hb=>by
 show (if b=x then _ else _)=none
 split
 ·rfl
 ·exact h b hb
theorem Fin.set (h:Fin H) {x:Nat} {blk:Blk} (hx:H.get x=some blk) (cs:List Value):Fin (H.set x cs):=fun b hb=>by
 show (if b=x then _ else _)=none
 rw [if_neg,h b hb]
 intro e
 subst e
 rw [h b hb] at hx
 cases hx
theorem aOp_fin {ao:AOp} {ρ:Opd→Value} {v:Value} (h:aOp ao ρ H=some (v,H')) (hF:Fin H):Fin H':=by
 have key: ∀(x:Option (Value×AHeap)),x=some (v,H')→(∀q,x=some q→Fin q.2)→Fin H':=fun x hx hq=>hq _ hx
 refine key _ h fun q hq=>?_
 clear h key
 cases ao<;>simp only [aOp,aAppend,aStore,aPut,aLen,sJ] at hq
 case indexAddr arr e x i=>
  cases arr<;>simp only [aOp] at hq
  all_goals
   repeat' split at hq
   all_goals first|(cases hq;done)|(cases hq;exact hF)
 all_goals
  repeat' split at hq
  all_goals first
   |(cases hq;done)
   |(cases hq;exact hF)
   |(cases hq;exact hF.alloc _)
   |(cases hq;exact (hF.alloc _).alloc _)
   |(cases hq;exact (hF.kill _).alloc _)
   |(cases hq;exact hF.set ‹_› _)
   |(obtain ⟨_,_,hq⟩:=map_some_inj hq;cases hq;exact hF)
   |(obtain ⟨_,_,hq⟩:=map_some_inj hq;cases hq;exact hF.alloc _)
def callA:AOp→Bool
 | .call .. | .callv .. | .callF .. =>true
 | _=>false
def Fact (Pr:Program) (μ φ:Fun) (ao:AOper) (f:Fr) (H:AHeap) (f1:Fr) (H1:AHeap):Prop:=
 (wantedA ao.guard f=true→callA ao.op=false→ ∃v,aOp ao.op (ev f) H=some (v,H1)∧f1=updO f ao.dst v)∧(wantedA ao.guard f=false→H1=H∧f1=updO f ao.dst undef)∧
  ∀g args fl,ao.op= .callF g args fl→SimOne Pr μ φ ⟨ao.dst, .call g args,ao.guard⟩ f H f1 H1∧ ∀x∈fl,∀b,b<H.n→blkOf (ev f x)=some b→H1.get b=H.get b
theorem aStore_is {n:Nat} {a v:Opd} {ρ:Opd→Value} {H:AHeap}:aStore n (ρ a) (ρ v) H=aOp (.store n a v) ρ H:=rfl
theorem storeF_store {n:Nat} {a v:Opd} {fl:List Opd} {ρ:Opd→Value} {H:AHeap} {r:Value×AHeap} (h:aOp (.storeF n a v fl) ρ H=some r):aOp (.store n a v) ρ H=some r∧ ∀x∈fl,flok (ρ a) (ρ x)=true:=by
 simp only [aOp] at h
 split at h
 ·rename_i hf
  exact ⟨by rw [←aStore_is];exact h,fun x hx=>List.all_eq_true.1 hf x hx⟩
 ·cases h
theorem appendF_append {e bytes:Nat} {s x:Opd} {fl:List Opd} {ρ:Opd→Value} {H:AHeap} {r:Value×AHeap} (h:aOp (.appendF e bytes s x fl) ρ H=some r):aOp (.append e bytes s x) ρ H=some r∧ ∀y∈fl,flokS (ρ s) (ρ y)=true:=by
 simp only [aOp] at h
 split at h
 ·rename_i hf
  exact ⟨h,fun x hx=>List.all_eq_true.1 hf x hx⟩
 ·cases h
theorem sim_skip {ao:AOper} (hw:wantedA ao.guard f=false):SimOne Pr μ φ ao f H (updO f ao.dst undef) H:=by
 refine ⟨Nat.le_refl _,id,undef,rfl,fun nt all o ht β a w hR hl hs hf hd Q K hK=>?_⟩
 obtain ⟨h1,h2,h3,h4⟩:=trOper_some ht
 rw [wanted_ok h2 hl,hw]
 exact hK β undef w (.refl hR) (.plain rfl)
theorem sim_op {ao:AOper} {v:Value} (hw:wantedA ao.guard f=true) (ha:aOp ao.op (ev f) H=some (v,H1)):SimOne Pr μ φ ao f H (updO f ao.dst v) H1:=by
 refine ⟨aOp_n ha,aOp_fin ha,v,rfl,fun nt all o ht β a w hR hl hs hf hd Q K hK=>?_⟩
 obtain ⟨h1,h2,h3,h4⟩:=trOper_some ht
 rw [wanted_ok h2 hl,hw]
 obtain ⟨n,v',w',β',hr,hn,hv,hg⟩:=op_sound (ρ:=a.eval) (ρa:=ev f) (fun c=>rfl) (hρ_of hl) hR hf h1 ha
 show o.wp Pr a w K Q
 unfold Oper.wp
 rw [hr]
 rcases hn with rfl|⟨rfl,rfl⟩
 ·exact hK β' v' w' hg hv
 ·exact hK β' undef w' hg hv
def SimCal (Pr:Program) (φ:Fun) (g:Nat) (args:List Value) (H:AHeap) (v:Value) (H1:AHeap):Prop:=
 H.n≤H1.n∧(Fin H→Fin H1)∧ ∀(q:FuncId),φ g=some q→(∃fn,Pr.funcs[q]? =some fn∧fn.body.isSome=true∧(fn.name== "runtime.NumGoroutine")=false)∧ ∀(β:Ren) (as:List Value) (w:World),Rel φ β H w→VRL φ β args as→(∀b,H.n≤b→b<H1.n→β b=none)→
  Calls Pr q ⟨as⟩ w fun e w'=> ∃β' v',e= .returned v'∧VR φ β' v v'∧Good φ β H w β' H1 w'
def isCallA:AOp→Bool
 | .call .. | .callv .. | .callF .. =>true
 | _=>false
theorem trOp_isCall {o:Oper} {ao:AOp} (h:trOp Pr μ φ o=some ao) (hc:isCallA ao=true): ∃c,o.op= .call c∧trCall Pr μ φ c o.type=some ao:=by
 obtain ⟨dst,op,type,pos,after,guard⟩:=o
 cases op
 case call c=>exact ⟨c,rfl,h⟩
 case slice t x lo hi mx=>
  cases mx
  ·simp only [trOp] at h
   repeat' split at h
   all_goals first|(cases h;done)|(cases h;cases hc;done)
  ·simp [trOp] at h
 case makeFunc fn first caps=>
  cases fn
  case func q=>
   simp only [trOp] at h
   repeat' split at h
   all_goals first|(cases h;done)|(cases h;cases hc;done)
  all_goals simp [trOp] at h
 case makeMap t r=>
  cases r with
  |some r=>simp [trOp] at h
  |none=>
   simp only [trOp,Option.some.injEq] at h
   subst h
   cases hc
 all_goals
  simp only [trOp] at h
  try (cases h;done)
  repeat' split at h
  all_goals first|(cases h;done)|(cases h;cases hc;done)|(obtain ⟨_,_,h⟩:=map_some_inj h;subst h;cases hc;done)
theorem sim_call {ao:AOper} {g:Nat} {args:List Opd} {v:Value} (hw:wantedA ao.guard f=true) (ho:ao.op= .call g args) (hc:SimCal Pr φ g (args.map (ev f)) H v H1):SimOne Pr μ φ ao f H (updO f ao.dst v) H1:=by
 refine ⟨hc.1,hc.2.1,v,rfl,fun nt all o ht β a w hR hl hs hf hd Q K hK=>?_⟩
 obtain ⟨h1,h2,h3,h4⟩:=trOper_some ht
 rw [wanted_ok h2 hl,hw]
 rw [ho] at h1
 have hρ:=hρ_of (μ:=μ) hl
 obtain ⟨c,hop,h1'⟩:=trOp_isCall h1 rfl
 clear h1
 have h1:=h1'
 clear h1'
 obtain ⟨dst,op,type,pos,after,guard⟩:=o
 simp only at hop
 subst hop
 obtain ⟨callee,cargs,ctypes⟩:=c
 simp only [trCall] at h1
 split at h1
 ·split at h1
  ·split at h1<;>cases h1
  ·cases h1
 ·split at h1
  ·split at h1
   ·split at h1
    ·split at h1<;>cases h1
    ·cases h1
   ·cases h1
  ·cases h1
 ·split at h1
  ·split at h1<;>cases h1
  ·cases h1
 ·split at h1
  ·split at h1<;>cases h1
  ·cases h1
 ·repeat' split at h1
  all_goals cases h1
 ·rename_i q
  split at h1
  ·rename_i g' xs fn k1 k2 k3
   split at h1
   ·rename_i k4
    obtain ⟨k4,k5,k6⟩:=k4
    cases h1
    have hargs:VRL φ β (args.map (ev f)) (cargs.toList.map a.eval):=by
     refine ⟨by simp [optL_len k2],fun i c d hc hd=>?_⟩
     rw [List.getElem?_map] at hc hd
     obtain ⟨x,hx,rfl⟩:=map_some_inj hd
     obtain ⟨ax,hax,htr⟩:=optL_at k2 hx
     rw [hax] at hc
     cases hc
     exact hρ _ _ (by simp [Op.operands,Call.operands];exact .inr (Array.mem_toList_iff.1 (List.mem_of_getElem? hx))) htr
    have hcal:=(hc.2.2 q k4).2 β _ w hR hargs hf
    have hrun:(execOp a.eval ⟨dst, .call ⟨.value (.func q),cargs,ctypes⟩,type,pos,after,guard⟩).run Pr w= .ok (.enter q ⟨cargs.toList.map a.eval⟩) w:=by
     have e1:(cargs.map a.eval)=⟨cargs.toList.map a.eval⟩:=by apply Array.ext';simp
     have e2: ¬fn.body=none:=by intro hb;rw [hb] at k5;cases k5
     have e3: ¬fn.name= "runtime.NumGoroutine" :=by simpa using k6
     simp [execOp,resolve,Deferred.ofValue,Act.eval,invoke,callFunc,k3,e3,e2]
     exact e1
    show Oper.wp Pr _ a w K Q
    unfold Oper.wp
    rw [hrun]
    refine hcal.mono fun e w' he=>?_
    obtain ⟨β',v',rfl,hv,hg⟩:=he
    exact hK β' v' w' hg hv
   ·cases h1
  ·cases h1
 ·split at h1
  ·cases h1
  ·cases h1
 ·cases h1
theorem trCall_noF {c:Call} {t:TypeId} {g:Nat} {xs fl:List Opd} (h:trCall Pr μ φ c t=some (.callF g xs fl)):False:=by
 unfold trCall at h
 repeat' split at h
 all_goals first|(cases h;done)|(simp at h;done)
theorem sim_callF {ao:AOper} {g:Nat} {args fl:List Opd} {v:Value} (hw:wantedA ao.guard f=true) (ho:ao.op= .callF g args fl) (hc:SimCal Pr φ g (args.map (ev f)) H v H1):SimOne Pr μ φ ao f H (updO f ao.dst v) H1:=by
 refine ⟨hc.1,hc.2.1,v,rfl,fun nt all o ht β a w hR hl hs hf hd Q K hK=>?_⟩
 obtain ⟨h1,_⟩:=trOper_some ht
 obtain ⟨c,_,h2⟩:=trOp_isCall h1 (by rw [ho];rfl)
 rw [ho] at h2
 exact (trCall_noF h2).elim
theorem sim_callv {ao:AOper} {g:Opd} {cap:Nat} {caps:List Value} {args:List Opd} {v:Value} (hw:wantedA ao.guard f=true) (ho:ao.op= .callv g args) (hgv:ev f g= .func (.func cap) #[] ⟨caps⟩)
  (hc:SimCal Pr φ cap (args.map (ev f)++caps) H v H1):SimOne Pr μ φ ao f H (updO f ao.dst v) H1:=by
 refine ⟨hc.1,hc.2.1,v,rfl,fun nt all o ht β a w hR hl hs hf hd Q K hK=>?_⟩
 obtain ⟨h1,h2,h3,h4⟩:=trOper_some ht
 rw [wanted_ok h2 hl,hw]
 rw [ho] at h1
 have hρ:=hρ_of (μ:=μ) hl
 obtain ⟨c,hop,h1'⟩:=trOp_isCall h1 rfl
 clear h1
 have h1:=h1'
 clear h1'
 obtain ⟨dst,op,type,pos,after,guard⟩:=o
 simp only at hop
 subst hop
 obtain ⟨callee,cargs,ctypes⟩:=c
 simp only [trCall] at h1
 split at h1
 ·split at h1
  ·split at h1<;>cases h1
  ·cases h1
 ·split at h1
  ·split at h1
   ·split at h1
    ·split at h1<;>cases h1
    ·cases h1
   ·cases h1
  ·cases h1
 ·split at h1
  ·split at h1<;>cases h1
  ·cases h1
 ·split at h1
  ·split at h1<;>cases h1
  ·cases h1
 ·repeat' split at h1
  all_goals cases h1
 ·split at h1
  ·split at h1<;>cases h1
  ·cases h1
 ·rename_i fo hfo
  split at h1
  ·rename_i fa xs k1 k2
   cases h1
   have hargs:VRL φ β (args.map (ev f)) (cargs.toList.map a.eval):=by
    refine ⟨by simp [optL_len k2],fun i c d hc hd=>?_⟩
    rw [List.getElem?_map] at hc hd
    obtain ⟨x,hx,rfl⟩:=map_some_inj hd
    obtain ⟨ax,hax,htr⟩:=optL_at k2 hx
    rw [hax] at hc
    cases hc
    exact hρ _ _ (by simp [Op.operands,Call.operands];exact .inr (Array.mem_toList_iff.1 (List.mem_of_getElem? hx))) htr
   have hfv:=hρ fo g (by simp [Op.operands,Call.operands]) k1
   rw [hgv] at hfv
   have hinv: ∃q ds,φ cap=some q∧a.eval fo= .func (.func q) #[] ⟨ds⟩∧VRL φ β caps ds:=by
    generalize a.eval fo=u at hfv
    cases hfv with
    |plain h=>simp [Am.plain] at h
    |func h h1 h2=>exact ⟨_,_,h,rfl,h1,h2⟩
   obtain ⟨q,ds,hq,hfe,hcaps⟩:=hinv
   obtain ⟨fn,k3,k5,k6⟩:=(hc.2.2 q hq).1
   have hcal:=(hc.2.2 q hq).2 β _ w hR (hargs.append hcaps) hf
   have hrun:(execOp a.eval ⟨dst, .call ⟨.value fo,cargs,ctypes⟩,type,pos,after,guard⟩).run Pr w= .ok (.enter q ⟨cargs.toList.map a.eval++ds⟩) w:=by
    have e1:(cargs.map a.eval)++(⟨ds⟩:Array Value)=⟨cargs.toList.map a.eval++ds⟩:=by apply Array.ext';simp
    have e2: ¬fn.body=none:=by intro hb;rw [hb] at k5;cases k5
    have e3: ¬fn.name= "runtime.NumGoroutine" :=by simpa using k6
    simp [execOp,resolve,Deferred.ofValue,hfe,invoke,callFunc,k3,e3,e2]
   show Oper.wp Pr _ a w K Q
   unfold Oper.wp
   rw [hrun]
   refine hcal.mono fun e w' he=>?_
   obtain ⟨β',v',rfl,hv,hg⟩:=he
   exact hK β' v' w' hg hv
  ·cases h1
 ·cases h1
end
end Go.Am
