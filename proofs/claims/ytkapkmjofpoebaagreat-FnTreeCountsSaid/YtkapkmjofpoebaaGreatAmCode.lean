/- From the model's code to the small machine's, by a program; how one operation in its place is carried over. -/
import Derived.Test.YtkapkmjofpoebaaGreatAmSem
set_option linter.unusedVariables false
set_option linter.unusedSimpArgs false
namespace Go.Am
open Go
section
variable (Pr:Program) (μ φ:iO) (nt:Nat)
def Fb (ops:Array Oper):Option (Nat×Bool)→Option (Option (Nat×Bool))
 |none=>some none
 |some (j,b)=>match (ops[j]?).bind (·.dst) with|some t=>some (some (t,b))|none=>none
def uH (ops:Array Oper) (o:Oper):Option cO:=
 match iY Pr μ φ o,Fb ops o.guard with
 |some a,some g=>match o.dst with|none=>some ⟨none,a,g⟩|some d=>if d<nt then some ⟨some d,a,g⟩ else none
 | _,_=>none
def aj1:kJ→Bool
 | .store .. | .iw .. | .append .. | .lK .. =>true
 | _=>false
def aj2:kJ→Bool
 | .call g _=>g==102||g==356||g==98
 | _=>false
def kD (ops:List Oper):List (List Nat):=
 ops.foldl (fun acc o=>acc++[o.after.toList.foldl (fun s e=>if Region.binds .any e then e.on::(acc.getD e.on []++s) else s) []]) []
def nS (a:cO):Bool:=
 a.guard.isNone&&
 match a.op with
 | .store .. | .iw .. | .append .. | .lK .. | .zV .. | .strOf .. | .call .. | .kV .. | .lV .. =>false
 | .alloc .. | .box .. | .buildSlice .. | .makeSlice .. =>a.dst.isSome
 | _=>true
def Js (a:cO):Option aN:=
 match a.op with
 | .load _ x=>some x
 | .alloc .. | .box .. | .buildSlice .. | .makeSlice .. =>a.dst.map .t
 | _=>none
def uJ (as:List cO) (c:List Nat) (m:Nat):List aN:=
 (List.range m).filterMap fun j=>if c.contains j then none else (as[j]?).bind Js
def oD (c:List Nat) (as:List cO) (m:Nat) (a:cO):cO:=
 match a.op with
 | .store n x v=>if (List.range m).all (fun j=>c.contains j) then a else ⟨a.dst, .iw n x v (uJ as c m),a.guard⟩
 | .append e b s x=>if (List.range m).all (fun j=>c.contains j) then a else ⟨a.dst, .lK e b s x (uJ as c m),a.guard⟩
 | .call g xs=>if (List.range m).all (fun j=>c.contains j) then a else ⟨a.dst, .lV g xs (uJ as c m),a.guard⟩
 | _=>a
def BN (as:List cO) (j s:Nat) (a:cO):Bool:=
 match a.op with
 | .load _ (.t t)=>(List.range s).all fun k=>decide (k<j)||(match as[k]? with|some b=> !(b.dst==some t)|none=>true)
 | _=>true
def BM (ops:Array Oper) (as:List cO) (m:Nat):Bool:=
 let c:=kD ops.toList
 (List.range ops.size).all fun i=>
  match ops[i]? with
  |none=>false
  |some oi=>
   oi.after.toList.all (fun e=> !Region.binds .any e||decide (e.on<i))&&
   (decide (i<m)||(((List.range i).all fun j=>decide (j<m)||(c.getD i []).contains j)&&
    (((List.range m).all fun j=>(c.getD i []).contains j)||
     ((match as[i]? with|some a=>(match a.op with| .store .. | .move _| .append .. | .call .. | .bin .. | .min _| .max _=>a.guard.isNone| _=>false)|none=>false)&&
      (List.range m).all fun j=>(c.getD i []).contains j||(match as[j]? with|some a=>nS a&&BN as j i a|none=>false)))))&&
   (match oi.op with| .select .. =>false| _=>true)&&
   (List.range ops.size).all fun j=>
    match ops[j]? with
    |none=>false
    |some oj=>
     i==j||
     ((match oi.dst,oj.dst with|some d,some e=>d !=e| _,_=>true)&&
      (match oj.dst with
      |some d=> !(oi.looksAt ops).contains d||(decide (j<i)&&(c.getD i []).contains j)||(decide (i<j)&&(c.getD j []).contains i)
      |none=>true))
def wR (ops:Array Oper) (as:List cO) (m:Nat):List cO:=as.mapIdx fun i a=>if i<m then a else oD ((kD ops.toList).getD i []) as m a
def mZ (σ:List Nat) (i:Nat):Nat:=if i<σ.length then σ.getD i 0 else i
def BL (σ:List Nat) (o:Oper):Oper:={o with after:=o.after.map fun e=>{e with on:=mZ σ e.on},guard:=o.guard.map fun g=>(mZ σ g.1,g.2)}
def tC (π σ:List Nat) (ops:Array Oper):Array Oper:=(π.map fun i=>BL σ (ops.getD i default)).toArray
def Vu (π:List Nat):List Nat:=(List.range π.length).map fun i=>π.idxOf i
def vN (π σ:List Nat) (n:Nat):Bool:=
 decide (π.length=n)&&decide (σ.length=n)&&(List.range n).all fun i=>decide (π.getD i n<n)&&decide (σ.getD i n<n)&&decide (σ.getD (π.getD i n) n=i)&&decide (π.getD (σ.getD i n) n=i)
def Vw (ops:Array Oper) (as:List cO) (m i:Nat):Bool:=
 decide (i<m)||(match as[i]? with|some ⟨_, .indexAddr ..,none⟩=>((kD ops.toList).getD i []).all fun j=>decide (j<m)| _=>false)
def aj3 (ops:Array Oper) (as:List cO) (m:Nat):List Nat:=
 (List.range ops.size).filter (fun i=>Vw ops as m i)++(List.range ops.size).filter fun i=> !Vw ops as m i
def yO (as:List cO):Nat:=(as.takeWhile fun a=> !aj1 a.op&& !aj2 a.op).length
def NJ (ops:Array Oper) (as:List cO):Option aj:=
 let π:=aj3 ops as (yO as)
 let ops':=tC π (Vu π) ops
 match jU (uH Pr μ φ nt ops') ops'.toList with
 |some as'=>
  if Pr.follows .mixedOrders&&(vN π (Vu π) ops.size&&BM ops' as' (yO as')) then some (.region (some (yO as')) (wR ops' as' (yO as'))) else none
 |none=>none
def Jq (ops:Array Oper) (draw:Bool):Option aj:=
 match jU (uH Pr μ φ nt ops) ops.toList with
 |some as=>
  if draw then
   if Pr.follows .mixedOrders&&BM ops as (yO as) then some (.region (some (yO as)) (wR ops as (yO as))) else NJ Pr μ φ nt ops as
  else some (.region none as)
 |none=>none
def jg:Code→Option aj
 | .skip=>some .skip
 | .region _ ops draw=>Jq Pr μ φ nt ops draw
 | .seq a b=>match jg a,jg b with|some a,some b=>some (.seq a b)| _,_=>none
 | .cond c a b=>match dN μ φ c,jg a,jg b with|some c,some a,some b=>some (.cond c a b)| _,_,_=>none
 | .block id a=>(jg a).map (.block id)
 | .loop a=>(jg a).map .loop
 | .exit id=>some (.exit id)
 | .ret=>some .ret
 | _=>none
def EW (r:ResultVar):Option oU:=
 match r with
 | .tmp t=>some (.tmp t)
 | .cell t ty=>(uM Pr ty).map (.cell t)
end
def bg (Pr:Program) (μ φ:iO) (f:FuncId):Option aZ:=
 match Pr.funcs[f]? with
 |some fn=>
  if (fn.name== "runtime.NumGoroutine")=true then none else
  match fn.body with
  |some c=>match jg Pr μ φ fn.ntmps c,jU (EW Pr) fn.results.toList with|some b,some rs=>some ⟨rs,b⟩| _,_=>none
  |none=>none
 |none=>none
structure nG (φ:iO) (β:Ren) (nt:Nat) (f:Fr) (a:Act):Prop where
 size:nt≤a.tmps.size
 val: ∀t,VR φ β (f t) (a.tmps.getD t undef)
section
variable {Pr:Program} {μ φ:iO} {β β':Ren} {H H' H1:aA} {w:World} {nt:Nat} {f:Fr} {a:Act}
theorem nG.mono (hb: ∀b L,β b=some L→β' b=some L) (h:nG φ β nt f a):nG φ β' nt f a:=⟨h.size,fun t=>(h.val t).mono hb⟩
theorem Vl (a:Act) (d:Nat) (v:Value) (hd:d<a.tmps.size) (t:Nat):(a.put (some d) v).tmps.getD t undef=if t=d then v else a.tmps.getD t undef:=by
 simp only [Act.put]
 by_cases h:t=d
 ·subst h
  simp [hd]
 ·rw [if_neg h]
  simp [Array.getElem?_setIfInBounds_ne (Ne.symm h)]
theorem nG.put (h:nG φ β nt f a) {d:Option Nat} (hd: ∀x,d=some x→x<nt) {v v':Value} (hv:VR φ β v v'):nG φ β nt (dR f d v) (a.put d v'):=by
 cases d with
 |none=>exact h
 |some d=>
  have hlt:d<a.tmps.size:=Nat.lt_of_lt_of_le (hd d rfl) h.size
  refine ⟨by simp [Act.put];exact h.size,fun t=>?_⟩
  rw [Vl a d v' hlt]
  show VR φ β (if t=d then v else f t) _
  split
  ·exact hv
  ·exact h.val t
theorem NT (a:Act) (d:Option Nat) (v:Value):(a.put d v).defers=a.defers:=by cases d<;>rfl
def BO (φ:iO) (β:Ren) (ops:Array Oper) (o:Oper) (f:Fr) (a:Act):Prop:= ∀t,t∈o.looksAt ops→VR φ β (f t) (a.tmps.getD t undef)
theorem nG.looks (h:nG φ β nt f a) (ops:Array Oper) (o:Oper):BO φ β ops o f a:=fun t _=>h.val t
theorem VR.aj6 {v u:Value} (h:VR φ β v u) (b:Bool):u= .bool b↔v= .bool b:=by
 constructor
 ·intro e
  subst e
  cases h
  rfl
 ·intro e
  subst e
  exact h.bool
theorem Jz {ops:Array Oper} {o:Oper} {g:Option (Nat×Bool)} (hg:Fb ops o.guard=some g) (h:BO φ β ops o f a):Region.wanted o (yielded ops a.tmps)=iQ g f:=by
 unfold Region.wanted
 cases hgd:o.guard with
 |none=>
  rw [hgd] at hg
  simp [Fb] at hg
  subst hg
  rfl
 |some jb=>
  obtain ⟨j,b⟩:=jb
  rw [hgd] at hg
  simp only [Fb] at hg
  split at hg
  ·rename_i t ht
   cases hg
   have hv:=h t (by simp [Oper.looksAt,hgd,ht])
   simp only [iQ,yielded,ht,Option.bind_some]
   have hget: ∀x:Bool,a.tmps[t]? =some (.bool x)↔f t= .bool x:=by
    intro x
    rw [←hv.aj6 x]
    cases he:a.tmps[t]? with
    |none=>
     have:=Array.getElem?_eq_none_iff.1 he
     simp [Array.getD,undef,Nat.not_lt.2 this]
    |some q=>simp [he]
   cases hft:f t with
   |bool x=>
    have:=(hget x).2 hft
    simp [this]<;>(cases x<;>cases b<;>rfl)
   | _=>
    cases he:a.tmps[t]? with
    |none=>simp
    |some q=>
     cases q with
     |bool x=>have:=(hget x).1 he;rw [hft] at this;cases this
     | _=>simp
  ·cases hg
def Fin (H:aA):Prop:= ∀b,H.n≤b→H.get b=none
def rD (Pr:Program) (μ φ:iO) (ao:cO) (f:Fr) (H:aA) (f1:Fr) (H1:aA):Prop:=
 H.n≤H1.n∧(Fin H→Fin H1)∧ ∃v,f1=dR f ao.dst v∧
  ∀(nt:Nat) (all:Array Oper) (o:Oper),uH Pr μ φ nt all o=some ao→ ∀(β:Ren) (a:Act) (w:World),Rel φ β H w→BO φ β all o f a→nt≤a.tmps.size→(∀b,H.n≤b→b<H1.n→β b=none)→a.defers=[]→
   ∀(Q:Exit→Act→World→Prop) (K:Act→World→Prop),(∀β' v' w',Good φ β H w β' H1 w'→VR φ β' v v'→K (a.put o.dst v') w')→
    if Region.wanted o (yielded all a.tmps) then o.wp Pr a w K Q else K (a.put o.dst undef) w
theorem zZ {all:Array Oper} {o:Oper} {ao:cO} (h:uH Pr μ φ nt all o=some ao):iY Pr μ φ o=some ao.op∧Fb all o.guard=some ao.guard∧ao.dst=o.dst∧ ∀d,o.dst=some d→d<nt:=by
 unfold uH at h
 split at h
 ·rename_i a g h1 h2
  split at h
  ·rename_i hd
   cases h
   exact ⟨h1,h2,hd.symm,fun d h=>by rw [hd] at h;cases h⟩
  ·rename_i d hd
   split at h
   ·rename_i hlt
    cases h
    exact ⟨h1,h2,hd.symm,fun d' h=>by rw [hd] at h;cases h;exact hlt⟩
   ·cases h
 ·cases h
theorem NV {all:Array Oper} {o:Oper} (h:BO φ β all o f a): ∀x ax,x∈o.op.operands→dN μ φ x=some ax→VR φ β (ev f ax) (a.eval x):=by
 intro x ax hx htr
 cases x with
 |tmp t=>
  simp only [dN,Option.some.injEq] at htr
  subst htr
  refine h t ?_
  unfold Oper.looksAt
  exact List.mem_append_left _ (List.mem_filterMap.2 ⟨.tmp t,by simpa using hx,rfl⟩)
 |const c=>
  simp only [dN] at htr
  split at htr
  ·rename_i hp
   cases htr
   exact .plain hp
  ·cases htr
 |global g=>simp [dN] at htr
 |func q=>
  simp only [dN] at htr
  split at htr
  ·rename_i g hg
   split at htr
   ·rename_i hφ
    cases htr
    exact .func hφ rfl (fun i c d h=>by simp at h)
   ·cases htr
  ·cases htr
theorem aj7 {ao:kJ} {ρ:aN→Value} {v:Value} (h:aS ao ρ H=some (v,H')):H.n≤H'.n:=by
 have key: ∀(x:Option (Value×aA)),x=some (v,H')→(∀q,x=some q→H.n≤q.2.n)→H.n≤H'.n:=fun x hx hq=>hq _ hx
 refine key _ h fun q hq=>?_
 clear h key
 cases ao<;>simp only [aS,nJ,Jo] at hq
 case indexAddr arr e x i=>
  cases arr<;>simp only [aS] at hq
  all_goals
   repeat' split at hq
   all_goals first|(cases hq;done)|(cases hq;simp)
 all_goals
  repeat' split at hq
  all_goals first
   |(cases hq;done)
   |(cases hq;simp [aA.alloc,aA.set,aA.kill];done)
   |(obtain ⟨_,_,hq⟩:=map_some_inj hq;cases hq;simp [aA.alloc];done)
   |(obtain ⟨_,_,rfl⟩:=map_some_inj hq;simp [aA.alloc];done)
theorem Fin.alloc (h:Fin H) (cs:List Value):Fin (H.alloc cs):=fun b hb=>by
 replace hb:H.n+1≤b:=hb
 show (if b=H.n then _ else _)=none
 rw [if_neg (by omega)]
 exact h b (by omega)
theorem Fin.kill (h:Fin H) (x:Nat):Fin (H.kill x):=fun b hb=>by
 show (if b=x then _ else _)=none
 split
 ·rfl
 ·exact h b hb
theorem Fin.set (h:Fin H) {x:Nat} {blk:dh} (hx:H.get x=some blk) (cs:List Value):Fin (H.set x cs):=fun b hb=>by
 show (if b=x then _ else _)=none
 rw [if_neg,h b hb]
 intro e
 subst e
 rw [h b hb] at hx
 cases hx
theorem aj8 {ao:kJ} {ρ:aN→Value} {v:Value} (h:aS ao ρ H=some (v,H')) (hF:Fin H):Fin H':=by
 have key: ∀(x:Option (Value×aA)),x=some (v,H')→(∀q,x=some q→Fin q.2)→Fin H':=fun x hx hq=>hq _ hx
 refine key _ h fun q hq=>?_
 clear h key
 cases ao<;>simp only [aS,nJ,Jo] at hq
 case indexAddr arr e x i=>
  cases arr<;>simp only [aS] at hq
  all_goals
   repeat' split at hq
   all_goals first|(cases hq;done)|(cases hq;exact hF)
 all_goals
  repeat' split at hq
  all_goals first
   |(cases hq;done)
   |(cases hq;exact hF)
   |(cases hq;exact hF.alloc _)
   |(cases hq;exact (hF.kill _).alloc _)
   |(cases hq;exact hF.set ‹_› _)
   |(obtain ⟨_,_,hq⟩:=map_some_inj hq;cases hq;exact hF)
   |(obtain ⟨_,_,hq⟩:=map_some_inj hq;cases hq;exact hF.alloc _)
def NK:kJ→Bool
 | .call .. | .kV .. | .lV .. =>true
 | _=>false
def Fact (Pr:Program) (μ φ:iO) (ao:cO) (f:Fr) (H:aA) (f1:Fr) (H1:aA):Prop:=
 (iQ ao.guard f=true→NK ao.op=false→ ∃v,aS ao.op (ev f) H=some (v,H1)∧f1=dR f ao.dst v)∧(iQ ao.guard f=false→H1=H∧f1=dR f ao.dst undef)∧
  ∀g args fl,ao.op= .lV g args fl→rD Pr μ φ ⟨ao.dst, .call g args,ao.guard⟩ f H f1 H1∧ ∀x∈fl,∀b,b<H.n→lW (ev f x)=some b→H1.get b=H.get b
theorem aj9 {n:Nat} {a v:aN} {ρ:aN→Value} {H:aA}:Jo n (ρ a) (ρ v) H=aS (.store n a v) ρ H:=rfl
theorem U9 {n:Nat} {a v:aN} {fl:List aN} {ρ:aN→Value} {H:aA} {r:Value×aA} (h:aS (.iw n a v fl) ρ H=some r):aS (.store n a v) ρ H=some r∧ ∀x∈fl,BK (ρ a) (ρ x)=true:=by
 simp only [aS] at h
 split at h
 ·rename_i hf
  exact ⟨by rw [←aj9];exact h,fun x hx=>List.all_eq_true.1 hf x hx⟩
 ·cases h
theorem Va {e bytes:Nat} {s x:aN} {fl:List aN} {ρ:aN→Value} {H:aA} {r:Value×aA} (h:aS (.lK e bytes s x fl) ρ H=some r):aS (.append e bytes s x) ρ H=some r∧ ∀y∈fl,Jm (ρ s) (ρ y)=true:=by
 simp only [aS] at h
 split at h
 ·rename_i hf
  exact ⟨h,fun x hx=>List.all_eq_true.1 hf x hx⟩
 ·cases h
theorem Jr {ao:cO} (hw:iQ ao.guard f=false):rD Pr μ φ ao f H (dR f ao.dst undef) H:=by
 refine ⟨Nat.le_refl _,id,undef,rfl,fun nt all o ht β a w hR hl hs hf hd Q K hK=>?_⟩
 obtain ⟨h1,h2,h3,h4⟩:=zZ ht
 rw [Jz h2 hl,hw]
 exact hK β undef w (.refl hR) (.plain rfl)
theorem EY {ao:cO} {v:Value} (hw:iQ ao.guard f=true) (ha:aS ao.op (ev f) H=some (v,H1)):rD Pr μ φ ao f H (dR f ao.dst v) H1:=by
 refine ⟨aj7 ha,aj8 ha,v,rfl,fun nt all o ht β a w hR hl hs hf hd Q K hK=>?_⟩
 obtain ⟨h1,h2,h3,h4⟩:=zZ ht
 rw [Jz h2 hl,hw]
 obtain ⟨n,v',w',β',hr,hn,hv,hg⟩:=akb (ρ:=a.eval) (jH:=ev f) (fun c=>rfl) (NV hl) hR hf h1 ha
 show o.wp Pr a w K Q
 unfold Oper.wp
 rw [hr]
 rcases hn with rfl|⟨rfl,rfl⟩
 ·exact hK β' v' w' hg hv
 ·exact hK β' undef w' hg hv
def zY (Pr:Program) (φ:iO) (g:Nat) (args:List Value) (H:aA) (v:Value) (H1:aA):Prop:=
 H.n≤H1.n∧(Fin H→Fin H1)∧ ∀(q:FuncId),φ g=some q→(∃fn,Pr.funcs[q]? =some fn∧fn.body.isSome=true∧(fn.name== "runtime.NumGoroutine")=false)∧ ∀(β:Ren) (as:List Value) (w:World),Rel φ β H w→bZ φ β args as→(∀b,H.n≤b→b<H1.n→β b=none)→
  Calls Pr q ⟨as⟩ w fun e w'=> ∃β' v',e= .returned v'∧VR φ β' v v'∧Good φ β H w β' H1 w'
def akc:kJ→Bool
 | .call .. | .kV .. | .lV .. =>true
 | _=>false
theorem NW {o:Oper} {ao:kJ} (h:iY Pr μ φ o=some ao) (hc:akc ao=true): ∃c,o.op= .call c∧Aa Pr μ φ c o.type=some ao:=by
 obtain ⟨dst,op,type,pos,after,guard⟩:=o
 cases op
 case call c=>exact ⟨c,rfl,h⟩
 case slice t x lo hi mx=>
  cases mx
  ·simp only [iY] at h
   repeat' split at h
   all_goals first|(cases h;done)|(cases h;cases hc;done)
  ·simp [iY] at h
 case makeFunc fn first caps=>
  cases fn
  case func q=>
   simp only [iY] at h
   repeat' split at h
   all_goals first|(cases h;done)|(cases h;cases hc;done)
  all_goals simp [iY] at h
 all_goals
  simp only [iY] at h
  try (cases h;done)
  repeat' split at h
  all_goals first|(cases h;done)|(cases h;cases hc;done)|(obtain ⟨_,_,h⟩:=map_some_inj h;subst h;cases hc;done)
theorem U7 {ao:cO} {g:Nat} {args:List aN} {v:Value} (hw:iQ ao.guard f=true) (ho:ao.op= .call g args) (hc:zY Pr φ g (args.map (ev f)) H v H1):rD Pr μ φ ao f H (dR f ao.dst v) H1:=by
 refine ⟨hc.1,hc.2.1,v,rfl,fun nt all o ht β a w hR hl hs hf hd Q K hK=>?_⟩
 obtain ⟨h1,h2,h3,h4⟩:=zZ ht
 rw [Jz h2 hl,hw]
 rw [ho] at h1
 have hρ:=NV (μ:=μ) hl
 obtain ⟨c,hop,h1'⟩:=NW h1 rfl
 clear h1
 have h1:=h1'
 clear h1'
 obtain ⟨dst,op,type,pos,after,guard⟩:=o
 simp only at hop
 subst hop
 obtain ⟨callee,pY,wU⟩:=c
 simp only [Aa] at h1
 split at h1
 ·split at h1
  ·split at h1<;>cases h1
  ·cases h1
 ·split at h1
  ·split at h1
   ·split at h1
    ·split at h1<;>cases h1
    ·cases h1
   ·cases h1
  ·cases h1
 ·split at h1
  ·split at h1<;>cases h1
  ·cases h1
 ·split at h1
  ·split at h1<;>cases h1
  ·cases h1
 ·cases h1
 ·rename_i q
  split at h1
  ·rename_i g' xs fn k1 k2 k3
   split at h1
   ·rename_i k4
    obtain ⟨k4,k5,k6⟩:=k4
    cases h1
    have hargs:bZ φ β (args.map (ev f)) (pY.toList.map a.eval):=by
     refine ⟨by simp [zW k2],fun i c d hc hd=>?_⟩
     rw [List.getElem?_map] at hc hd
     obtain ⟨x,hx,rfl⟩:=map_some_inj hd
     obtain ⟨ax,hax,htr⟩:=EZ k2 hx
     rw [hax] at hc
     cases hc
     exact hρ _ _ (by simp [Op.operands,Call.operands];exact .inr (Array.mem_toList_iff.1 (List.mem_of_getElem? hx))) htr
    have NY:=(hc.2.2 q k4).2 β _ w hR hargs hf
    have hrun:(execOp a.eval ⟨dst, .call ⟨.value (.func q),pY,wU⟩,type,pos,after,guard⟩).run Pr w= .ok (.enter q ⟨pY.toList.map a.eval⟩) w:=by
     have e1:(pY.map a.eval)=⟨pY.toList.map a.eval⟩:=by apply Array.ext';simp
     have e2: ¬fn.body=none:=by intro hb;rw [hb] at k5;cases k5
     have e3: ¬fn.name= "runtime.NumGoroutine" :=by simpa using k6
     simp [execOp,resolve,Deferred.ofValue,Act.eval,invoke,callFunc,k3,e3,e2]
     exact e1
    show Oper.wp Pr _ a w K Q
    unfold Oper.wp
    rw [hrun]
    refine NY.mono fun e w' he=>?_
    obtain ⟨β',v',rfl,hv,hg⟩:=he
    exact hK β' v' w' hg hv
   ·cases h1
  ·cases h1
 ·split at h1
  ·cases h1
  ·cases h1
 ·cases h1
theorem akd {c:Call} {t:TypeId} {g:Nat} {xs fl:List aN} (h:Aa Pr μ φ c t=some (.lV g xs fl)):False:=by
 unfold Aa at h
 repeat' split at h
 all_goals first|(cases h;done)|(simp at h;done)
theorem ajN {ao:cO} {g:Nat} {args fl:List aN} {v:Value} (hw:iQ ao.guard f=true) (ho:ao.op= .lV g args fl) (hc:zY Pr φ g (args.map (ev f)) H v H1):rD Pr μ φ ao f H (dR f ao.dst v) H1:=by
 refine ⟨hc.1,hc.2.1,v,rfl,fun nt all o ht β a w hR hl hs hf hd Q K hK=>?_⟩
 obtain ⟨h1,_⟩:=zZ ht
 obtain ⟨c,_,h2⟩:=NW h1 (by rw [ho];rfl)
 rw [ho] at h2
 exact (akd h2).elim
theorem ajM {ao:cO} {g:aN} {cap:Nat} {caps:List Value} {args:List aN} {v:Value} (hw:iQ ao.guard f=true) (ho:ao.op= .kV g args) (hgv:ev f g= .func (.func cap) #[] ⟨caps⟩)
  (hc:zY Pr φ cap (args.map (ev f)++caps) H v H1):rD Pr μ φ ao f H (dR f ao.dst v) H1:=by
 refine ⟨hc.1,hc.2.1,v,rfl,fun nt all o ht β a w hR hl hs hf hd Q K hK=>?_⟩
 obtain ⟨h1,h2,h3,h4⟩:=zZ ht
 rw [Jz h2 hl,hw]
 rw [ho] at h1
 have hρ:=NV (μ:=μ) hl
 obtain ⟨c,hop,h1'⟩:=NW h1 rfl
 clear h1
 have h1:=h1'
 clear h1'
 obtain ⟨dst,op,type,pos,after,guard⟩:=o
 simp only at hop
 subst hop
 obtain ⟨callee,pY,wU⟩:=c
 simp only [Aa] at h1
 split at h1
 ·split at h1
  ·split at h1<;>cases h1
  ·cases h1
 ·split at h1
  ·split at h1
   ·split at h1
    ·split at h1<;>cases h1
    ·cases h1
   ·cases h1
  ·cases h1
 ·split at h1
  ·split at h1<;>cases h1
  ·cases h1
 ·split at h1
  ·split at h1<;>cases h1
  ·cases h1
 ·cases h1
 ·split at h1
  ·split at h1<;>cases h1
  ·cases h1
 ·rename_i fo hfo
  split at h1
  ·rename_i fa xs k1 k2
   cases h1
   have hargs:bZ φ β (args.map (ev f)) (pY.toList.map a.eval):=by
    refine ⟨by simp [zW k2],fun i c d hc hd=>?_⟩
    rw [List.getElem?_map] at hc hd
    obtain ⟨x,hx,rfl⟩:=map_some_inj hd
    obtain ⟨ax,hax,htr⟩:=EZ k2 hx
    rw [hax] at hc
    cases hc
    exact hρ _ _ (by simp [Op.operands,Call.operands];exact .inr (Array.mem_toList_iff.1 (List.mem_of_getElem? hx))) htr
   have hfv:=hρ fo g (by simp [Op.operands,Call.operands]) k1
   rw [hgv] at hfv
   have hinv: ∃q ds,φ cap=some q∧a.eval fo= .func (.func q) #[] ⟨ds⟩∧bZ φ β caps ds:=by
    generalize a.eval fo=u at hfv
    cases hfv with
    |plain h=>simp [Am.plain] at h
    |func h h1 h2=>exact ⟨_,_,h,rfl,h1,h2⟩
   obtain ⟨q,ds,hq,hfe,ake⟩:=hinv
   obtain ⟨fn,k3,k5,k6⟩:=(hc.2.2 q hq).1
   have NY:=(hc.2.2 q hq).2 β _ w hR (hargs.append ake) hf
   have hrun:(execOp a.eval ⟨dst, .call ⟨.value fo,pY,wU⟩,type,pos,after,guard⟩).run Pr w= .ok (.enter q ⟨pY.toList.map a.eval++ds⟩) w:=by
    have e1:(pY.map a.eval)++(⟨ds⟩:Array Value)=⟨pY.toList.map a.eval++ds⟩:=by apply Array.ext';simp
    have e2: ¬fn.body=none:=by intro hb;rw [hb] at k5;cases k5
    have e3: ¬fn.name= "runtime.NumGoroutine" :=by simpa using k6
    simp [execOp,resolve,Deferred.ofValue,hfe,invoke,callFunc,k3,e3,e2]
   show Oper.wp Pr _ a w K Q
   unfold Oper.wp
   rw [hrun]
   refine NY.mono fun e w' he=>?_
   obtain ⟨β',v',rfl,hv,hg⟩:=he
   exact hK β' v' w' hg hv
  ·cases h1
 ·cases h1
end
end Go.Am
