/- What the small machine runs, the model runs: code, functions, calls. -/
import Derived.Test.YtbpfbfbabpkceaaGreatAmDraw
set_option linter.unusedVariables false
set_option linter.unusedSimpArgs false
namespace Go.Am
open Go
def exOf:Ex→Exit
 | .normal=> .normal
 | .exit id=> .exit id
 | .ret=> .ret
def SimC (Pr:Program) (μ φ:Fun) (c:ACode) (f:Fr) (H:AHeap) (ex:Ex) (f':Fr) (H':AHeap):Prop:=
 H.n≤H'.n∧(Fin H→Fin H')∧ ∃n:Nat,∀(nt:Nat) (β:Ren) (a:Act) (w:World),Rel φ β H w→FRel φ β nt f a→(∀b,H.n≤b→b<H'.n→β b=none)→a.defers=[]→
  ∀(Q:Exit→Act→World→Prop),(∀β' a' w',Good φ β H w β' H' w'→FRel φ β' nt f' a'→a'.defers=[]→Q (exOf ex) a' w')→
   (∀code,trCode Pr μ φ nt code=some c→code.wp Pr Q a w)∧(∀a0 code,c= .loop a0→trCode Pr μ φ nt code=some a0→Code.rounds Pr code Q n a w)
section
variable {Pr:Program} {μ φ:Fun} {nt:Nat} {code:Code}
theorem headN_le (as:List AOper):headN as≤as.length:=(List.takeWhile_sublist _).length_le
def Turned (ops ops':Array Oper):Prop:=ops'=ops∨ ∃π σ,ops'=turnL π σ ops∧turnB π σ ops.size=true
theorem turn_size {π σ:List Nat} {ops:Array Oper} (h:turnB π σ ops.size=true):(turnL π σ ops).size=ops.size∧π.length=ops.size∧σ.length=ops.size:=by
 simp only [turnB,Bool.and_eq_true,decide_eq_true_eq] at h
 exact ⟨by simp [turnL,h.1.1],h.1.1,h.1.2⟩
theorem turn_facts {π σ:List Nat} {n:Nat} (h:turnB π σ n=true) {i:Nat} (hi:i<n):π.getD i n<n∧turnN σ i<n∧turnN σ (π.getD i n)=i∧π.getD (turnN σ i) n=i:=by
 simp only [turnB,Bool.and_eq_true,decide_eq_true_eq,List.all_eq_true,List.mem_range] at h
 obtain ⟨⟨⟨h1,h2⟩,h3⟩,h4⟩:=h.2 i hi
 have e: ∀j,j<n→turnN σ j=σ.getD j n:=fun j hj=>by
  have hj':j<σ.length:=by rw [h.1.2];exact hj
  rw [turnN,if_pos hj']
  simp [List.getD,List.getElem?_eq_getElem hj']
 rw [e i hi,e _ h1]
 exact ⟨h1,h2,h3,h4⟩
theorem turn_at {π σ:List Nat} {ops:Array Oper} (h:turnB π σ ops.size=true) {k:Nat} (hk:k<ops.size):(turnL π σ ops)[k]? =(ops[π.getD k ops.size]?).map (turnO σ):=by
 obtain ⟨h1,h2,h3⟩:=turn_size h
 have h4:=(turn_facts h hk).1
 have hk':k<π.length:=by omega
 have e:π.getD k ops.size=π[k]:=by simp [List.getD,List.getElem?_eq_getElem hk']
 rw [e] at h4⊢
 simp [turnL,hk',h4]
theorem turn_wanted {π σ:List Nat} {ops:Array Oper} (h:turnB π σ ops.size=true) (o:Oper) (tmps:Array Value):Region.wanted (turnO σ o) (yielded (turnL π σ ops) tmps)=Region.wanted o (yielded ops tmps):=by
 obtain ⟨h1,h2,h3⟩:=turn_size h
 unfold Region.wanted turnO
 simp only
 cases hg:o.guard with
 |none=>rfl
 |some jb=>
  obtain ⟨j,b⟩:=jb
  simp only [Option.map_some]
  have:yielded (turnL π σ ops) tmps (turnN σ j)=yielded ops tmps j:=by
   unfold yielded
   by_cases hj:j<ops.size
   ·obtain ⟨_,f2,_,f4⟩:=turn_facts h hj
    rw [turn_at h f2,f4]
    cases ops[j]? <;>rfl
   ·have e1:turnN σ j=j:=if_neg (by omega)
    rw [e1,Array.getElem?_eq_none (by omega),Array.getElem?_eq_none (by omega)]
  rw [this]
theorem turn_op {π σ:List Nat} {ops:Array Oper} (h:turnB π σ ops.size=true) {P:Program} {Q:Exit→Act→World→Prop} {K:Act→World→Prop} {a:Act} {w:World} {i:Nat} (hi:i<ops.size) (hh:wpOp P (turnL π σ ops) Q (turnN σ i) K a w):wpOp P ops Q i K a w:=by
 obtain ⟨_,f2,_,f4⟩:=turn_facts h hi
 unfold wpOp at hh⊢
 rw [turn_at h f2,f4] at hh
 rw [Array.getElem?_eq_getElem hi] at hh⊢
 simp only [Option.map_some] at hh⊢
 rw [turn_wanted h] at hh
 exact hh
theorem getD_in {l:Array Bool} {i:Nat} (h:i<l.size) (a b:Bool):l.getD i a=l.getD i b:=by simp [Array.getD,h]
theorem getD_out {l:Array Bool} {i:Nat} (h:l.size≤i) (a:Bool):l.getD i a=a:=by simp [Array.getD,Nat.not_lt.2 h]
theorem wpAny_turn {π σ:List Nat} {ops:Array Oper} (h:turnB π σ ops.size=true) {P:Program} {Q:Exit→Act→World→Prop}: ∀(fuel:Nat) (l l':Array Bool) (a:Act) (w:World),l.size=ops.size→l'.size=ops.size→(∀i,i<ops.size→l.getD i true=l'.getD (turnN σ i) true)→
  wpAny P .any (turnL π σ ops) Q fuel l' a w→wpAny P .any ops Q fuel l a w:=by
 obtain ⟨s1,s2,s3⟩:=turn_size h
 have hon: ∀(l l':Array Bool),l.size=ops.size→l'.size=ops.size→(∀i,i<ops.size→l.getD i true=l'.getD (turnN σ i) true)→ ∀j,l.getD j false=l'.getD (turnN σ j) false:=fun l l' hl hl' hr j=>by
  by_cases hj:j<ops.size
  ·obtain ⟨_,f2,_,_⟩:=turn_facts h hj
   rw [getD_in (by omega) false true,getD_in (i:=turnN σ j) (by omega) false true]
   exact hr j hj
  ·have e1:turnN σ j=j:=if_neg (by omega)
   rw [e1,getD_out (by omega),getD_out (by omega)]
 have hto: ∀(l l':Array Bool),l.size=ops.size→l'.size=ops.size→(∀i,i<ops.size→l.getD i true=l'.getD (turnN σ i) true)→ ∀i,i<ops.size→(i∈Region.ready .any ops l↔turnN σ i∈Region.ready .any (turnL π σ ops) l'):=fun l l' hl hl' hr i hi=>by
  obtain ⟨_,f2,_,f4⟩:=turn_facts h hi
  rw [mem_ready,mem_ready,turn_at h f2,f4,hr i hi,Array.getElem?_eq_getElem hi]
  constructor
  ·rintro ⟨q1,o,q2,q3⟩
   cases q2
   refine ⟨q1,_,rfl,fun e he hb=>?_⟩
   simp only [turnO,Array.mem_map] at he
   obtain ⟨e0,he0,rfl⟩:=he
   have:=q3 e0 he0 hb
   rw [hon l l' hl hl' hr] at this
   exact this
  ·rintro ⟨q1,o,q2,q3⟩
   cases q2
   refine ⟨q1,_,rfl,fun e he hb=>?_⟩
   rw [hon l l' hl hl' hr]
   exact q3 {e with on:=turnN σ e.on} (by simp only [turnO,Array.mem_map];exact ⟨e,he,rfl⟩) hb
 have hnil: ∀(l l':Array Bool),l.size=ops.size→l'.size=ops.size→(∀i,i<ops.size→l.getD i true=l'.getD (turnN σ i) true)→(Region.ready .any ops l=[]↔Region.ready .any (turnL π σ ops) l'=[]):=fun l l' hl hl' hr=>by
  simp only [List.eq_nil_iff_forall_not_mem]
  constructor
  ·intro hq k hk
   have hk':k<ops.size:=by
    obtain ⟨_,o,ho,_⟩:=mem_ready.1 hk
    have:=(Array.getElem?_eq_some_iff.1 ho).1
    omega
   obtain ⟨f1,_,f3,_⟩:=turn_facts h hk'
   exact hq _ ((hto l l' hl hl' hr _ f1).2 (by rw [f3];exact hk))
  ·intro hq i hi
   have hi':i<ops.size:=by
    obtain ⟨_,o,ho,_⟩:=mem_ready.1 hi
    exact (Array.getElem?_eq_some_iff.1 ho).1
   exact hq _ ((hto l l' hl hl' hr i hi').1 hi)
 intro fuel
 induction fuel with
 |zero=>
  intro l l' a w hl hl' hr hh
  exact ⟨(hnil l l' hl hl' hr).2 hh.1,hh.2⟩
 |succ fuel ih=>
  intro l l' a w hl hl' hr hh
  refine ⟨fun hq=>hh.1 ((hnil l l' hl hl' hr).1 hq),fun i hi=>?_⟩
  have hi':i<ops.size:=by
   obtain ⟨_,o,ho,_⟩:=mem_ready.1 hi
   exact (Array.getElem?_eq_some_iff.1 ho).1
  have hh2:=hh.2 _ ((hto l l' hl hl' hr i hi').1 hi)
  refine turn_op h hi' (wpOp_mono (fun a w=>ih _ _ a w (by simp;exact hl) (by simp;exact hl') fun j hj=>?_) hh2)
  obtain ⟨_,f2,_,f4⟩:=turn_facts h hi'
  obtain ⟨_,g2,_,g4⟩:=turn_facts h hj
  by_cases e:j=i
  ·subst e
   simp [Array.getD,hl,hl',hj,g2]
  ·have e2:turnN σ j≠turnN σ i:=fun q=>e (by rw [←g4,q,f4])
   have:=hr j hj
   simp only [Array.getD,hl,hl',hj,g2,Array.size_setIfInBounds,dif_pos] at this⊢
   simp only [Array.getInternal_eq_getElem] at this⊢
   rw [Array.getElem_setIfInBounds_ne (by omega) (Ne.symm e),Array.getElem_setIfInBounds_ne (by omega) (Ne.symm e2)]
   exact this
theorem wpAny_turned {ops ops':Array Oper} (h:Turned ops ops') {P:Program} {Q:Exit→Act→World→Prop} {a:Act} {w:World} (hh:wpAny P .any ops' Q ops'.size (Array.replicate ops'.size false) a w):wpAny P .any ops Q ops.size (Array.replicate ops.size false) a w:=by
 rcases h with rfl|⟨π,σ,rfl,hB⟩
 ·exact hh
 ·obtain ⟨s1,_,_⟩:=turn_size hB
  rw [s1] at hh
  refine wpAny_turn hB _ _ _ a w (by simp) (by simp) (fun i hi=>?_) hh
  obtain ⟨_,f2,_,_⟩:=turn_facts hB hi
  simp [Array.getD,hi,f2]
theorem tr_region {d:Option Nat} {as:List AOper} (h:trCode Pr μ φ nt code=some (.region d as)): ∃id ops draw ops' as0,code= .region id ops draw∧optL (trOper Pr μ φ nt ops') ops'.toList=some as0∧
  ((draw=false∧ops'=ops∧d=none∧as=as0)∨(draw=true∧Turned ops ops'∧ ∃m,d=some m∧as=convL ops' as0 m∧Pr.follows .mixedOrders=true∧drawOk ops' as0 m=true∧m≤ops'.size)):=by
 cases code<;>simp only [trCode] at h<;>try (cases h;done)
 case region id ops draw=>
  unfold trRegion at h
  split at h
  ·rename_i as' h1
   split at h
   ·rename_i hd
    split at h
    ·rename_i hc
     rw [Bool.and_eq_true] at hc
     cases h
     refine ⟨id,ops,draw,ops,as',rfl,h1, .inr ⟨hd, .inl rfl,_,rfl,rfl,hc.1,hc.2,?_⟩⟩
     have h2:=optL_len h1
     have h3:=headN_le as'
     simp at h2
     omega
    ·unfold trTurned at h
     simp only at h
     split at h
     ·rename_i as1 h4
      split at h
      ·rename_i hc
       rw [Bool.and_eq_true,Bool.and_eq_true] at hc
       cases h
       refine ⟨id,ops,draw,_,as1,rfl,h4, .inr ⟨hd, .inr ⟨_,_,rfl,hc.2.1⟩,_,rfl,rfl,hc.1,hc.2.2,?_⟩⟩
       have h2:=optL_len h4
       have h3:=headN_le as1
       simp at h2
       omega
      ·cases h
     ·cases h
   ·rename_i hd
    cases h
    exact ⟨id,ops,draw,ops,_,rfl,h1, .inl ⟨by simpa using hd,rfl,rfl,rfl⟩⟩
  ·cases h
 case seq x y=>split at h<;>cases h
 case cond c x y=>split at h<;>cases h
 case block id x=>obtain ⟨_,_,h⟩:=map_some_inj h;cases h
 case loop x=>obtain ⟨_,_,h⟩:=map_some_inj h;cases h
theorem tr_region_no {ops:Array Oper} {draw:Bool} {c:ACode} (h:trRegion Pr μ φ nt ops draw=some c): ∃d as,c= .region d as:=by
 unfold trRegion at h
 split at h
 ·split at h
  ·split at h
   ·cases h;exact ⟨_,_,rfl⟩
   ·unfold trTurned at h
    simp only at h
    split at h
    ·split at h
     ·cases h;exact ⟨_,_,rfl⟩
     ·cases h
    ·cases h
  ·cases h;exact ⟨_,_,rfl⟩
 ·cases h
theorem tr_skip (h:trCode Pr μ φ nt code=some .skip):code= .skip:=by
 cases code<;>simp only [trCode] at h<;>try (cases h;done)
 case skip=>rfl
 case region id ops draw=>obtain ⟨_,_,h⟩:=tr_region_no h;cases h
 case seq x y=>split at h<;>cases h
 case cond c x y=>split at h<;>cases h
 case block id x=>obtain ⟨_,_,h⟩:=map_some_inj h;cases h
 case loop x=>obtain ⟨_,_,h⟩:=map_some_inj h;cases h
theorem tr_seq {a b:ACode} (h:trCode Pr μ φ nt code=some (.seq a b)): ∃x y,code= .seq x y∧trCode Pr μ φ nt x=some a∧trCode Pr μ φ nt y=some b:=by
 cases code<;>simp only [trCode] at h<;>try (cases h;done)
 case region id ops draw=>obtain ⟨_,_,h⟩:=tr_region_no h;cases h
 case seq x y=>
  split at h
  ·rename_i h1 h2
   cases h
   exact ⟨x,y,rfl,h1,h2⟩
  ·cases h
 case cond c x y=>split at h<;>cases h
 case block id x=>obtain ⟨_,_,h⟩:=map_some_inj h;cases h
 case loop x=>obtain ⟨_,_,h⟩:=map_some_inj h;cases h
theorem tr_cond {c:Opd} {a b:ACode} (h:trCode Pr μ φ nt code=some (.cond c a b)): ∃q x y,code= .cond q x y∧trOpd μ φ q=some c∧trCode Pr μ φ nt x=some a∧trCode Pr μ φ nt y=some b:=by
 cases code<;>simp only [trCode] at h<;>try (cases h;done)
 case region id ops draw=>obtain ⟨_,_,h⟩:=tr_region_no h;cases h
 case seq x y=>split at h<;>cases h
 case cond q x y=>
  split at h
  ·rename_i h1 h2 h3
   cases h
   exact ⟨q,x,y,rfl,h1,h2,h3⟩
  ·cases h
 case block id x=>obtain ⟨_,_,h⟩:=map_some_inj h;cases h
 case loop x=>obtain ⟨_,_,h⟩:=map_some_inj h;cases h
theorem tr_block {id:Nat} {a:ACode} (h:trCode Pr μ φ nt code=some (.block id a)): ∃x,code= .block id x∧trCode Pr μ φ nt x=some a:=by
 cases code<;>simp only [trCode] at h<;>try (cases h;done)
 case region id ops draw=>obtain ⟨_,_,h⟩:=tr_region_no h;cases h
 case seq x y=>split at h<;>cases h
 case cond c x y=>split at h<;>cases h
 case block id x=>obtain ⟨_,h1,h⟩:=map_some_inj h;cases h;exact ⟨x,rfl,h1⟩
 case loop x=>obtain ⟨_,_,h⟩:=map_some_inj h;cases h
theorem tr_loop {a:ACode} (h:trCode Pr μ φ nt code=some (.loop a)): ∃x,code= .loop x∧trCode Pr μ φ nt x=some a:=by
 cases code<;>simp only [trCode] at h<;>try (cases h;done)
 case region id ops draw=>obtain ⟨_,_,h⟩:=tr_region_no h;cases h
 case seq x y=>split at h<;>cases h
 case cond c x y=>split at h<;>cases h
 case block id x=>obtain ⟨_,_,h⟩:=map_some_inj h;cases h
 case loop x=>obtain ⟨_,h1,h⟩:=map_some_inj h;cases h;exact ⟨x,rfl,h1⟩
theorem tr_exit {id:Nat} (h:trCode Pr μ φ nt code=some (.exit id)):code= .exit id:=by
 cases code<;>simp only [trCode] at h<;>try (cases h;done)
 case region id ops draw=>obtain ⟨_,_,h⟩:=tr_region_no h;cases h
 case seq x y=>split at h<;>cases h
 case cond c x y=>split at h<;>cases h
 case block id x=>obtain ⟨_,_,h⟩:=map_some_inj h;cases h
 case loop x=>obtain ⟨_,_,h⟩:=map_some_inj h;cases h
 case exit id=>cases h;rfl
theorem tr_ret (h:trCode Pr μ φ nt code=some .ret):code= .ret:=by
 cases code<;>simp only [trCode] at h<;>try (cases h;done)
 case region id ops draw=>obtain ⟨_,_,h⟩:=tr_region_no h;cases h
 case seq x y=>split at h<;>cases h
 case cond c x y=>split at h<;>cases h
 case block id x=>obtain ⟨_,_,h⟩:=map_some_inj h;cases h
 case loop x=>obtain ⟨_,_,h⟩:=map_some_inj h;cases h
 case ret=>rfl
theorem fresh_next {β β':Ren} {H H1 H':AHeap} {w w1:World} (hg:Good φ β H w β' H1 w1) (hn:H.n≤H1.n) (hfr: ∀b,H.n≤b→b<H'.n→β b=none): ∀b,H1.n≤b→b<H'.n→β' b=none:=by
 intro b h1 h2
 cases hb:β' b with
 |none=>rfl
 |some L=>
  rcases hg.2.new b L hb with h|h
  ·rw [hfr b (by omega) h2] at h;cases h
  ·omega
theorem results_ok {fn:Func} {rs:List ARes} {f:Fr} {H:AHeap} {vs:List Value} {β:Ren} {a:Act} {w:World} (ht:optL (trRes Pr) fn.results.toList=some rs) (hr:resAll f H rs=some vs) (hR:Rel φ β H w) (hf:FRel φ β nt f a):
  ∃v',(results fn a.tmps).run Pr w= .ok v' w∧VR φ β (tup vs) v':=by
 have key: ∀(l:List ResultVar) (rs:List ARes) (vs:List Value),optL (trRes Pr) l=some rs→resAll f H rs=some vs→
   ∃ds:List Value,(l.mapM (fun| .tmp t=>pure (a.tmps.getD t undef)| .cell p t=>do loadVar t (←asAddr (a.tmps.getD p undef)):ResultVar→Sem Value)).run Pr w= .ok ds w∧VRL φ β vs ds:=by
  intro l
  induction l with
  |nil=>
   intro rs vs h1 h2
   simp [optL] at h1
   subst h1
   simp [resAll] at h2
   subst h2
   exact ⟨[],by simp,VRL.nil⟩
  |cons r l ih=>
   intro rs vs h1 h2
   simp only [optL] at h1
   split at h1
   ·rename_i q qs h3 h4
    cases h1
    simp only [resAll] at h2
    split at h2
    ·rename_i v vs' h5 h6
     cases h2
     obtain ⟨ds,h7,h8⟩:=ih qs vs' h4 h6
     have hone: ∃d,((fun| .tmp t=>pure (a.tmps.getD t undef)| .cell p t=>do loadVar t (←asAddr (a.tmps.getD p undef)):ResultVar→Sem Value) r).run Pr w= .ok d w∧VR φ β v d:=by
      cases r with
      |tmp t=>
       simp only [trRes,Option.some.injEq] at h3
       subst h3
       simp only [resOf,Option.some.injEq] at h5
       subst h5
       exact ⟨_,rfl,hf.val t⟩
      |cell p t=>
       simp only [trRes] at h3
       obtain ⟨n,hn,rfl⟩:=map_some_inj h3
       simp only [resOf] at h5
       have hp:=hf.val p
       split at h5
       ·rename_i b o hfp
        rw [hfp] at hp
        obtain ⟨g,base,N,hL,hle,he⟩:=hp.ptr_inv
        split at h5
        ·rename_i blk hb
         obtain ⟨d,hd,hr'⟩:=getN_load (Pr:=Pr) hR hb hL hn h5
         refine ⟨d,?_,hr'⟩
         show (do loadVar t (←asAddr (a.tmps.getD p undef)):Sem Value).run Pr w=_
         rw [he]
         simp [asAddr,hd]
        ·cases h5
       ·cases h5
     obtain ⟨d,h9,h10⟩:=hone
     refine ⟨d::ds,?_,VRL.cons h10 h8⟩
     rw [List.mapM_cons]
     simp only [Sem.run_bind,h9,h7,Result.andThen_ok,Sem.run_pure]
    ·cases h2
   ·cases h1
 obtain ⟨ds,h1,h2⟩:=key _ rs vs ht hr
 have hres:(results fn a.tmps).run Pr w= .ok (if h:ds.length=1 then ds[0] else .tuple ⟨ds⟩) w:=by
  unfold results
  rw [Array.mapM_eq_mapM_toList]
  simp only [Sem.run_bind,Sem.run_map,Sem.run_pure]
  refine (congrArg (fun (r:Result (List Value))=>(r.andThen fun a w'=>Result.ok a.toArray w').andThen fun (a:Array Value) w'=>Result.ok (if h:a.size=1 then a[0] else Value.tuple a) w') h1).trans ?_
  simp
 refine ⟨_,hres,?_⟩
 have hl:=h2.1
 match vs,ds,h2 with
 |[],[],h2=>exact .tuple rfl (fun i c d h=>by simp at h)
 |[v],[d],h2=>exact h2.2 0 v d rfl rfl
 |v::v2::vs,d::d2::ds,h2=>exact .tuple h2.1 h2.2
theorem frame0_rel {β:Ren} {args as:List Value} (h:VRL φ β args as) (n:Nat):FRel φ β n (frame0 args) {tmps:=(⟨as⟩:Array Value)++Array.replicate (n-(⟨as⟩:Array Value).size) undef,defers:=[]}:=by
 refine ⟨by simp;omega,fun t=>?_⟩
 unfold frame0
 rcases Nat.lt_or_ge t args.length with ht|ht
 ·have ht':t<as.length:=by have:=h.1;omega
  have e1:args.getD t undef=args[t]:=by simp [List.getD,ht]
  have e2:((⟨as⟩:Array Value)++Array.replicate (n-(⟨as⟩:Array Value).size) undef).getD t undef=as[t]:=by
   simp [Array.getD,Array.getElem_append,ht',show t<as.length+(n-as.length) by omega]
  rw [e1]
  show VR φ β _ (((⟨as⟩:Array Value)++Array.replicate (n-(⟨as⟩:Array Value).size) undef).getD t undef)
  rw [e2]
  exact h.2 t _ _ (List.getElem?_eq_getElem ht) (List.getElem?_eq_getElem ht')
 ·have ht':as.length≤t:=by have:=h.1;omega
  have e1:args.getD t undef=undef:=by simp [List.getD,List.getElem?_eq_none ht]
  have e2:((⟨as⟩:Array Value)++Array.replicate (n-(⟨as⟩:Array Value).size) undef).getD t undef=undef:=by
   rw [Array.getD_eq_getD_getElem?,Array.getElem?_append_right (by simpa using ht'),Array.getElem?_replicate]
   split<;>rfl
  rw [e1]
  show VR φ β _ (((⟨as⟩:Array Value)++Array.replicate (n-(⟨as⟩:Array Value).size) undef).getD t undef)
  rw [e2]
  exact .plain rfl
variable {Γ:Env} {X:Outer}
theorem sound (hΓ: ∀g fn q,Γ g=some fn→φ g=some q→trFunc Pr μ φ q=some fn) (hX: ∀g args H v H',X g args H v H'→SimCal Pr φ g args H v H')
  {g:Nat} {args:List Value} {H:AHeap} {v:Value} {H':AHeap} (h:Cal Γ X g args H v H'):SimCal Pr φ g args H v H':=by
 refine Cal.rec (motive_1:=fun c f H ex f' H' _=>SimC Pr μ φ c f H ex f' H') (motive_2:=fun d ops f H f' H' _=>SChain Pr μ φ d ops f H f' H') (motive_3:=fun o f H f' H' _=>SimOne Pr μ φ o f H f' H'∧Fact Pr μ φ o f H f' H')
  (motive_4:=fun g args H v H' _=>SimCal Pr φ g args H v H') ?_ ?_ ?_ ?_ ?_ ?_ ?_ ?_ ?_ ?_ ?_ ?_ ?_ ?_ ?_ ?_ ?_ ?_ ?_ ?_ h
 ·
  intro f H
  refine ⟨Nat.le_refl _,id,0,fun nt β a w hR hf hfr hd Q hQ=>⟨fun code ht=>?_,fun a0 code hc=>by cases hc⟩⟩
  rw [tr_skip ht]
  exact wp_skip (hQ β a w (.refl hR) hf hd)
 ·
  intro d ops f H f' H' _ hch
  refine ⟨hch.n,hch.fin,0,fun nt β a w hR hf hfr hd Q hQ=>⟨fun code ht=>?_,fun a0 code hc=>by cases hc⟩⟩
  obtain ⟨id,os,draw,os',as0,rfl,h1,⟨rfl,rfl,rfl,rfl⟩|⟨rfl,htd,m,rfl,rfl,h2,h3,h4⟩⟩:=tr_region ht
  ·exact wp_region (seq_ops hch _ (matched_all h1) β a w hR hf hfr hd Q hQ)
  ·have hg:=Good.drawn hR (w.drawn+1)
   exact wp_region_any h2 (wpAny_turned htd<|draw_ops hch h1 h3 h4 hg.1 hf hfr hd Q fun β' a' w' hg' hf' hd'=>hQ β' a' w' (hg.trans hg') hf' hd')
 ·
  intro a b f H f1 H1 ex f' H' _ _ ih1 ih2
  obtain ⟨n1,fin1,k1,s1⟩:=ih1
  obtain ⟨n2,fin2,k2,s2⟩:=ih2
  refine ⟨Nat.le_trans n1 n2,fun h=>fin2 (fin1 h),0,fun nt β a w hR hf hfr hd Q hQ=>⟨fun code ht=>?_,fun a0 code hc=>by cases hc⟩⟩
  obtain ⟨x,y,rfl,h1,h2⟩:=tr_seq ht
  refine wp_seq ((s1 nt β a w hR hf (fun b h3 h4=>hfr b h3 (by omega)) hd _ fun β' a' w' hg hf' hd'=>?_).1 x h1)
  exact (s2 nt β' a' w' hg.1 hf' (fresh_next hg n1 hfr) hd' Q fun β2 a2 w2 hg2 hf2 hd2=>hQ β2 a2 w2 (hg.trans hg2) hf2 hd2).1 y h2
 ·
  intro a b f H ex f' H' _ hne ih1
  obtain ⟨n1,fin1,k1,s1⟩:=ih1
  refine ⟨n1,fin1,0,fun nt β a w hR hf hfr hd Q hQ=>⟨fun code ht=>?_,fun a0 code hc=>by cases hc⟩⟩
  obtain ⟨x,y,rfl,h1,h2⟩:=tr_seq ht
  refine wp_seq ((s1 nt β a w hR hf hfr hd _ fun β' a' w' hg hf' hd'=>?_).1 x h1)
  have:=hQ β' a' w' hg hf' hd'
  cases ex with
  |normal=>exact absurd rfl hne
  |exit id=>exact this
  |ret=>exact this
 ·
  intro c a b f H t ex f' H' hc _ ih
  obtain ⟨n1,fin1,k1,s1⟩:=ih
  refine ⟨n1,fin1,0,fun nt β a w hR hf hfr hd Q hQ=>⟨fun code ht=>?_,fun a0 code hc=>by cases hc⟩⟩
  obtain ⟨q,x,y,rfl,h1,h2,h3⟩:=tr_cond ht
  have hv:VR φ β (ev f c) (a.eval q):=by
   refine trOpd_vr (ρ:=a.eval) (ρa:=ev f) (fun t=>hf.val t) (fun _=>rfl) (fun _=>rfl) (fun _=>rfl) (fun _=>rfl) h1
  rw [hc] at hv
  refine wp_cond hv.bool ?_
  cases t
  ·exact (s1 nt β a w hR hf hfr hd Q hQ).1 y h3
  ·exact (s1 nt β a w hR hf hfr hd Q hQ).1 x h2
 ·
  intro id a f H ex f' H' _ hne ih
  obtain ⟨n1,fin1,k1,s1⟩:=ih
  refine ⟨n1,fin1,0,fun nt β a w hR hf hfr hd Q hQ=>⟨fun code ht=>?_,fun a0 code hc=>by cases hc⟩⟩
  obtain ⟨x,rfl,h1⟩:=tr_block ht
  refine wp_block ((s1 nt β a w hR hf hfr hd _ fun β' a' w' hg hf' hd'=>?_).1 x h1)
  have:=hQ β' a' w' hg hf' hd'
  cases ex with
  |normal=>exact this
  |exit id'=>
   show (if id'=id then Q .normal a' w' else Q (.exit id') a' w')
   rw [if_neg (fun e=>hne (by rw [e]))]
   exact this
  |ret=>exact this
 ·
  intro id a f H f' H' _ ih
  obtain ⟨n1,fin1,k1,s1⟩:=ih
  refine ⟨n1,fin1,0,fun nt β a w hR hf hfr hd Q hQ=>⟨fun code ht=>?_,fun a0 code hc=>by cases hc⟩⟩
  obtain ⟨x,rfl,h1⟩:=tr_block ht
  refine wp_block ((s1 nt β a w hR hf hfr hd _ fun β' a' w' hg hf' hd'=>?_).1 x h1)
  show (if id=id then Q .normal a' w' else Q (.exit id) a' w')
  rw [if_pos rfl]
  exact hQ β' a' w' hg hf' hd'
 ·
  intro a f H f1 H1 ex f' H' _ _ ih1 ih2
  obtain ⟨n1,fin1,k1,s1⟩:=ih1
  obtain ⟨n2,fin2,k2,s2⟩:=ih2
  have hround: ∀(nt:Nat) (β:Ren) (a1:Act) (w:World),Rel φ β H w→FRel φ β nt f a1→(∀b,H.n≤b→b<H'.n→β b=none)→a1.defers=[]→
    ∀(Q:Exit→Act→World→Prop),(∀β' a' w',Good φ β H w β' H' w'→FRel φ β' nt f' a'→a'.defers=[]→Q (exOf ex) a' w')→ ∀code,trCode Pr μ φ nt code=some a→Code.rounds Pr code Q (k2+1) a1 w:=by
   intro nt β a1 w hR hf hfr hd Q hQ code ht
   rw [rounds_succ]
   refine (s1 nt β a1 w hR hf (fun b h3 h4=>hfr b h3 (by omega)) hd _ fun β' a' w' hg hf' hd'=>?_).1 code ht
   exact (s2 nt β' a' w' hg.1 hf' (fresh_next hg n1 hfr) hd' Q fun β2 a2 w2 hg2 hf2 hd2=>hQ β2 a2 w2 (hg.trans hg2) hf2 hd2).2 a code rfl ht
  refine ⟨Nat.le_trans n1 n2,fun h=>fin2 (fin1 h),k2+1,fun nt β a1 w hR hf hfr hd Q hQ=>⟨fun code ht=>?_,fun a0 code hc ht=>?_⟩⟩
  ·obtain ⟨x,rfl,h1⟩:=tr_loop ht
   exact wp_loop_rounds _ (hround nt β a1 w hR hf hfr hd Q hQ x h1)
  ·cases hc
   exact hround nt β a1 w hR hf hfr hd Q hQ code ht
 ·
  intro a f H ex f' H' _ hne ih
  obtain ⟨n1,fin1,k1,s1⟩:=ih
  have hround: ∀(nt:Nat) (β:Ren) (a1:Act) (w:World),Rel φ β H w→FRel φ β nt f a1→(∀b,H.n≤b→b<H'.n→β b=none)→a1.defers=[]→
    ∀(Q:Exit→Act→World→Prop),(∀β' a' w',Good φ β H w β' H' w'→FRel φ β' nt f' a'→a'.defers=[]→Q (exOf ex) a' w')→ ∀code,trCode Pr μ φ nt code=some a→Code.rounds Pr code Q (0+1) a1 w:=by
   intro nt β a1 w hR hf hfr hd Q hQ code ht
   rw [rounds_succ]
   refine (s1 nt β a1 w hR hf hfr hd _ fun β' a' w' hg hf' hd'=>?_).1 code ht
   have:=hQ β' a' w' hg hf' hd'
   cases ex with
   |normal=>exact absurd rfl hne
   |exit id=>exact this
   |ret=>exact this
  refine ⟨n1,fin1,0+1,fun nt β a1 w hR hf hfr hd Q hQ=>⟨fun code ht=>?_,fun a0 code hc ht=>?_⟩⟩
  ·obtain ⟨x,rfl,h1⟩:=tr_loop ht
   exact wp_loop_rounds _ (hround nt β a1 w hR hf hfr hd Q hQ x h1)
  ·cases hc
   exact hround nt β a1 w hR hf hfr hd Q hQ code ht
 ·
  intro id f H
  refine ⟨Nat.le_refl _,_root_.id,0,fun nt β a w hR hf hfr hd Q hQ=>⟨fun code ht=>?_,fun a0 code hc=>by cases hc⟩⟩
  rw [tr_exit ht]
  exact wp_exit (hQ β a w (.refl hR) hf hd)
 ·
  intro f H
  refine ⟨Nat.le_refl _,id,0,fun nt β a w hR hf hfr hd Q hQ=>⟨fun code ht=>?_,fun a0 code hc=>by cases hc⟩⟩
  rw [tr_ret ht]
  exact wp_ret (hQ β a w (.refl hR) hf hd)
 ·intro d f H;exact .nil
 ·intro d o rest f H f1 H1 f' H' _ hx _ ih1 ih2;exact .cons ih1 hx ih2
 ·intro o f H hw;exact ⟨sim_skip hw,⟨fun (h:wantedA o.guard f=true)=>(by rw [hw] at h;cases h),fun _=>⟨rfl,rfl⟩,fun g args fl _=>⟨sim_skip hw,fun _ _ _ _ _=>rfl⟩⟩⟩
 ·intro o f H v H' hw ha;exact ⟨sim_op hw ha,⟨fun _ _=>⟨v,ha,rfl⟩,fun (h:wantedA o.guard f=false)=>(by rw [hw] at h;cases h),fun g args fl ho=>by rw [ho] at ha;simp [aOp] at ha⟩⟩
 ·intro o f H g args v H' hw ho _ ih;exact ⟨sim_call hw ho ih,⟨fun _ h=>(by rw [ho] at h;cases h),fun (h:wantedA o.guard f=false)=>(by rw [hw] at h;cases h),fun g args fl ho'=>by rw [ho] at ho';cases ho'⟩⟩
 ·intro o f H g cap caps args v H' hw ho hgv _ ih;exact ⟨sim_callv hw ho hgv ih,⟨fun _ h=>(by rw [ho] at h;cases h),fun (h:wantedA o.guard f=false)=>(by rw [hw] at h;cases h),fun g args fl ho'=>by rw [ho] at ho';cases ho'⟩⟩
 ·intro o f H g args fl v H' hw ho _ hs ih
  refine ⟨sim_callF hw ho ih,⟨fun _ h=>(by rw [ho] at h;cases h),fun (h:wantedA o.guard f=false)=>(by rw [hw] at h;cases h),fun g' args' fl' ho'=>?_⟩⟩
  rw [ho] at ho'
  cases ho'
  exact ⟨sim_call (ao:=⟨o.dst, .call g args,o.guard⟩) hw rfl ih,hs⟩
 ·
  intro g fn args H ex f' vs H' hg _ hex hres ih
  obtain ⟨n1,fin1,k1,s1⟩:=ih
  refine ⟨n1,fin1,fun q hq=>?_⟩
  have ht:=hΓ g fn q hg hq
  unfold trFunc at ht
  split at ht
  ·rename_i pf hpf
   split at ht
   ·cases ht
   ·rename_i hname
    split at ht
    ·rename_i c hc
     split at ht
     ·rename_i b rs h1 h2
      cases ht
      refine ⟨⟨pf,hpf,by rw [hc];rfl,by simpa using hname⟩,fun β as w hR hargs hfr=>?_⟩
      refine calls_of_wp hpf hc ?_
      refine (s1 pf.ntmps β _ w hR (frame0_rel hargs pf.ntmps) hfr rfl _ fun β' a' w' hgood hf' hd'=>?_).1 c h1
      obtain ⟨v',hv',hr⟩:=results_ok h2 hres hgood.1 hf'
      rcases hex with rfl|rfl
      ·exact ⟨hd',v',hv',β',v',rfl,hr,hgood⟩
      ·exact ⟨hd',v',hv',β',v',rfl,hr,hgood⟩
     ·cases ht
    ·cases ht
  ·cases ht
 ·intro g args H v H' hx;exact hX g args H v H' hx
end
end Go.Am
