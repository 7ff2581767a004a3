/- What the small machine runs, the model runs: code, functions, calls. -/
import Derived.Test.YtkapkmjofpoebaaAmDraw
set_option linter.unusedVariables false
set_option linter.unusedSimpArgs false
namespace Go.Am
open Go
def GH:Ex→Exit
 | .normal=> .normal
 | .exit id=> .exit id
 | .ret=> .ret
def acN (Pr:Program) (μ φ:fU) (c:aj) (f:Fr) (H:aA) (ex:Ex) (f':Fr) (H':aA):Prop:=
 H.n≤H'.n∧(Fin H→Fin H')∧ ∃n:Nat,∀(nt:Nat) (β:Ren) (a:Act) (w:World),Rel φ β H w→jW φ β nt f a→(∀b,H.n≤b→b<H'.n→β b=none)→a.defers=[]→
  ∀(Q:Exit→Act→World→Prop),(∀β' a' w',Good φ β H w β' H' w'→jW φ β' nt f' a'→a'.defers=[]→Q (GH ex) a' w')→
   (∀code,gI Pr μ φ nt code=some c→code.wp Pr Q a w)∧(∀a0 code,c= .loop a0→gI Pr μ φ nt code=some a0→Code.rounds Pr code Q n a w)
section
variable {Pr:Program} {μ φ:fU} {nt:Nat} {code:Code}
theorem acO {d:Option Nat} {as:List bT} (h:gI Pr μ φ nt code=some (.region d as)): ∃id ops draw as0,code= .region id ops draw∧iI (qI Pr μ φ nt ops) ops.toList=some as0∧
  ((draw=false∧d=none∧as=as0)∨(draw=true∧ ∃m,d=some m∧as=uD ops as0 m∧Pr.follows .mixedOrders=true∧zS ops as0 m=true∧m≤ops.size)):=by
 cases code<;>simp only [gI] at h<;>try (cases h;done)
 case region id ops draw=>
  unfold zT at h
  split at h
  ·rename_i as' h1
   split at h
   ·rename_i hd
    simp only at h
    split at h
    ·rename_i hc
     rw [Bool.and_eq_true] at hc
     cases h
     refine ⟨id,ops,draw,as',rfl,h1, .inr ⟨hd,_,rfl,rfl,hc.1,hc.2,?_⟩⟩
     have h2:=xg h1
     have h3:(as'.takeWhile fun a=> !Ns a.op&& !Nu a.op).length≤as'.length:=(List.takeWhile_sublist _).length_le
     simp at h2
     omega
    ·cases h
   ·rename_i hd
    cases h
    exact ⟨id,ops,draw,_,rfl,h1, .inl ⟨by simpa using hd,rfl,rfl⟩⟩
  ·cases h
 case seq x y=>split at h<;>cases h
 case cond c x y=>split at h<;>cases h
 case block id x=>obtain ⟨_,_,h⟩:=map_some_inj h;cases h
 case loop x=>obtain ⟨_,_,h⟩:=map_some_inj h;cases h
theorem acP (h:gI Pr μ φ nt code=some .skip):code= .skip:=by
 cases code<;>simp only [gI] at h<;>try (cases h;done)
 case skip=>rfl
 case region id ops draw=>
  unfold zT at h
  repeat' split at h
  all_goals first|(cases h;done)|(simp only at h;split at h<;>cases h)
 case seq x y=>split at h<;>cases h
 case cond c x y=>split at h<;>cases h
 case block id x=>obtain ⟨_,_,h⟩:=map_some_inj h;cases h
 case loop x=>obtain ⟨_,_,h⟩:=map_some_inj h;cases h
theorem xk {ops:Array Oper} {draw:Bool} {c:aj} (h:zT Pr μ φ nt ops draw=some c): ∃d as,c= .region d as:=by
 unfold zT at h
 split at h
 ·split at h
  ·simp only at h
   split at h
   ·cases h;exact ⟨_,_,rfl⟩
   ·cases h
  ·cases h;exact ⟨_,_,rfl⟩
 ·cases h
theorem Nv {a b:aj} (h:gI Pr μ φ nt code=some (.seq a b)): ∃x y,code= .seq x y∧gI Pr μ φ nt x=some a∧gI Pr μ φ nt y=some b:=by
 cases code<;>simp only [gI] at h<;>try (cases h;done)
 case region id ops draw=>obtain ⟨_,_,h⟩:=xk h;cases h
 case seq x y=>
  split at h
  ·rename_i h1 h2
   cases h
   exact ⟨x,y,rfl,h1,h2⟩
  ·cases h
 case cond c x y=>split at h<;>cases h
 case block id x=>obtain ⟨_,_,h⟩:=map_some_inj h;cases h
 case loop x=>obtain ⟨_,_,h⟩:=map_some_inj h;cases h
theorem acQ {c:aB} {a b:aj} (h:gI Pr μ φ nt code=some (.cond c a b)): ∃q x y,code= .cond q x y∧dw μ φ q=some c∧gI Pr μ φ nt x=some a∧gI Pr μ φ nt y=some b:=by
 cases code<;>simp only [gI] at h<;>try (cases h;done)
 case region id ops draw=>obtain ⟨_,_,h⟩:=xk h;cases h
 case seq x y=>split at h<;>cases h
 case cond q x y=>
  split at h
  ·rename_i h1 h2 h3
   cases h
   exact ⟨q,x,y,rfl,h1,h2,h3⟩
  ·cases h
 case block id x=>obtain ⟨_,_,h⟩:=map_some_inj h;cases h
 case loop x=>obtain ⟨_,_,h⟩:=map_some_inj h;cases h
theorem Nw {id:Nat} {a:aj} (h:gI Pr μ φ nt code=some (.block id a)): ∃x,code= .block id x∧gI Pr μ φ nt x=some a:=by
 cases code<;>simp only [gI] at h<;>try (cases h;done)
 case region id ops draw=>obtain ⟨_,_,h⟩:=xk h;cases h
 case seq x y=>split at h<;>cases h
 case cond c x y=>split at h<;>cases h
 case block id x=>obtain ⟨_,h1,h⟩:=map_some_inj h;cases h;exact ⟨x,rfl,h1⟩
 case loop x=>obtain ⟨_,_,h⟩:=map_some_inj h;cases h
theorem Ny {a:aj} (h:gI Pr μ φ nt code=some (.loop a)): ∃x,code= .loop x∧gI Pr μ φ nt x=some a:=by
 cases code<;>simp only [gI] at h<;>try (cases h;done)
 case region id ops draw=>obtain ⟨_,_,h⟩:=xk h;cases h
 case seq x y=>split at h<;>cases h
 case cond c x y=>split at h<;>cases h
 case block id x=>obtain ⟨_,_,h⟩:=map_some_inj h;cases h
 case loop x=>obtain ⟨_,h1,h⟩:=map_some_inj h;cases h;exact ⟨x,rfl,h1⟩
theorem acR {id:Nat} (h:gI Pr μ φ nt code=some (.exit id)):code= .exit id:=by
 cases code<;>simp only [gI] at h<;>try (cases h;done)
 case region id ops draw=>obtain ⟨_,_,h⟩:=xk h;cases h
 case seq x y=>split at h<;>cases h
 case cond c x y=>split at h<;>cases h
 case block id x=>obtain ⟨_,_,h⟩:=map_some_inj h;cases h
 case loop x=>obtain ⟨_,_,h⟩:=map_some_inj h;cases h
 case exit id=>cases h;rfl
theorem acS (h:gI Pr μ φ nt code=some .ret):code= .ret:=by
 cases code<;>simp only [gI] at h<;>try (cases h;done)
 case region id ops draw=>obtain ⟨_,_,h⟩:=xk h;cases h
 case seq x y=>split at h<;>cases h
 case cond c x y=>split at h<;>cases h
 case block id x=>obtain ⟨_,_,h⟩:=map_some_inj h;cases h
 case loop x=>obtain ⟨_,_,h⟩:=map_some_inj h;cases h
 case ret=>rfl
theorem Nz {β β':Ren} {H H1 H':aA} {w w1:World} (hg:Good φ β H w β' H1 w1) (hn:H.n≤H1.n) (hfr: ∀b,H.n≤b→b<H'.n→β b=none): ∀b,H1.n≤b→b<H'.n→β' b=none:=by
 intro b h1 h2
 cases hb:β' b with
 |none=>rfl
 |some L=>
  rcases hg.2.new b L hb with h|h
  ·rw [hfr b (by omega) h2] at h;cases h
  ·omega
theorem acT {fn:Func} {rs:List nR} {f:Fr} {H:aA} {vs:List Value} {β:Ren} {a:Act} {w:World} (ht:iI (zU Pr) fn.results.toList=some rs) (hr:aG f H rs=some vs) (hR:Rel φ β H w) (hf:jW φ β nt f a):
  ∃v',(results fn a.tmps).run Pr w= .ok v' w∧VR φ β (aH vs) v':=by
 have key: ∀(l:List ResultVar) (rs:List nR) (vs:List Value),iI (zU Pr) l=some rs→aG f H rs=some vs→
   ∃ds:List Value,(l.mapM (fun| .tmp t=>pure (a.tmps.getD t undef)| .cell p t=>do loadVar t (←asAddr (a.tmps.getD p undef)):ResultVar→Sem Value)).run Pr w= .ok ds w∧bI φ β vs ds:=by
  intro l
  induction l with
  |nil=>
   intro rs vs h1 h2
   simp [iI] at h1
   subst h1
   simp [aG] at h2
   subst h2
   exact ⟨[],by simp,bI.nil⟩
  |cons r l ih=>
   intro rs vs h1 h2
   simp only [iI] at h1
   split at h1
   ·rename_i q qs h3 h4
    cases h1
    simp only [aG] at h2
    split at h2
    ·rename_i v vs' h5 h6
     cases h2
     obtain ⟨ds,h7,h8⟩:=ih qs vs' h4 h6
     have hone: ∃d,((fun| .tmp t=>pure (a.tmps.getD t undef)| .cell p t=>do loadVar t (←asAddr (a.tmps.getD p undef)):ResultVar→Sem Value) r).run Pr w= .ok d w∧VR φ β v d:=by
      cases r with
      |tmp t=>
       simp only [zU,Option.some.injEq] at h3
       subst h3
       simp only [aO,Option.some.injEq] at h5
       subst h5
       exact ⟨_,rfl,hf.val t⟩
      |cell p t=>
       simp only [zU] at h3
       obtain ⟨n,hn,rfl⟩:=map_some_inj h3
       simp only [aO] at h5
       have hp:=hf.val p
       split at h5
       ·rename_i b o hfp
        rw [hfp] at hp
        obtain ⟨g,base,N,hL,he⟩:=hp.jH
        split at h5
        ·rename_i blk hb
         obtain ⟨d,hd,hr'⟩:=NC (Pr:=Pr) hR hb hL hn h5
         refine ⟨d,?_,hr'⟩
         show (do loadVar t (←asAddr (a.tmps.getD p undef)):Sem Value).run Pr w=_
         rw [he]
         simp [asAddr,hd]
        ·cases h5
       ·cases h5
     obtain ⟨d,h9,h10⟩:=hone
     refine ⟨d::ds,?_,bI.cons h10 h8⟩
     rw [List.mapM_cons]
     simp only [Sem.run_bind,h9,h7,Result.andThen_ok,Sem.run_pure]
    ·cases h2
   ·cases h1
 obtain ⟨ds,h1,h2⟩:=key _ rs vs ht hr
 have hres:(results fn a.tmps).run Pr w= .ok (if h:ds.length=1 then ds[0] else .tuple ⟨ds⟩) w:=by
  unfold results
  rw [Array.mapM_eq_mapM_toList]
  simp only [Sem.run_bind,Sem.run_map,Sem.run_pure]
  refine (congrArg (fun (r:Result (List Value))=>(r.andThen fun a w'=>Result.ok a.toArray w').andThen fun (a:Array Value) w'=>Result.ok (if h:a.size=1 then a[0] else Value.tuple a) w') h1).trans ?_
  simp
 refine ⟨_,hres,?_⟩
 have hl:=h2.1
 match vs,ds,h2 with
 |[],[],h2=>exact .tuple rfl (fun i c d h=>by simp at h)
 |[v],[d],h2=>exact h2.2 0 v d rfl rfl
 |v::v2::vs,d::d2::ds,h2=>exact .tuple h2.1 h2.2
theorem acU {β:Ren} {args as:List Value} (h:bI φ β args as) (n:Nat):jW φ β n (lU args) {tmps:=(⟨as⟩:Array Value)++Array.replicate (n-(⟨as⟩:Array Value).size) undef,defers:=[]}:=by
 refine ⟨by simp;omega,fun t=>?_⟩
 unfold lU
 rcases Nat.lt_or_ge t args.length with ht|ht
 ·have ht':t<as.length:=by have:=h.1;omega
  have e1:args.getD t undef=args[t]:=by simp [List.getD,ht]
  have e2:((⟨as⟩:Array Value)++Array.replicate (n-(⟨as⟩:Array Value).size) undef).getD t undef=as[t]:=by
   simp [Array.getD,Array.getElem_append,ht',show t<as.length+(n-as.length) by omega]
  rw [e1]
  show VR φ β _ (((⟨as⟩:Array Value)++Array.replicate (n-(⟨as⟩:Array Value).size) undef).getD t undef)
  rw [e2]
  exact h.2 t _ _ (List.getElem?_eq_getElem ht) (List.getElem?_eq_getElem ht')
 ·have ht':as.length≤t:=by have:=h.1;omega
  have e1:args.getD t undef=undef:=by simp [List.getD,List.getElem?_eq_none ht]
  have e2:((⟨as⟩:Array Value)++Array.replicate (n-(⟨as⟩:Array Value).size) undef).getD t undef=undef:=by
   rw [Array.getD_eq_getD_getElem?,Array.getElem?_append_right (by simpa using ht'),Array.getElem?_replicate]
   split<;>rfl
  rw [e1]
  show VR φ β _ (((⟨as⟩:Array Value)++Array.replicate (n-(⟨as⟩:Array Value).size) undef).getD t undef)
  rw [e2]
  exact .plain rfl
variable {Γ:Env} {X:Outer}
theorem sound (Gn: ∀g fn q,Γ g=some fn→φ g=some q→bC Pr μ φ q=some fn) (hX: ∀g args H v H',X g args H v H'→vO Pr φ g args H v H')
  {g:Nat} {args:List Value} {H:aA} {v:Value} {H':aA} (h:Cal Γ X g args H v H'):vO Pr φ g args H v H':=by
 refine Cal.rec (motive_1:=fun c f H ex f' H' _=>acN Pr μ φ c f H ex f' H') (motive_2:=fun d ops f H f' H' _=>pX Pr μ φ d ops f H f' H') (motive_3:=fun o f H f' H' _=>ny Pr μ φ o f H f' H'∧Fact Pr μ φ o f H f' H')
  (motive_4:=fun g args H v H' _=>vO Pr φ g args H v H') ?_ ?_ ?_ ?_ ?_ ?_ ?_ ?_ ?_ ?_ ?_ ?_ ?_ ?_ ?_ ?_ ?_ ?_ ?_ ?_ h
 ·
  intro f H
  refine ⟨Nat.le_refl _,id,0,fun nt β a w hR hf hfr hd Q hQ=>⟨fun code ht=>?_,fun a0 code hc=>by cases hc⟩⟩
  rw [acP ht]
  exact wp_skip (hQ β a w (.refl hR) hf hd)
 ·
  intro d ops f H f' H' _ hch
  refine ⟨hch.n,hch.fin,0,fun nt β a w hR hf hfr hd Q hQ=>⟨fun code ht=>?_,fun a0 code hc=>by cases hc⟩⟩
  obtain ⟨id,os,draw,as0,rfl,h1,⟨rfl,rfl,rfl⟩|⟨rfl,m,rfl,rfl,h2,h3,h4⟩⟩:=acO ht
  ·exact wp_region (acV hch _ (acW h1) β a w hR hf hfr hd Q hQ)
  ·have hg:=Good.drawn hR (w.drawn+1)
   exact wp_region_any h2 (acX hch h1 h3 h4 hg.1 hf hfr hd Q fun β' a' w' hg' hf' hd'=>hQ β' a' w' (hg.trans hg') hf' hd')
 ·
  intro a b f H f1 H1 ex f' H' _ _ ih1 ih2
  obtain ⟨n1,fin1,k1,s1⟩:=ih1
  obtain ⟨n2,fin2,k2,s2⟩:=ih2
  refine ⟨Nat.le_trans n1 n2,fun h=>fin2 (fin1 h),0,fun nt β a w hR hf hfr hd Q hQ=>⟨fun code ht=>?_,fun a0 code hc=>by cases hc⟩⟩
  obtain ⟨x,y,rfl,h1,h2⟩:=Nv ht
  refine wp_seq ((s1 nt β a w hR hf (fun b h3 h4=>hfr b h3 (by omega)) hd _ fun β' a' w' hg hf' hd'=>?_).1 x h1)
  exact (s2 nt β' a' w' hg.1 hf' (Nz hg n1 hfr) hd' Q fun nU a2 w2 hg2 hf2 hd2=>hQ nU a2 w2 (hg.trans hg2) hf2 hd2).1 y h2
 ·
  intro a b f H ex f' H' _ hne ih1
  obtain ⟨n1,fin1,k1,s1⟩:=ih1
  refine ⟨n1,fin1,0,fun nt β a w hR hf hfr hd Q hQ=>⟨fun code ht=>?_,fun a0 code hc=>by cases hc⟩⟩
  obtain ⟨x,y,rfl,h1,h2⟩:=Nv ht
  refine wp_seq ((s1 nt β a w hR hf hfr hd _ fun β' a' w' hg hf' hd'=>?_).1 x h1)
  have:=hQ β' a' w' hg hf' hd'
  cases ex with
  |normal=>exact absurd rfl hne
  |exit id=>exact this
  |ret=>exact this
 ·
  intro c a b f H t ex f' H' hc _ ih
  obtain ⟨n1,fin1,k1,s1⟩:=ih
  refine ⟨n1,fin1,0,fun nt β a w hR hf hfr hd Q hQ=>⟨fun code ht=>?_,fun a0 code hc=>by cases hc⟩⟩
  obtain ⟨q,x,y,rfl,h1,h2,h3⟩:=acQ ht
  have hv:VR φ β (ev f c) (a.eval q):=by
   refine acY (ρ:=a.eval) (ig:=ev f) (fun t=>hf.val t) (fun _=>rfl) (fun _=>rfl) (fun _=>rfl) (fun _=>rfl) h1
  rw [hc] at hv
  refine wp_cond hv.bool ?_
  cases t
  ·exact (s1 nt β a w hR hf hfr hd Q hQ).1 y h3
  ·exact (s1 nt β a w hR hf hfr hd Q hQ).1 x h2
 ·
  intro id a f H ex f' H' _ hne ih
  obtain ⟨n1,fin1,k1,s1⟩:=ih
  refine ⟨n1,fin1,0,fun nt β a w hR hf hfr hd Q hQ=>⟨fun code ht=>?_,fun a0 code hc=>by cases hc⟩⟩
  obtain ⟨x,rfl,h1⟩:=Nw ht
  refine wp_block ((s1 nt β a w hR hf hfr hd _ fun β' a' w' hg hf' hd'=>?_).1 x h1)
  have:=hQ β' a' w' hg hf' hd'
  cases ex with
  |normal=>exact this
  |exit id'=>
   show (if id'=id then Q .normal a' w' else Q (.exit id') a' w')
   rw [if_neg (fun e=>hne (by rw [e]))]
   exact this
  |ret=>exact this
 ·
  intro id a f H f' H' _ ih
  obtain ⟨n1,fin1,k1,s1⟩:=ih
  refine ⟨n1,fin1,0,fun nt β a w hR hf hfr hd Q hQ=>⟨fun code ht=>?_,fun a0 code hc=>by cases hc⟩⟩
  obtain ⟨x,rfl,h1⟩:=Nw ht
  refine wp_block ((s1 nt β a w hR hf hfr hd _ fun β' a' w' hg hf' hd'=>?_).1 x h1)
  show (if id=id then Q .normal a' w' else Q (.exit id) a' w')
  rw [if_pos rfl]
  exact hQ β' a' w' hg hf' hd'
 ·
  intro a f H f1 H1 ex f' H' _ _ ih1 ih2
  obtain ⟨n1,fin1,k1,s1⟩:=ih1
  obtain ⟨n2,fin2,k2,s2⟩:=ih2
  have zV: ∀(nt:Nat) (β:Ren) (a1:Act) (w:World),Rel φ β H w→jW φ β nt f a1→(∀b,H.n≤b→b<H'.n→β b=none)→a1.defers=[]→
    ∀(Q:Exit→Act→World→Prop),(∀β' a' w',Good φ β H w β' H' w'→jW φ β' nt f' a'→a'.defers=[]→Q (GH ex) a' w')→ ∀code,gI Pr μ φ nt code=some a→Code.rounds Pr code Q (k2+1) a1 w:=by
   intro nt β a1 w hR hf hfr hd Q hQ code ht
   rw [rounds_succ]
   refine (s1 nt β a1 w hR hf (fun b h3 h4=>hfr b h3 (by omega)) hd _ fun β' a' w' hg hf' hd'=>?_).1 code ht
   exact (s2 nt β' a' w' hg.1 hf' (Nz hg n1 hfr) hd' Q fun nU a2 w2 hg2 hf2 hd2=>hQ nU a2 w2 (hg.trans hg2) hf2 hd2).2 a code rfl ht
  refine ⟨Nat.le_trans n1 n2,fun h=>fin2 (fin1 h),k2+1,fun nt β a1 w hR hf hfr hd Q hQ=>⟨fun code ht=>?_,fun a0 code hc ht=>?_⟩⟩
  ·obtain ⟨x,rfl,h1⟩:=Ny ht
   exact wp_loop_rounds _ (zV nt β a1 w hR hf hfr hd Q hQ x h1)
  ·cases hc
   exact zV nt β a1 w hR hf hfr hd Q hQ code ht
 ·
  intro a f H ex f' H' _ hne ih
  obtain ⟨n1,fin1,k1,s1⟩:=ih
  have zV: ∀(nt:Nat) (β:Ren) (a1:Act) (w:World),Rel φ β H w→jW φ β nt f a1→(∀b,H.n≤b→b<H'.n→β b=none)→a1.defers=[]→
    ∀(Q:Exit→Act→World→Prop),(∀β' a' w',Good φ β H w β' H' w'→jW φ β' nt f' a'→a'.defers=[]→Q (GH ex) a' w')→ ∀code,gI Pr μ φ nt code=some a→Code.rounds Pr code Q (0+1) a1 w:=by
   intro nt β a1 w hR hf hfr hd Q hQ code ht
   rw [rounds_succ]
   refine (s1 nt β a1 w hR hf hfr hd _ fun β' a' w' hg hf' hd'=>?_).1 code ht
   have:=hQ β' a' w' hg hf' hd'
   cases ex with
   |normal=>exact absurd rfl hne
   |exit id=>exact this
   |ret=>exact this
  refine ⟨n1,fin1,0+1,fun nt β a1 w hR hf hfr hd Q hQ=>⟨fun code ht=>?_,fun a0 code hc ht=>?_⟩⟩
  ·obtain ⟨x,rfl,h1⟩:=Ny ht
   exact wp_loop_rounds _ (zV nt β a1 w hR hf hfr hd Q hQ x h1)
  ·cases hc
   exact zV nt β a1 w hR hf hfr hd Q hQ code ht
 ·
  intro id f H
  refine ⟨Nat.le_refl _,_root_.id,0,fun nt β a w hR hf hfr hd Q hQ=>⟨fun code ht=>?_,fun a0 code hc=>by cases hc⟩⟩
  rw [acR ht]
  exact wp_exit (hQ β a w (.refl hR) hf hd)
 ·
  intro f H
  refine ⟨Nat.le_refl _,id,0,fun nt β a w hR hf hfr hd Q hQ=>⟨fun code ht=>?_,fun a0 code hc=>by cases hc⟩⟩
  rw [acS ht]
  exact wp_ret (hQ β a w (.refl hR) hf hd)
 ·intro d f H;exact .nil
 ·intro d o rest f H f1 H1 f' H' _ hx _ ih1 ih2;exact .cons ih1 hx ih2
 ·intro o f H hw;exact ⟨D5 hw,⟨fun (h:fV o.guard f=true)=>(by rw [hw] at h;cases h),fun _=>⟨rfl,rfl⟩,fun g args fl _=>⟨D5 hw,fun _ _ _ _ _=>rfl⟩⟩⟩
 ·intro o f H v H' hw ha;exact ⟨zW hw ha,⟨fun _ _=>⟨v,ha,rfl⟩,fun (h:fV o.guard f=false)=>(by rw [hw] at h;cases h),fun g args fl ho=>by rw [ho] at ha;simp [aJ] at ha⟩⟩
 ·intro o f H g args v H' hw ho _ ih;exact ⟨ND hw ho ih,⟨fun _ h=>(by rw [ho] at h;cases h),fun (h:fV o.guard f=false)=>(by rw [hw] at h;cases h),fun g args fl ho'=>by rw [ho] at ho';cases ho'⟩⟩
 ·intro o f H g cap caps args v H' hw ho hgv _ ih;exact ⟨acZ hw ho hgv ih,⟨fun _ h=>(by rw [ho] at h;cases h),fun (h:fV o.guard f=false)=>(by rw [hw] at h;cases h),fun g args fl ho'=>by rw [ho] at ho';cases ho'⟩⟩
 ·intro o f H g args fl v H' hw ho _ hs ih
  refine ⟨ac0 hw ho ih,⟨fun _ h=>(by rw [ho] at h;cases h),fun (h:fV o.guard f=false)=>(by rw [hw] at h;cases h),fun g' args' fl' ho'=>?_⟩⟩
  rw [ho] at ho'
  cases ho'
  exact ⟨ND (ao:=⟨o.dst, .call g args,o.guard⟩) hw rfl ih,hs⟩
 ·
  intro g fn args H ex f' vs H' hg _ hex hres ih
  obtain ⟨n1,fin1,k1,s1⟩:=ih
  refine ⟨n1,fin1,fun q hq=>?_⟩
  have ht:=Gn g fn q hg hq
  unfold bC at ht
  split at ht
  ·rename_i pf hpf
   split at ht
   ·cases ht
   ·rename_i hname
    split at ht
    ·rename_i c hc
     split at ht
     ·rename_i b rs h1 h2
      cases ht
      refine ⟨⟨pf,hpf,by rw [hc];rfl,by simpa using hname⟩,fun β as w hR hargs hfr=>?_⟩
      refine calls_of_wp hpf hc ?_
      refine (s1 pf.ntmps β _ w hR (acU hargs pf.ntmps) hfr rfl _ fun β' a' w' hgood hf' hd'=>?_).1 c h1
      obtain ⟨v',hv',hr⟩:=acT h2 hres hgood.1 hf'
      rcases hex with rfl|rfl
      ·exact ⟨hd',v',hv',β',v',rfl,hr,hgood⟩
      ·exact ⟨hd',v',hv',β',v',rfl,hr,hgood⟩
     ·cases ht
    ·cases ht
  ·cases ht
 ·intro g args H v H' hx;exact hX g args H v H' hx
end
end Go.Am
