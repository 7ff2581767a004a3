/- Each operation of the small machine is the model's. -/
import Derived.Test.YtbpfbfbabpkceaaGreatAmTr
import Derived.Laws.Append
import Derived.WalkSpells
set_option linter.unusedVariables false
set_option linter.unusedSimpArgs false
namespace Go.Am
open Go
section
variable {Pr:Program} {μ φ:Fun} {β:Ren} {H H':AHeap} {w:World} {ρ:Operand→Value} {ρa:Opd→Value} {v:Value}
theorem map_some_inj {α γ:Type} {f:α→γ} {x:Option α} {y:γ} (h:x.map f=some y): ∃a,x=some a∧f a=y:=Option.map_eq_some_iff.1 h
theorem s_load (hR:Rel φ β H w) {t:TypeId} {n:Option Nat} {x y:Value} (hx:VR φ β x y) (hn:numT Pr t=some n)
  (ha:(match (generalizing:=false) x with| .pointer (some ⟨b,o,none⟩)=>(match H.get b with|some blk=>(getN n blk.cells o).map fun v=>(v,H)|none=>none)| _=>none)=some (v,H')):
  OpOK φ β H w ((do pure (Next.value (←Instr.loadAt t y)):Sem Next).run Pr w) v H':=by
 split at ha
 ·rename_i b o
  split at ha
  ·rename_i blk hb
   obtain ⟨u,hu,he⟩:=map_some_inj ha
   cases he
   obtain ⟨g,base,N,hL,hle,rfl⟩:=hx.ptr_inv
   obtain ⟨v',hv',hr⟩:=getN_load (Pr:=Pr) hR hb hL hn hu
   exact .same hR (by simp [Instr.loadAt,Instr.sureAddr,hv']) hr
  ·cases ha
 ·cases ha
theorem s_mapPut (hR:Rel φ β H w) {t kt et:TypeId} {qs:List IntKind} {x k y z:Value} (hx:VR φ β x y) (hk:VR φ β k z) (hm:Pr.underlying t=some (.map kt et)) (hq:keyTy Pr kt qs=true) (ha:aPut qs x k H=some (v,H')):
  OpOK φ β H w ((do Instr.mapUpdate t y z (.bool true);pure Next.skip:Sem Next).run Pr w) v H':=by
 unfold aPut at ha
 split at ha
 ·rename_i b
  split at ha
  ·rename_i gk hb hgk
   split at ha
   ·rename_i hc
    cases ha
    rw [Bool.and_eq_true] at hc
    obtain ⟨hc1,hc2⟩:=hc
    cases hx with
    |plain h=>simp [Am.plain] at h
    |map hL hlt=>
     rename_i g base N
     have hz:z=k:=by
      cases k<;>simp only [keyV,Bool.false_eq_true] at hc1
      rename_i cs
      obtain ⟨ds,rfl,hds⟩:=hk.agg_inv
      have:=keyG_vr hc1 hds
      cases ds;cases cs
      simp only at this
      rw [this]
     subst hz
     obtain ⟨_,_,es,ck,hh,hE⟩:=hR.maps b _ _ hL hlt hb
     have hE:=hE gk hgk (hR.mapn b _ hL hlt (by
      rcases Nat.lt_or_ge b H.n with q|q
      ·exact q
      ·rw [hR.fin b q] at hb;cases hb)).2
     have hkey: ∀k:Value,keyV qs k=true→ ∃l,keyOf Pr kt k=some l:=fun k hk=>by
      cases k<;>simp only [keyV,Bool.false_eq_true] at hk
      exact keyTy_of hq hk
     obtain ⟨l,hl⟩:=hkey _ hc1
     obtain ⟨es',ck',hrun,hcase⟩:=run_put (Pr:=Pr) (val:= .bool true) (keyTy_law hq) hm hl hh (fun e he=>hkey _ (List.all_eq_true.1 hc2 _ (hE.2.2.1 e he).2))
     refine ⟨_,undef,_,β,?_, .inr ⟨rfl,rfl⟩, .plain rfl,Good.mapPut hR hb hL hlt hgk hh (hE.put hcase)⟩
     simp only [Sem.run_bind,hrun,Result.andThen_ok,Sem.run_pure]
   ·cases ha
  ·cases ha
 ·cases ha
theorem abn (hR:Rel φ β H w) {b o:Nat} {blk:Blk} {L:Loc} {vs us:List Value} (hb:H.get b=some blk) (hrw:blk.rw=true) (hL:β b=some L) (hle:L.base≤L.size) (hv:VRL φ β vs us) (hone': ∀d∈us,d.oneCell'=true) (hfit:o+vs.length≤blk.cells.length):
  ∃w',(storeCells ⟨L.g,L.base+o,none⟩ us).run Pr w= .ok () w'∧Good φ β H w β (H.set b (splice blk.cells o vs)) w':=by
 obtain ⟨g,base,N⟩:=L
 obtain ⟨c,et,fr,h1,h2,h3,h4,h5⟩:=hR.cells _ _ _ hb hL hle
 obtain ⟨rfl,hbase⟩:=h4 hrw
 simp only at hbase h1 h2 h3
 subst hbase
 have hl':us.length=vs.length:=hv.1.symm
 generalize hn:vs.length=n at*
 have hst:=run_storeCells_at Pr g (0+o) et us 0 c w h1 (by omega) hone'
 have hbig:(c.toList.take (0+o+0)++us++c.toList.drop (0+o+0+us.length))=splice c.toList o us:=by simp [splice]
 rw [hbig] at hst
 have hcN:c.toList.length=N:=by simpa using h2
 have hsz:((splice c.toList o us).toArray).size=N:=by
  rw [List.size_toArray,splice_len (by rw [hl',hcN];omega)]
  exact hcN
 refine ⟨_,hst,Good.set hR hb hrw hL hle (cs:=splice blk.cells o vs) ?_ hsz ?_⟩
 ·rw [splice_len (by omega)]
  show blk.cells.length≤N
  omega
 ·have hc0:VRL φ β blk.cells (c.toList.take blk.cells.length):=by
   refine ⟨by simp;omega,fun i a d ha hd=>?_⟩
   obtain ⟨hi,_⟩:=List.getElem?_eq_some_iff.1 ha
   obtain ⟨u,hu,hr⟩:=h5 i a ha
   rw [List.getElem?_take,if_pos hi,Array.getElem?_toList] at hd
   simp only [Nat.zero_add] at hu
   rw [hu] at hd
   cases hd
   exact hr
  intro i x hi
  obtain ⟨u,hu,hr⟩:=(hc0.splice hv o).at_ hi
  refine ⟨u,?_,hr⟩
  have hil:i<blk.cells.length:=by
   have:=(List.getElem?_eq_some_iff.1 hi).1
   rwa [splice_len (by omega)] at this
  rw [List.getElem?_toArray]
  unfold splice at hu⊢
  simp only [List.getElem?_append,List.length_append,List.length_take,List.getElem?_take,List.getElem?_drop,Array.length_toList,hl'] at hu⊢
  have e1:min o (min blk.cells.length c.size)=o:=by omega
  have e2:min o c.size=o:=by omega
  rw [e1] at hu
  rw [e2]
  by_cases q1:i<o
  ·simp [q1,show i<o+n by omega,hil] at hu⊢
   exact hu
  ·by_cases q2:i<o+n
   ·simp [q1,q2] at hu⊢
    exact hu
   ·simp [q1,q2,show o+n+(i-(o+n))=i by omega,hil] at hu⊢
    exact hu
theorem s_store (hR:Rel φ β H w) {t:TypeId} {n:Nat} {x y a b':Value} (hx:VR φ β x y) (hy:VR φ β a b') (hn:szT Pr t=some n)
  (ha:(match (generalizing:=false) x with| .pointer (some ⟨b,o,none⟩)=>(match H.get b with|some blk=>if blk.rw=true∧(cellsL a).length=n∧o+n≤blk.cells.length∧(cellsL a).all (·.oneCell')=true then some (undef,H.set b (splice blk.cells o (cellsL a))) else none|none=>none)| _=>none)=some (v,H')):
  OpOK φ β H w ((do Instr.storeAt t y b';pure Next.skip:Sem Next).run Pr w) v H':=by
 split at ha
 ·rename_i b o
  split at ha
  ·rename_i blk hb
   split at ha
   ·rename_i hc
    obtain ⟨hrw,hlen,hfit,hone⟩:=hc
    cases ha
    obtain ⟨g,base,N,hL,hle,rfl⟩:=hx.ptr_inv
    obtain ⟨c,et,fr,h1,h2,h3,h4,h5⟩:=hR.cells _ _ _ hb hL hle
    obtain ⟨rfl,hbase⟩:=h4 hrw
    simp only at hbase h1 h2 h3
    subst hbase
    have hv:=hy.cells
    have hone':=hv.oneCells hone
    have hl':b'.cells.toList.length=n:=by rw [←hv.1,hlen]
    have hst:=run_storeCells_at Pr g (0+o) et b'.cells.toList 0 c w h1 (by omega) hone'
    have hbig:(c.toList.take (0+o+0)++b'.cells.toList++c.toList.drop (0+o+0+b'.cells.toList.length))=splice c.toList o b'.cells.toList:=by simp [splice]
    rw [hbig] at hst
    have hcN:c.toList.length=N:=by simpa using h2
    have hsz:((splice c.toList o b'.cells.toList).toArray).size=N:=by
     rw [List.size_toArray,splice_len (by rw [hl',hcN];omega)]
     exact hcN
    refine ⟨_,undef,_,β,?_, .inr ⟨rfl,rfl⟩, .plain rfl,Good.set hR hb hrw hL hle (cs:=splice blk.cells o (cellsL a)) ?_ hsz ?_⟩
    ·have: ¬(b'.cells.size≠n):=by simp at hl';omega
     have hst':(storeVar t ⟨g,0+o,none⟩ b').run Pr w= .ok () (w.setRow g (splice c.toList o b'.cells.toList).toArray):=by
      simp only [storeVar,Sem.run_bind,sizeOf_run hn,Result.andThen_ok,if_neg this,Sem.run_pure]
      exact hst
     simp only [Instr.storeAt,Instr.sureAddr,Sem.run_bind,Sem.run_pure,Result.andThen_ok,hst']
    ·rw [splice_len (by omega)]
     show blk.cells.length≤N
     omega
    ·have hc0:VRL φ β blk.cells (c.toList.take blk.cells.length):=by
      refine ⟨by simp;omega,fun i a d ha hd=>?_⟩
      obtain ⟨hi,_⟩:=List.getElem?_eq_some_iff.1 ha
      obtain ⟨u,hu,hr⟩:=h5 i a ha
      rw [List.getElem?_take,if_pos hi,Array.getElem?_toList] at hd
      simp only [Nat.zero_add] at hu
      rw [hu] at hd
      cases hd
      exact hr
     intro i x hi
     obtain ⟨u,hu,hr⟩:=(hc0.splice hv o).at_ hi
     refine ⟨u,?_,hr⟩
     have hil:i<blk.cells.length:=by
      have:=(List.getElem?_eq_some_iff.1 hi).1
      rwa [splice_len (by omega)] at this
     rw [List.getElem?_toArray]
     unfold splice at hu⊢
     simp only [List.getElem?_append,List.length_append,List.length_take,List.getElem?_take,List.getElem?_drop,Array.length_toList,hl'] at hu⊢
     have e1:min o (min blk.cells.length c.size)=o:=by omega
     have e2:min o c.size=o:=by omega
     rw [e1] at hu
     rw [e2]
     by_cases q1:i<o
     ·simp [q1,show i<o+n by omega,hil] at hu⊢
      exact hu
     ·by_cases q2:i<o+n
      ·simp [q1,q2] at hu⊢
       exact hu
      ·simp [q1,q2,show o+n+(i-(o+n))=i by omega,hil] at hu⊢
       exact hu
   ·cases ha
  ·cases ha
 ·cases ha
theorem s_bin (hR:Rel φ β H w) {op:BinOp} {t:TypeId} {x y:Value} {xo yo:Operand} (k:IntKind) (hk:Pr.underlying t=some (.int k)) {r:Value} (ha:aBin op x y=some r):
  ((do eqGuard op t xo yo x y;binOp op t x y:Sem Value).run Pr w)= .ok r w:=by
 have hsh: ∀(op:BinOp) (k k':IntKind) (a b:Int) (r:Value),aSh op k a b=some r→((do eqGuard op t xo yo (.int k a) (.int k' b);binOp op t (.int k a) (.int k' b):Sem Value).run Pr w)= .ok r w:=by
  intro op k k' a b r h
  cases op<;>simp only [aSh] at h<;>(try (cases h;done))
  all_goals
   split at h
   ·cases h
   ·rename_i hb
    cases h
    simp [eqGuard,binOp,Op.shift,hb]
 unfold aBin at ha
 split at ha
 ·rename_i k a k' b
  split at ha
  ·rename_i hkk
   subst hkk
   cases op<;>simp only at ha<;>first|exact hsh _ _ _ _ _ _ ha|(cases ha;simp [eqGuard,binOp,Op.intArith,Op.intCmp,Op.intBits];done)|(cases ha;rfl)|skip
   all_goals
    split at ha
    ·cases ha
    ·rename_i hb
     cases ha
     simp [eqGuard,binOp,Op.intDiv,hb]
  ·exact hsh _ _ _ _ _ _ ha
 ·cases ha
theorem s_sbin {op:BinOp} {t:TypeId} {x y:Value} {xo yo:Operand} {r:Value} (ha:aSbin op x y=some r):
  ((do eqGuard op t xo yo x y;binOp op t x y:Sem Value).run Pr w)= .ok r w:=by
 unfold aSbin at ha
 split at ha
 ·rename_i a b
  cases op<;>simp only at ha<;>(try cases ha)<;>(try simp [eqGuard,binOp,Op.stringOp])
  split at ha
  ·rename_i hs
   cases ha
   have hm:IntKind.max .i64=9223372036854775807:=by decide
   simp [hm,show¬(9223372036854775807<(a.size:Int)+(b.size:Int)) by omega]
  ·cases ha
 ·cases ha
theorem equalIn_bool {t:TypeId} (ht:Pr.underlying t=some .bool) (d:Nat) (a b:Bool):(Op.equalIn (d+1) t (.bool a) (.bool b)).run Pr w= .ok (a==b) w:=by
 simp only [Op.equalIn,Sem.run_bind,run_underlying ht,Result.andThen_ok]
 rfl
theorem equalIn_nil {t e:TypeId} (ht:Pr.underlying t=some (.slice e)) (d:Nat) (a:Option Addr) (l c:Nat):(Op.equalIn (d+1) t (.slice a l c) (.slice none 0 0)).run Pr w= .ok a.isNone w:=by
 simp only [Op.equalIn,Sem.run_bind,run_underlying ht,Result.andThen_ok]
 cases a<;>rfl
theorem equal_depth (t:TypeId) (x y:Value):Op.equal t x y=Op.equalIn (9999+1) t x y:=rfl
theorem s_eqb {t:TypeId} {xo yo:Operand} {a b:Bool} (ht:Pr.underlying t=some .bool) (op:BinOp) (neg:Bool) (hop:op=(if neg then .neq else .eql)):
  ((do eqGuard op t xo yo (.bool a) (.bool b);binOp op t (.bool a) (.bool b):Sem Value).run Pr w)= .ok (.bool (if neg then !(a==b) else (a==b))) w:=by
 subst hop
 cases neg
 ·have:binOp .eql t (.bool a) (.bool b)=(do pure (.bool (←Op.equal t (.bool a) (.bool b))):Sem Value):=rfl
  simp only [Bool.false_eq_true,if_false,this,Sem.run_bind,equal_depth,equalIn_bool ht,Result.andThen_ok]
  rfl
 ·have:binOp .neq t (.bool a) (.bool b)=(do pure (.bool (!(←Op.equal t (.bool a) (.bool b)))):Sem Value):=rfl
  simp only [if_true,this,Sem.run_bind,equal_depth,equalIn_bool ht,Result.andThen_ok]
  rfl
theorem s_eqn {t e:TypeId} {xo yo:Operand} {a:Option Addr} {l c:Nat} (ht:Pr.underlying t=some (.slice e)) (op:BinOp) (neg:Bool) (hop:op=(if neg then .neq else .eql)):
  ((do eqGuard op t xo yo (.slice a l c) (.slice none 0 0);binOp op t (.slice a l c) (.slice none 0 0):Sem Value).run Pr w)= .ok (.bool (if neg then !a.isNone else a.isNone)) w:=by
 subst hop
 cases neg
 ·have:binOp .eql t (.slice a l c) (.slice none 0 0)=(do pure (.bool (←Op.equal t (.slice a l c) (.slice none 0 0))):Sem Value):=rfl
  simp only [Bool.false_eq_true,if_false,this,Sem.run_bind,equal_depth,equalIn_nil ht,Result.andThen_ok]
  rfl
 ·have:binOp .neq t (.slice a l c) (.slice none 0 0)=(do pure (.bool (!(←Op.equal t (.slice a l c) (.slice none 0 0)))):Sem Value):=rfl
  simp only [if_true,this,Sem.run_bind,equal_depth,equalIn_nil ht,Result.andThen_ok]
  rfl
theorem s_field (hR:Rel φ β H w) {s:TypeId} {fs:Array Field} {f:Nat} {fd:Field} {n:Option Nat} {x y:Value} (hx:VR φ β x y) (hs:Pr.underlying s=some (.struct fs)) (hf:fs[f]? =some fd) (hn:numT Pr fd.type=some n)
  (ha:(match (generalizing:=false) x with| .agg cs=>(getN n cs.toList fd.offset).map fun v=>(v,H)| _=>none)=some (v,H')):
  OpOK φ β H w ((do pure (Next.value (←Instr.field s y f)):Sem Next).run Pr w) v H':=by
 split at ha
 ·rename_i cs
  obtain ⟨u,hu,he⟩:=map_some_inj ha
  cases he
  obtain ⟨ds,rfl,hr⟩:=hx.agg_inv
  obtain ⟨v',hv',hr'⟩:=getN_part (Pr:=Pr) (w:=w) hn hr hu
  exact .same hR (by simp [Instr.field,run_underlying hs,hf,asAgg,hv']) hr'
 ·cases ha
theorem intOf_vr {x y:Value} {i:Int} (hx:VR φ β x y) (h:intOf x=some i): ∃k,x= .int k i∧y= .int k i:=by
 unfold intOf at h
 split at h
 ·rename_i k n
  cases h
  exact ⟨k,rfl,hx.int⟩
 ·cases h
theorem s_index (hR:Rel φ β H w) {t e:TypeId} {len sz:Nat} {n:Option Nat} {x y i j:Value} (hx:VR φ β x y) (hi:VR φ β i j) (ht:Pr.underlying t=some (.array len e)) (hs:szT Pr e=some sz) (hn:numT Pr e=some n)
  (ha:(match (generalizing:=false) x,intOf i with| .agg cs,some i=>if 0≤i∧i<len then (getN n cs.toList (i.toNat*sz)).map fun v=>(v,H) else none| _,_=>none)=some (v,H')):
  OpOK φ β H w ((do pure (Next.value (←Instr.index t y j)):Sem Next).run Pr w) v H':=by
 split at ha
 ·rename_i cs q hq
  obtain ⟨k,rfl,rfl⟩:=intOf_vr hi hq
  split at ha
  ·rename_i hc
   obtain ⟨u,hu,he⟩:=map_some_inj ha
   cases he
   obtain ⟨ds,rfl,hr⟩:=hx.agg_inv
   obtain ⟨v',hv',hr'⟩:=getN_part (Pr:=Pr) (w:=w) hn hr hu
   exact .same hR (by simp [Instr.index,asIntOf,run_underlying ht,hc.1,hc.2,sizeOf_run hs,hv']) hr'
  ·cases ha
 ·cases ha
theorem s_indexStr (hR:Rel φ β H w) {t:TypeId} {x y i j:Value} (hx:VR φ β x y) (hi:VR φ β i j) (ht:Pr.underlying t=some .string)
  (ha:(match (generalizing:=false) x,intOf i with| .string s,some i=>if 0≤i then (s[i.toNat]?).map fun b=>(Value.int .u8 b.toNat,H) else none| _,_=>none)=some (v,H')):
  OpOK φ β H w ((do pure (Next.value (←Instr.index t y j)):Sem Next).run Pr w) v H':=by
 split at ha
 ·rename_i s q hq
  obtain ⟨k,rfl,rfl⟩:=intOf_vr hi hq
  split at ha
  ·rename_i hc
   obtain ⟨u,hu,he⟩:=map_some_inj ha
   cases he
   have:=hx.string
   subst this
   exact .same hR (by simp [Instr.index,asIntOf,run_underlying ht,hc,hu]) (.plain rfl)
  ·cases ha
 ·cases ha
theorem add_none (g o k:Nat):(⟨g,o,none⟩:Addr).add k=⟨g,o+k,none⟩:=by unfold Addr.add;split<;>simp_all
theorem s_indexAddr (hR:Rel φ β H w) {t e:TypeId} {sz:Nat} {x y i j:Value} (hx:VR φ β x y) (hi:VR φ β i j) (ht:Pr.underlying t=some (.slice e)) (hs:szT Pr e=some sz)
  (ha:(match (generalizing:=false) x,intOf i with| .slice (some ⟨b,o,none⟩) len e',some i=>if 0≤i∧i<len∧e'=sz then some (P b (o+i.toNat*sz),H) else none| _,_=>none)=some (v,H')):
  OpOK φ β H w ((do pure (Next.value (←Instr.indexAt t y j)):Sem Next).run Pr w) v H':=by
 split at ha
 ·rename_i b o len e' q hq
  obtain ⟨k,rfl,rfl⟩:=intOf_vr hi hq
  split at ha
  ·rename_i hc
   obtain ⟨h0,h1,rfl⟩:=hc
   cases ha
   cases hx with
   |plain h=>simp [Am.plain] at h
   |slice hL hl hcap=>
    rename_i c g base N
    refine .same hR (v':= .pointer (some ⟨g,base+(o+q.toNat*e'),none⟩)) ?_ (.ptr hL (by omega))
    simp [Instr.indexAt,asIntOf,run_underlying ht,h0,h1,sizeOf_run hs,add_none,Nat.add_assoc]
   |slice0=>omega
  ·cases ha
 ·cases ha
theorem s_indexArr (hR:Rel φ β H w) {t e:TypeId} {n sz:Nat} {x y i j:Value} (hx:VR φ β x y) (hi:VR φ β i j) (ht:Pr.underlying t=some (.array n e)) (hs:szT Pr e=some sz)
  (ha:(match (generalizing:=false) x,intOf i with| .pointer (some ⟨b,o,none⟩),some i=>if 0≤i∧i<n then some (P b (o+i.toNat*sz),H) else none| _,_=>none)=some (v,H')):
  OpOK φ β H w ((do pure (Next.value (←Instr.indexAt t y j)):Sem Next).run Pr w) v H':=by
 split at ha
 ·rename_i b o q hq
  obtain ⟨k,rfl,rfl⟩:=intOf_vr hi hq
  split at ha
  ·rename_i hc
   obtain ⟨h0,h1⟩:=hc
   cases ha
   obtain ⟨g,base,N,hL,hle,rfl⟩:=hx.ptr_inv
   refine .same hR (v':= .pointer (some ⟨g,base+(o+q.toNat*sz),none⟩)) ?_ (.ptr hL hle)
   simp [Instr.indexAt,Instr.sureAddr,asIntOf,run_underlying ht,h0,h1,sizeOf_run hs,add_none,Nat.add_assoc]
  ·cases ha
 ·cases ha
theorem s_fieldAddr (hR:Rel φ β H w) {s:TypeId} {fs:Array Field} {f n:Nat} {fd:Field} {x y:Value} (hx:VR φ β x y) (hs:Pr.underlying s=some (.struct fs)) (hf:fs[f]? =some fd) (hn:szT Pr fd.type=some n) (h0:n≠0)
  (ha:(match (generalizing:=false) x with| .pointer (some ⟨b,o,none⟩)=>some (P b (o+fd.offset),H)| _=>none)=some (v,H')):
  OpOK φ β H w ((do pure (Next.value (←Instr.fieldAt s y f)):Sem Next).run Pr w) v H':=by
 split at ha
 ·rename_i b o
  cases ha
  obtain ⟨g,base,N,hL,hle,rfl⟩:=hx.ptr_inv
  refine .same hR (v':= .pointer (some ⟨g,base+(o+fd.offset),none⟩)) ?_ (.ptr hL hle)
  simp [Instr.fieldAt,run_underlying hs,hf,Instr.sureAddr,fieldPlace,sizeOf_run hn,h0,add_none,Nat.add_assoc]
 ·cases ha
theorem cut_run (isS:Bool) {os:Array Operand} (hρ: ∀x ax,x∈os→trOpd μ φ x=some ax→VR φ β (ρa ax) (ρ x)) {lo hi:Option Operand} (hml: ∀x,lo=some x→x∈os) (hmh: ∀x,hi=some x→x∈os) {alo ahi:Option Opd} (hlo:trOpt μ φ lo=some alo) (hhi:trOpt μ φ hi=some ahi) {len cap l h:Nat} (hcap:len≤cap) (hc:cutOf ρa len alo ahi=some (l,h)):
  (Instr.sliceBounds isS len cap (lo.map ρ) (hi.map ρ) none).run Pr w= .ok (l,h,cap) w∧l≤h∧h≤len:=by
 unfold cutOf at hc
 split at hc
 ·rename_i qh ql e1 e2
  split at hc
  ·rename_i hb
   cases hc
   refine ⟨?_,by omega,by omega⟩
   have hh: ∃k,hi.map ρ=none∧qh=len∨hi.map ρ=some (.int k qh):=by
    cases hi with
    |none=>
     simp [trOpt] at hhi
     subst hhi
     cases e1
     exact ⟨.i64, .inl ⟨rfl,rfl⟩⟩
    |some x=>
     simp only [trOpt] at hhi
     obtain ⟨ax,hx,rfl⟩:=map_some_inj hhi
     obtain ⟨k,_,h2⟩:=intOf_vr (hρ _ _ (hmh _ rfl) hx) e1
     exact ⟨k, .inr (by simp [h2])⟩
   have hl: ∃k,lo.map ρ=none∧ql=0∨lo.map ρ=some (.int k ql):=by
    cases lo with
    |none=>
     simp [trOpt] at hlo
     subst hlo
     cases e2
     exact ⟨.i64, .inl ⟨rfl,rfl⟩⟩
    |some x=>
     simp only [trOpt] at hlo
     obtain ⟨ax,hx,rfl⟩:=map_some_inj hlo
     obtain ⟨k,_,h2⟩:=intOf_vr (hρ _ _ (hml _ rfl) hx) e2
     exact ⟨k, .inr (by simp [h2])⟩
   obtain ⟨k1,⟨h1,rfl⟩|h1⟩:=hh<;>obtain ⟨k2,⟨h2,rfl⟩|h2⟩:=hl<;>rw [h1,h2]
   ·simp [Instr.sliceBounds]
   ·have:((Instr.sliceBound (.int k2 ql) len .sliceB).run Pr w)= .ok ql.toNat w:=run_sliceBound w k2 ql len _ (by omega) (by omega)
    simp [Instr.sliceBounds,this]
   ·have: ∀cd,((Instr.sliceBound (.int k1 qh) cap cd).run Pr w)= .ok qh.toNat w:=fun cd=>run_sliceBound w k1 qh cap cd (by omega) (by omega)
    simp [Instr.sliceBounds,this]
   ·have a1: ∀cd,((Instr.sliceBound (.int k1 qh) cap cd).run Pr w)= .ok qh.toNat w:=fun cd=>run_sliceBound w k1 qh cap cd (by omega) (by omega)
    have a2:((Instr.sliceBound (.int k2 ql) qh.toNat .sliceB).run Pr w)= .ok ql.toNat w:=run_sliceBound w k2 ql _ _ (by omega) (by omega)
    simp [Instr.sliceBounds,a1,a2]
  ·cases hc
 ·cases hc
theorem s_slice (hR:Rel φ β H w) {os:Array Operand} (hρ: ∀x ax,x∈os→trOpd μ φ x=some ax→VR φ β (ρa ax) (ρ x)) {t e:TypeId} {sz:Nat} {x y:Value} {lo hi:Option Operand} {alo ahi:Option Opd} (hml: ∀x,lo=some x→x∈os) (hmh: ∀x,hi=some x→x∈os) (hx:VR φ β x y) (hlo:trOpt μ φ lo=some alo) (hhi:trOpt μ φ hi=some ahi)
  (ht:Pr.underlying t=some (.slice e)) (hs:szT Pr e=some sz)
  (ha:(match (generalizing:=false) x with
   | .slice (some ⟨b,o,none⟩) len e'=>if e'=sz then (cutOf ρa len alo ahi).map fun (l,h)=>(S b (o+l*sz) (h-l) sz,H) else none
   | .slice none 0 0=>(cutOf ρa 0 alo ahi).map fun _=>(Value.slice none 0 0,H)
   | _=>none)=some (v,H')):
  OpOK φ β H w ((do pure (Next.value (←Instr.sliceAt t y (lo.map ρ) (hi.map ρ) none)):Sem Next).run Pr w) v H':=by
 split at ha
 ·rename_i b o len e'
  split at ha
  ·rename_i he
   subst he
   obtain ⟨⟨l,h⟩,hc,hv⟩:=map_some_inj ha
   cases hv
   cases hx with
   |plain h=>simp [Am.plain] at h
   |slice hL hl hcap=>
    rename_i c g base N
    obtain ⟨h1,h2,h3⟩:=cut_run (Pr:=Pr) (w:=w) true hρ hml hmh hlo hhi hl hc
    have hrun:((do pure (Next.value (←Instr.sliceAt t (.slice (some ⟨g,base+o,none⟩) len c) (lo.map ρ) (hi.map ρ) none)):Sem Next).run Pr w)=
      .ok (.value (.slice (if c=l then some ⟨g,base+o,none⟩ else some ⟨g,base+o+l*e',none⟩) (h-l) (c-l))) w:=by
     simp [Instr.sliceAt,Instr.slice,run_underlying ht,h1,sizeOf_run hs,add_none]
    by_cases e:c=l
    ·refine .same hR hrun ?_
     rw [if_pos e]
     have:h-l=0:=by omega
     rw [this,show c-l=0 by omega]
     exact .slice0
    ·refine .same hR hrun ?_
     rw [if_neg e,Nat.add_assoc]
     refine .slice hL (by omega) ?_
     have:(c-l)*e'+l*e'=c*e':=by rw [←Nat.add_mul];congr 1;omega
     omega
   |slice0=>
    rename_i a
    obtain ⟨h1,h2,h3⟩:=cut_run (Pr:=Pr) (w:=w) true hρ hml hmh hlo hhi (Nat.le_refl 0) hc
    obtain rfl:h=0:=by omega
    obtain rfl:l=0:=by omega
    refine .same hR (v':= .slice (some a) 0 0) ?_ .slice0
    simp [Instr.sliceAt,Instr.slice,run_underlying ht,h1,sizeOf_run hs]
  ·cases ha
 ·obtain ⟨⟨l,h⟩,hc,hv⟩:=map_some_inj ha
  cases hv
  obtain ⟨_,_,rfl⟩:=hx.nil_inv
  obtain ⟨h1,h2,h3⟩:=cut_run (Pr:=Pr) (w:=w) true hρ hml hmh hlo hhi (Nat.le_refl 0) hc
  obtain rfl:h=0:=by omega
  obtain rfl:l=0:=by omega
  refine .same hR (v':= .slice none 0 0) ?_ (.plain rfl)
  simp [Instr.sliceAt,Instr.slice,run_underlying ht,h1,sizeOf_run hs]
 ·cases ha
theorem s_sliceStr (hR:Rel φ β H w) {os:Array Operand} (hρ: ∀x ax,x∈os→trOpd μ φ x=some ax→VR φ β (ρa ax) (ρ x)) {t:TypeId} {x y:Value} {lo hi:Option Operand} {alo ahi:Option Opd} (hml: ∀x,lo=some x→x∈os) (hmh: ∀x,hi=some x→x∈os) (hx:VR φ β x y) (hlo:trOpt μ φ lo=some alo) (hhi:trOpt μ φ hi=some ahi)
  (ht:Pr.underlying t=some .string)
  (ha:(match (generalizing:=false) x with| .string s=>(cutOf ρa s.size alo ahi).map fun (l,h)=>(Value.string (s.extract l h),H)| _=>none)=some (v,H')):
  OpOK φ β H w ((do pure (Next.value (←Instr.sliceAt t y (lo.map ρ) (hi.map ρ) none)):Sem Next).run Pr w) v H':=by
 split at ha
 ·rename_i s
  obtain ⟨⟨l,h⟩,hc,hv⟩:=map_some_inj ha
  cases hv
  have:=hx.string
  subst this
  obtain ⟨h1,h2,h3⟩:=cut_run (Pr:=Pr) (w:=w) false hρ hml hmh hlo hhi (Nat.le_refl s.size) hc
  refine .same hR (v':= .string (s.extract l h)) ?_ (.plain rfl)
  simp [Instr.sliceAt,Instr.slice,run_underlying ht,h1]
 ·cases ha
theorem askRoom_run (n:Nat) (w:World):(askRoom n).run Pr w= .ok () w:=by unfold askRoom;split<;>rfl
theorem s_makeSlice (hR:Rel φ β H w) {t e:TypeId} {i:TypeInfo} {z:List Value} {x y a b:Value} (hx:VR φ β x y) (hy:VR φ β a b) (ht:Pr.underlying t=some (.slice e)) (hi:Pr.info? e=some i) (hz:zeroT Pr e=some z) (hl:z.length=i.size)
  (hf: ∀b,H.n≤b→b<H'.n→β b=none)
  (ha:(match (generalizing:=false) x,a with
   | .int _ l, .int _ c=>if 0≤l∧l≤c∧c*i.bytes≤140737488355328∧c≤9223372036854775807 then some (S H.n 0 l.toNat i.size,H.alloc (repl z c.toNat)) else none
   | _,_=>none)=some (v,H')):
  OpOK φ β H w ((do pure (Next.value (←Instr.makeSlice t y b)):Sem Next).run Pr w) v H':=by
 split at ha
 ·rename_i k l k' c
  split at ha
  ·rename_i hc
   obtain ⟨h0,h1,h2,h3⟩:=hc
   cases ha
   have:=hx.int
   subst this
   have:=hy.int
   subst this
   obtain ⟨i',zv,hi',hzv,hzl,hp⟩:=zeroT_some hz
   rw [hi] at hi'
   cases hi'
   have hzs:zv.cells.size=i.size:=by rw [←hl,←hzl];simp
   have hrun:=run_make (P:=Pr) w t e i zv ht hi hzv k k' l c h0 h1 (by rw [Int.mul_comm];omega) h3
   have hmc:madeCells zv.cells (c.toNat*i.size)=⟨repl z c.toNat⟩:=by rw [←hzs,repl_made,hzl]
   rw [hmc] at hrun
   have hpl:VRL φ β (repl z c.toNat) (repl z c.toNat):=VRL.plain fun q hq=>by
    unfold repl at hq
    obtain ⟨l',hl',hq'⟩:=List.mem_flatten.1 hq
    have:=(List.mem_replicate.1 hl').2
    subst this
    exact hp q hq'
   obtain ⟨g1,g2⟩:=VRL.gets (c:=⟨repl z c.toNat⟩) hpl
   have hlen:(repl z c.toNat).length=c.toNat*i.size:=by rw [repl_len,hl]
   refine OpOK.newS hR (hf H.n (Nat.le_refl _) (by simp [AHeap.alloc])) g1 g2 (l:=l.toNat) (cap:=c.toNat) (by omega) (by simp [hlen]) ?_ (t:=e)
   simp [hrun]
  ·cases ha
 ·cases ha
theorem s_buildSlice (hR:Rel φ β H w) {os:Array Operand} (hρ: ∀x ax,x∈os→trOpd μ φ x=some ax→VR φ β (ρa ax) (ρ x)) {t e:TypeId} {n sz:Nat} {z:List Value} {parts:Array (Nat×Operand)} {ps:List (Nat×Nat×Opd)} (ht:Pr.underlying t=some (.slice e)) (hs:szT Pr e=some sz) (hz:zeroT Pr e=some z) (hl:z.length=sz) (hm: ∀p∈parts.toList,p.2∈os)
  (hp:optL (trPart μ φ fun i=>some (i*sz,sz)) parts.toList=some ps) (hf: ∀b,H.n≤b→b<H'.n→β b=none)
  (ha:(if n*sz≤16777216 then (fillL (repl z n) (ps.map fun p=>(p.1,p.2.1,ρa p.2.2))).map fun cs=>(S H.n 0 n sz,H.alloc cs) else none)=some (v,H')):
  OpOK φ β H w ((do pure (Next.value (←Instr.buildSlice t n (parts.map fun (i,x)=>(i,ρ x)))):Sem Next).run Pr w) v H':=by
 split at ha
 ·rename_i hn
  obtain ⟨cs,hc,hv⟩:=map_some_inj ha
  cases hv
  obtain ⟨i,zv,hi,hzv,hzl,hpl⟩:=zeroT_some hz
  have hpl':VRL φ β (repl z n) (repl z n):=VRL.plain fun q hq=>by
   unfold repl at hq
   obtain ⟨l',hl',hq'⟩:=List.mem_flatten.1 hq
   have:=(List.mem_replicate.1 hl').2
   subst this
   exact hpl q hq'
  obtain ⟨c,h1,h2⟩:=fill_ok hρ _ parts.toList ps (repl z n) ⟨repl z n⟩ cs hm hp hpl' hc
  obtain ⟨g1,g2⟩:=h2.gets
  have hzs:zv.cells.size=sz:=by rw [←hl,←hzl];simp
  have hmc:madeCells zv.cells (n*sz)=⟨repl z n⟩:=by rw [←hzs,repl_made,hzl]
  have hcs:cs.length=n*sz:=by
   have key: ∀(ps:List (Nat×Nat×Value)) (xs out:List Value),fillL xs ps=some out→out.length=xs.length:=by
    intro ps
    induction ps with
    |nil=>intro xs out h;simp [fillL] at h;rw [h]
    |cons p ps ih=>
     intro xs out h
     simp only [fillL] at h
     split at h
     ·rename_i hc
      rw [ih _ _ h,splice_len (by omega)]
     ·cases h
   rw [key _ _ _ hc,repl_len,hl]
  refine OpOK.newS hR (hf H.n (Nat.le_refl _) (by simp [AHeap.alloc])) g1 g2 (l:=n) (cap:=n) (Nat.le_refl _) (by omega) ?_ (t:=e)
  have hparts:(parts.map fun (p:Nat×Operand)=>(p.1,ρ p.2)).toList=parts.toList.map fun p=>(p.1,ρ p.2):=by simp
  have hgt: ¬(n*sz>2^24):=by omega
  by_cases h0:n*sz=0
  ·have hm0:(⟨repl z n⟩:Array Value)= #[]:=by
    have:=repl_len z n
    rw [hl,h0] at this
    have:=List.eq_nil_of_length_eq_zero this
    rw [this]
   rw [hm0] at h1
   simp [Instr.buildSlice,run_underlying ht,sizeOf_run hs,hgt,h0,Array.range_zero',h1,newRow]
  ·have hz':(zeroValue e).run Pr w= .ok zv w:=by simp [zeroValue,typeInfo,hi,hzv]
   have hmc':(Array.range (n*sz)).map (zv.cells[· %zv.cells.size]!)=⟨repl z n⟩:=hmc
   simp [Instr.buildSlice,run_underlying ht,sizeOf_run hs,hgt,h0,hz',hmc',h1,newRow]
 ·cases ha
end
end Go.Am
