/- Each operation of the small machine is the model's. -/
import Derived.Test.YtkapkmjofpoebaaGreatAmTr
import Derived.Laws.Append
import Derived.WalkSpells
set_option linter.unusedVariables false
set_option linter.unusedSimpArgs false
namespace Go.Am
open Go
section
variable {Pr:Program} {μ φ:iO} {β:Ren} {H H':aA} {w:World} {ρ:Operand→Value} {jH:aN→Value} {v:Value}
theorem map_some_inj {α γ:Type} {f:α→γ} {x:Option α} {y:γ} (h:x.map f=some y): ∃a,x=some a∧f a=y:=Option.map_eq_some_iff.1 h
theorem akr (hR:Rel φ β H w) {t:TypeId} {n:Option Nat} {x y:Value} (hx:VR φ β x y) (hn:uM Pr t=some n)
  (ha:(match (generalizing:=false) x with| .pointer (some ⟨b,o,none⟩)=>(match H.get b with|some blk=>(bV n blk.cells o).map fun v=>(v,H)|none=>none)| _=>none)=some (v,H')):
  fF φ β H w ((do pure (Next.value (←Instr.loadAt t y)):Sem Next).run Pr w) v H':=by
 split at ha
 ·rename_i b o
  split at ha
  ·rename_i blk hb
   obtain ⟨u,hu,he⟩:=map_some_inj ha
   cases he
   obtain ⟨g,base,N,hL,rfl⟩:=hx.nR
   obtain ⟨v',hv',hr⟩:=U6 (Pr:=Pr) hR hb hL hn hu
   exact .same hR (by simp [Instr.loadAt,Instr.sureAddr,hv']) hr
  ·cases ha
 ·cases ha
theorem aks (hR:Rel φ β H w) {t:TypeId} {n:Nat} {x y a b':Value} (hx:VR φ β x y) (hy:VR φ β a b') (hn:iV Pr t=some n)
  (ha:(match (generalizing:=false) x with| .pointer (some ⟨b,o,none⟩)=>(match H.get b with|some blk=>if blk.rw=true∧(iq a).length=n∧o+n≤blk.cells.length∧(iq a).all (·.oneCell')=true then some (undef,H.set b (splice blk.cells o (iq a))) else none|none=>none)| _=>none)=some (v,H')):
  fF φ β H w ((do Instr.storeAt t y b';pure Next.skip:Sem Next).run Pr w) v H':=by
 split at ha
 ·rename_i b o
  split at ha
  ·rename_i blk hb
   split at ha
   ·rename_i hc
    obtain ⟨hrw,hlen,hfit,hone⟩:=hc
    cases ha
    obtain ⟨g,base,N,hL,rfl⟩:=hx.nR
    obtain ⟨c,et,fr,h1,h2,h3,h4,h5⟩:=hR.cells _ _ _ hb hL
    obtain ⟨rfl,hbase⟩:=h4 hrw
    simp only at hbase h1 h2 h3
    subst hbase
    have hv:=hy.cells
    have akL:=hv.VD hone
    have hl':b'.cells.toList.length=n:=by rw [←hv.1,hlen]
    have hst:=run_storeCells_at Pr g (0+o) et b'.cells.toList 0 c w h1 (by omega) akL
    have hbig:(c.toList.take (0+o+0)++b'.cells.toList++c.toList.drop (0+o+0+b'.cells.toList.length))=splice c.toList o b'.cells.toList:=by simp [splice]
    rw [hbig] at hst
    have VE:c.toList.length=N:=by simpa using h2
    have hsz:((splice c.toList o b'.cells.toList).toArray).size=N:=by
     rw [List.size_toArray,Fj (by rw [hl',VE];omega)]
     exact VE
    refine ⟨_,undef,_,β,?_, .inr ⟨rfl,rfl⟩, .plain rfl,Good.set hR hb hrw hL (cs:=splice blk.cells o (iq a)) ?_ hsz ?_⟩
    ·have: ¬(b'.cells.size≠n):=by simp at hl';omega
     have hst':(storeVar t ⟨g,0+o,none⟩ b').run Pr w= .ok () (w.setRow g (splice c.toList o b'.cells.toList).toArray):=by
      simp only [storeVar,Sem.run_bind,rF hn,Result.andThen_ok,if_neg this,Sem.run_pure]
      exact hst
     simp only [Instr.storeAt,Instr.sureAddr,Sem.run_bind,Sem.run_pure,Result.andThen_ok,hst']
    ·rw [Fj (by omega)]
     show blk.cells.length≤N
     omega
    ·have hc0:bZ φ β blk.cells (c.toList.take blk.cells.length):=by
      refine ⟨by simp;omega,fun i a d ha hd=>?_⟩
      obtain ⟨hi,_⟩:=List.getElem?_eq_some_iff.1 ha
      obtain ⟨u,hu,hr⟩:=h5 i a ha
      rw [List.getElem?_take,if_pos hi,Array.getElem?_toList] at hd
      simp only [Nat.zero_add] at hu
      rw [hu] at hd
      cases hd
      exact hr
     intro i x hi
     obtain ⟨u,hu,hr⟩:=(hc0.splice hv o).at_ hi
     refine ⟨u,?_,hr⟩
     have hil:i<blk.cells.length:=by
      have:=(List.getElem?_eq_some_iff.1 hi).1
      rwa [Fj (by omega)] at this
     rw [List.getElem?_toArray]
     unfold splice at hu⊢
     simp only [List.getElem?_append,List.length_append,List.length_take,List.getElem?_take,List.getElem?_drop,Array.length_toList,hl'] at hu⊢
     have e1:min o (min blk.cells.length c.size)=o:=by omega
     have e2:min o c.size=o:=by omega
     rw [e1] at hu
     rw [e2]
     by_cases q1:i<o
     ·simp [q1,show i<o+n by omega,hil] at hu⊢
      exact hu
     ·by_cases q2:i<o+n
      ·simp [q1,q2] at hu⊢
       exact hu
      ·simp [q1,q2,show o+n+(i-(o+n))=i by omega,hil] at hu⊢
       exact hu
   ·cases ha
  ·cases ha
 ·cases ha
theorem akt (hR:Rel φ β H w) {op:BinOp} {t:TypeId} {x y:Value} {xo yo:Operand} (k:IntKind) (hk:Pr.underlying t=some (.int k)) {r:Value} (ha:fM op x y=some r):
  ((do eqGuard op t xo yo x y;binOp op t x y:Sem Value).run Pr w)= .ok r w:=by
 have hsh: ∀(op:BinOp) (k k':IntKind) (a b:Int) (r:Value),vk op k a b=some r→((do eqGuard op t xo yo (.int k a) (.int k' b);binOp op t (.int k a) (.int k' b):Sem Value).run Pr w)= .ok r w:=by
  intro op k k' a b r h
  cases op<;>simp only [vk] at h<;>(try (cases h;done))
  all_goals
   split at h
   ·cases h
   ·rename_i hb
    cases h
    simp [eqGuard,binOp,Op.shift,hb]
 unfold fM at ha
 split at ha
 ·rename_i k a k' b
  split at ha
  ·rename_i hkk
   subst hkk
   cases op<;>simp only at ha<;>first|exact hsh _ _ _ _ _ _ ha|(cases ha;simp [eqGuard,binOp,Op.intArith,Op.intCmp,Op.intBits];done)|(cases ha;rfl)|skip
   all_goals
    split at ha
    ·cases ha
    ·rename_i hb
     cases ha
     simp [eqGuard,binOp,Op.intDiv,hb]
  ·exact hsh _ _ _ _ _ _ ha
 ·cases ha
theorem aku {op:BinOp} {t:TypeId} {x y:Value} {xo yo:Operand} {r:Value} (ha:jB op x y=some r):
  ((do eqGuard op t xo yo x y;binOp op t x y:Sem Value).run Pr w)= .ok r w:=by
 unfold jB at ha
 split at ha
 ·rename_i a b
  cases op<;>simp only at ha<;>(try cases ha)<;>(try simp [eqGuard,binOp,Op.stringOp])
  split at ha
  ·rename_i hs
   cases ha
   have hm:IntKind.max .i64=9223372036854775807:=by decide
   simp [hm,show¬(9223372036854775807<(a.size:Int)+(b.size:Int)) by omega]
  ·cases ha
 ·cases ha
theorem VF {t:TypeId} (ht:Pr.underlying t=some .bool) (d:Nat) (a b:Bool):(Op.equalIn (d+1) t (.bool a) (.bool b)).run Pr w= .ok (a==b) w:=by
 simp only [Op.equalIn,Sem.run_bind,run_underlying ht,Result.andThen_ok]
 rfl
theorem VG {t e:TypeId} (ht:Pr.underlying t=some (.slice e)) (d:Nat) (a:Option Addr) (l c:Nat):(Op.equalIn (d+1) t (.slice a l c) (.slice none 0 0)).run Pr w= .ok a.isNone w:=by
 simp only [Op.equalIn,Sem.run_bind,run_underlying ht,Result.andThen_ok]
 cases a<;>rfl
theorem JA (t:TypeId) (x y:Value):Op.equal t x y=Op.equalIn (9999+1) t x y:=rfl
theorem akv {t:TypeId} {xo yo:Operand} {a b:Bool} (ht:Pr.underlying t=some .bool) (op:BinOp) (neg:Bool) (hop:op=(if neg then .neq else .eql)):
  ((do eqGuard op t xo yo (.bool a) (.bool b);binOp op t (.bool a) (.bool b):Sem Value).run Pr w)= .ok (.bool (if neg then !(a==b) else (a==b))) w:=by
 subst hop
 cases neg
 ·have:binOp .eql t (.bool a) (.bool b)=(do pure (.bool (←Op.equal t (.bool a) (.bool b))):Sem Value):=rfl
  simp only [Bool.false_eq_true,if_false,this,Sem.run_bind,JA,VF ht,Result.andThen_ok]
  rfl
 ·have:binOp .neq t (.bool a) (.bool b)=(do pure (.bool (!(←Op.equal t (.bool a) (.bool b)))):Sem Value):=rfl
  simp only [if_true,this,Sem.run_bind,JA,VF ht,Result.andThen_ok]
  rfl
theorem akw {t e:TypeId} {xo yo:Operand} {a:Option Addr} {l c:Nat} (ht:Pr.underlying t=some (.slice e)) (op:BinOp) (neg:Bool) (hop:op=(if neg then .neq else .eql)):
  ((do eqGuard op t xo yo (.slice a l c) (.slice none 0 0);binOp op t (.slice a l c) (.slice none 0 0):Sem Value).run Pr w)= .ok (.bool (if neg then !a.isNone else a.isNone)) w:=by
 subst hop
 cases neg
 ·have:binOp .eql t (.slice a l c) (.slice none 0 0)=(do pure (.bool (←Op.equal t (.slice a l c) (.slice none 0 0))):Sem Value):=rfl
  simp only [Bool.false_eq_true,if_false,this,Sem.run_bind,JA,VG ht,Result.andThen_ok]
  rfl
 ·have:binOp .neq t (.slice a l c) (.slice none 0 0)=(do pure (.bool (!(←Op.equal t (.slice a l c) (.slice none 0 0)))):Sem Value):=rfl
  simp only [if_true,this,Sem.run_bind,JA,VG ht,Result.andThen_ok]
  rfl
theorem akD (hR:Rel φ β H w) {s:TypeId} {fs:Array Field} {f:Nat} {fd:Field} {n:Option Nat} {x y:Value} (hx:VR φ β x y) (hs:Pr.underlying s=some (.struct fs)) (hf:fs[f]? =some fd) (hn:uM Pr fd.type=some n)
  (ha:(match (generalizing:=false) x with| .agg cs=>(bV n cs.toList fd.offset).map fun v=>(v,H)| _=>none)=some (v,H')):
  fF φ β H w ((do pure (Next.value (←Instr.field s y f)):Sem Next).run Pr w) v H':=by
 split at ha
 ·rename_i cs
  obtain ⟨u,hu,he⟩:=map_some_inj ha
  cases he
  obtain ⟨ds,rfl,hr⟩:=hx.vP
  obtain ⟨v',hv',hr'⟩:=VH (Pr:=Pr) (w:=w) hn hr hu
  exact .same hR (by simp [Instr.field,run_underlying hs,hf,asAgg,hv']) hr'
 ·cases ha
theorem oW {x y:Value} {i:Int} (hx:VR φ β x y) (h:intOf x=some i): ∃k,x= .int k i∧y= .int k i:=by
 unfold intOf at h
 split at h
 ·rename_i k n
  cases h
  exact ⟨k,rfl,hx.int⟩
 ·cases h
theorem akG (hR:Rel φ β H w) {t e:TypeId} {len sz:Nat} {n:Option Nat} {x y i j:Value} (hx:VR φ β x y) (hi:VR φ β i j) (ht:Pr.underlying t=some (.array len e)) (hs:iV Pr e=some sz) (hn:uM Pr e=some n)
  (ha:(match (generalizing:=false) x,intOf i with| .agg cs,some i=>if 0≤i∧i<len then (bV n cs.toList (i.toNat*sz)).map fun v=>(v,H) else none| _,_=>none)=some (v,H')):
  fF φ β H w ((do pure (Next.value (←Instr.index t y j)):Sem Next).run Pr w) v H':=by
 split at ha
 ·rename_i cs q hq
  obtain ⟨k,rfl,rfl⟩:=oW hi hq
  split at ha
  ·rename_i hc
   obtain ⟨u,hu,he⟩:=map_some_inj ha
   cases he
   obtain ⟨ds,rfl,hr⟩:=hx.vP
   obtain ⟨v',hv',hr'⟩:=VH (Pr:=Pr) (w:=w) hn hr hu
   exact .same hR (by simp [Instr.index,asIntOf,run_underlying ht,hc.1,hc.2,rF hs,hv']) hr'
  ·cases ha
 ·cases ha
theorem akH (hR:Rel φ β H w) {t:TypeId} {x y i j:Value} (hx:VR φ β x y) (hi:VR φ β i j) (ht:Pr.underlying t=some .string)
  (ha:(match (generalizing:=false) x,intOf i with| .string s,some i=>if 0≤i then (s[i.toNat]?).map fun b=>(Value.int .u8 b.toNat,H) else none| _,_=>none)=some (v,H')):
  fF φ β H w ((do pure (Next.value (←Instr.index t y j)):Sem Next).run Pr w) v H':=by
 split at ha
 ·rename_i s q hq
  obtain ⟨k,rfl,rfl⟩:=oW hi hq
  split at ha
  ·rename_i hc
   obtain ⟨u,hu,he⟩:=map_some_inj ha
   cases he
   have:=hx.string
   subst this
   exact .same hR (by simp [Instr.index,asIntOf,run_underlying ht,hc,hu]) (.plain rfl)
  ·cases ha
 ·cases ha
theorem BX (g o k:Nat):(⟨g,o,none⟩:Addr).add k=⟨g,o+k,none⟩:=by unfold Addr.add;split<;>simp_all
theorem akE (hR:Rel φ β H w) {t e:TypeId} {sz:Nat} {x y i j:Value} (hx:VR φ β x y) (hi:VR φ β i j) (ht:Pr.underlying t=some (.slice e)) (hs:iV Pr e=some sz)
  (ha:(match (generalizing:=false) x,intOf i with| .slice (some ⟨b,o,none⟩) len e',some i=>if 0≤i∧i<len∧e'=sz then some (P b (o+i.toNat*sz),H) else none| _,_=>none)=some (v,H')):
  fF φ β H w ((do pure (Next.value (←Instr.indexAt t y j)):Sem Next).run Pr w) v H':=by
 split at ha
 ·rename_i b o len e' q hq
  obtain ⟨k,rfl,rfl⟩:=oW hi hq
  split at ha
  ·rename_i hc
   obtain ⟨h0,h1,rfl⟩:=hc
   cases ha
   cases hx with
   |plain h=>simp [Am.plain] at h
   |slice hL hl hcap=>
    rename_i c g base N
    refine .same hR (v':= .pointer (some ⟨g,base+(o+q.toNat*e'),none⟩)) ?_ (.ptr hL)
    simp [Instr.indexAt,asIntOf,run_underlying ht,h0,h1,rF hs,BX,Nat.add_assoc]
   |pG=>omega
  ·cases ha
 ·cases ha
theorem akF (hR:Rel φ β H w) {t e:TypeId} {n sz:Nat} {x y i j:Value} (hx:VR φ β x y) (hi:VR φ β i j) (ht:Pr.underlying t=some (.array n e)) (hs:iV Pr e=some sz)
  (ha:(match (generalizing:=false) x,intOf i with| .pointer (some ⟨b,o,none⟩),some i=>if 0≤i∧i<n then some (P b (o+i.toNat*sz),H) else none| _,_=>none)=some (v,H')):
  fF φ β H w ((do pure (Next.value (←Instr.indexAt t y j)):Sem Next).run Pr w) v H':=by
 split at ha
 ·rename_i b o q hq
  obtain ⟨k,rfl,rfl⟩:=oW hi hq
  split at ha
  ·rename_i hc
   obtain ⟨h0,h1⟩:=hc
   cases ha
   obtain ⟨g,base,N,hL,rfl⟩:=hx.nR
   refine .same hR (v':= .pointer (some ⟨g,base+(o+q.toNat*sz),none⟩)) ?_ (.ptr hL)
   simp [Instr.indexAt,Instr.sureAddr,asIntOf,run_underlying ht,h0,h1,rF hs,BX,Nat.add_assoc]
  ·cases ha
 ·cases ha
theorem akC (hR:Rel φ β H w) {s:TypeId} {fs:Array Field} {f n:Nat} {fd:Field} {x y:Value} (hx:VR φ β x y) (hs:Pr.underlying s=some (.struct fs)) (hf:fs[f]? =some fd) (hn:iV Pr fd.type=some n) (h0:n≠0)
  (ha:(match (generalizing:=false) x with| .pointer (some ⟨b,o,none⟩)=>some (P b (o+fd.offset),H)| _=>none)=some (v,H')):
  fF φ β H w ((do pure (Next.value (←Instr.fieldAt s y f)):Sem Next).run Pr w) v H':=by
 split at ha
 ·rename_i b o
  cases ha
  obtain ⟨g,base,N,hL,rfl⟩:=hx.nR
  refine .same hR (v':= .pointer (some ⟨g,base+(o+fd.offset),none⟩)) ?_ (.ptr hL)
  simp [Instr.fieldAt,run_underlying hs,hf,Instr.sureAddr,fieldPlace,rF hn,h0,BX,Nat.add_assoc]
 ·cases ha
theorem Fg (isS:Bool) {os:Array Operand} (hρ: ∀x ax,x∈os→dN μ φ x=some ax→VR φ β (jH ax) (ρ x)) {lo hi:Option Operand} (hml: ∀x,lo=some x→x∈os) (wV: ∀x,hi=some x→x∈os) {qJ qK:Option aN} (hlo:rE μ φ lo=some qJ) (hhi:rE μ φ hi=some qK) {len cap l h:Nat} (hcap:len≤cap) (hc:jc jH len qJ qK=some (l,h)):
  (Instr.sliceBounds isS len cap (lo.map ρ) (hi.map ρ) none).run Pr w= .ok (l,h,cap) w∧l≤h∧h≤len:=by
 unfold jc at hc
 split at hc
 ·rename_i qh ql e1 e2
  split at hc
  ·rename_i hb
   cases hc
   refine ⟨?_,by omega,by omega⟩
   have hh: ∃k,hi.map ρ=none∧qh=len∨hi.map ρ=some (.int k qh):=by
    cases hi with
    |none=>
     simp [rE] at hhi
     subst hhi
     cases e1
     exact ⟨.i64, .inl ⟨rfl,rfl⟩⟩
    |some x=>
     simp only [rE] at hhi
     obtain ⟨ax,hx,rfl⟩:=map_some_inj hhi
     obtain ⟨k,_,h2⟩:=oW (hρ _ _ (wV _ rfl) hx) e1
     exact ⟨k, .inr (by simp [h2])⟩
   have hl: ∃k,lo.map ρ=none∧ql=0∨lo.map ρ=some (.int k ql):=by
    cases lo with
    |none=>
     simp [rE] at hlo
     subst hlo
     cases e2
     exact ⟨.i64, .inl ⟨rfl,rfl⟩⟩
    |some x=>
     simp only [rE] at hlo
     obtain ⟨ax,hx,rfl⟩:=map_some_inj hlo
     obtain ⟨k,_,h2⟩:=oW (hρ _ _ (hml _ rfl) hx) e2
     exact ⟨k, .inr (by simp [h2])⟩
   obtain ⟨k1,⟨h1,rfl⟩|h1⟩:=hh<;>obtain ⟨k2,⟨h2,rfl⟩|h2⟩:=hl<;>rw [h1,h2]
   ·simp [Instr.sliceBounds]
   ·have:((Instr.sliceBound (.int k2 ql) len .sliceB).run Pr w)= .ok ql.toNat w:=run_sliceBound w k2 ql len _ (by omega) (by omega)
    simp [Instr.sliceBounds,this]
   ·have: ∀cd,((Instr.sliceBound (.int k1 qh) cap cd).run Pr w)= .ok qh.toNat w:=fun cd=>run_sliceBound w k1 qh cap cd (by omega) (by omega)
    simp [Instr.sliceBounds,this]
   ·have a1: ∀cd,((Instr.sliceBound (.int k1 qh) cap cd).run Pr w)= .ok qh.toNat w:=fun cd=>run_sliceBound w k1 qh cap cd (by omega) (by omega)
    have a2:((Instr.sliceBound (.int k2 ql) qh.toNat .sliceB).run Pr w)= .ok ql.toNat w:=run_sliceBound w k2 ql _ _ (by omega) (by omega)
    simp [Instr.sliceBounds,a1,a2]
  ·cases hc
 ·cases hc
theorem akA (hR:Rel φ β H w) {os:Array Operand} (hρ: ∀x ax,x∈os→dN μ φ x=some ax→VR φ β (jH ax) (ρ x)) {t e:TypeId} {sz:Nat} {x y:Value} {lo hi:Option Operand} {qJ qK:Option aN} (hml: ∀x,lo=some x→x∈os) (wV: ∀x,hi=some x→x∈os) (hx:VR φ β x y) (hlo:rE μ φ lo=some qJ) (hhi:rE μ φ hi=some qK)
  (ht:Pr.underlying t=some (.slice e)) (hs:iV Pr e=some sz)
  (ha:(match (generalizing:=false) x with
   | .slice (some ⟨b,o,none⟩) len e'=>if e'=sz then (jc jH len qJ qK).map fun (l,h)=>(S b (o+l*sz) (h-l) sz,H) else none
   | .slice none 0 0=>(jc jH 0 qJ qK).map fun _=>(Value.slice none 0 0,H)
   | _=>none)=some (v,H')):
  fF φ β H w ((do pure (Next.value (←Instr.sliceAt t y (lo.map ρ) (hi.map ρ) none)):Sem Next).run Pr w) v H':=by
 split at ha
 ·rename_i b o len e'
  split at ha
  ·rename_i he
   subst he
   obtain ⟨⟨l,h⟩,hc,hv⟩:=map_some_inj ha
   cases hv
   cases hx with
   |plain h=>simp [Am.plain] at h
   |slice hL hl hcap=>
    rename_i c g base N
    obtain ⟨h1,h2,h3⟩:=Fg (Pr:=Pr) (w:=w) true hρ hml wV hlo hhi hl hc
    have hrun:((do pure (Next.value (←Instr.sliceAt t (.slice (some ⟨g,base+o,none⟩) len c) (lo.map ρ) (hi.map ρ) none)):Sem Next).run Pr w)=
      .ok (.value (.slice (if c=l then some ⟨g,base+o,none⟩ else some ⟨g,base+o+l*e',none⟩) (h-l) (c-l))) w:=by
     simp [Instr.sliceAt,Instr.slice,run_underlying ht,h1,rF hs,BX]
    by_cases e:c=l
    ·refine .same hR hrun ?_
     rw [if_pos e]
     have:h-l=0:=by omega
     rw [this,show c-l=0 by omega]
     exact .pG
    ·refine .same hR hrun ?_
     rw [if_neg e,Nat.add_assoc]
     refine .slice hL (by omega) ?_
     have:(c-l)*e'+l*e'=c*e':=by rw [←Nat.add_mul];congr 1;omega
     omega
   |pG=>
    rename_i a
    obtain ⟨h1,h2,h3⟩:=Fg (Pr:=Pr) (w:=w) true hρ hml wV hlo hhi (Nat.le_refl 0) hc
    obtain rfl:h=0:=by omega
    obtain rfl:l=0:=by omega
    refine .same hR (v':= .slice (some a) 0 0) ?_ .pG
    simp [Instr.sliceAt,Instr.slice,run_underlying ht,h1,rF hs]
  ·cases ha
 ·obtain ⟨⟨l,h⟩,hc,hv⟩:=map_some_inj ha
  cases hv
  obtain ⟨_,_,rfl⟩:=hx.uN
  obtain ⟨h1,h2,h3⟩:=Fg (Pr:=Pr) (w:=w) true hρ hml wV hlo hhi (Nat.le_refl 0) hc
  obtain rfl:h=0:=by omega
  obtain rfl:l=0:=by omega
  refine .same hR (v':= .slice none 0 0) ?_ (.plain rfl)
  simp [Instr.sliceAt,Instr.slice,run_underlying ht,h1,rF hs]
 ·cases ha
theorem akB (hR:Rel φ β H w) {os:Array Operand} (hρ: ∀x ax,x∈os→dN μ φ x=some ax→VR φ β (jH ax) (ρ x)) {t:TypeId} {x y:Value} {lo hi:Option Operand} {qJ qK:Option aN} (hml: ∀x,lo=some x→x∈os) (wV: ∀x,hi=some x→x∈os) (hx:VR φ β x y) (hlo:rE μ φ lo=some qJ) (hhi:rE μ φ hi=some qK)
  (ht:Pr.underlying t=some .string)
  (ha:(match (generalizing:=false) x with| .string s=>(jc jH s.size qJ qK).map fun (l,h)=>(Value.string (s.extract l h),H)| _=>none)=some (v,H')):
  fF φ β H w ((do pure (Next.value (←Instr.sliceAt t y (lo.map ρ) (hi.map ρ) none)):Sem Next).run Pr w) v H':=by
 split at ha
 ·rename_i s
  obtain ⟨⟨l,h⟩,hc,hv⟩:=map_some_inj ha
  cases hv
  have:=hx.string
  subst this
  obtain ⟨h1,h2,h3⟩:=Fg (Pr:=Pr) (w:=w) false hρ hml wV hlo hhi (Nat.le_refl s.size) hc
  refine .same hR (v':= .string (s.extract l h)) ?_ (.plain rfl)
  simp [Instr.sliceAt,Instr.slice,run_underlying ht,h1]
 ·cases ha
theorem apP (n:Nat) (w:World):(askRoom n).run Pr w= .ok () w:=by unfold askRoom;split<;>rfl
theorem akz (hR:Rel φ β H w) {t e:TypeId} {i:TypeInfo} {z:List Value} {x y a b:Value} (hx:VR φ β x y) (hy:VR φ β a b) (ht:Pr.underlying t=some (.slice e)) (hi:Pr.info? e=some i) (hz:tJ Pr e=some z) (hl:z.length=i.size)
  (hf: ∀b,H.n≤b→b<H'.n→β b=none)
  (ha:(match (generalizing:=false) x,a with
   | .int _ l, .int _ c=>if 0≤l∧l≤c∧c*i.bytes≤140737488355328∧c≤9223372036854775807 then some (S H.n 0 l.toNat i.size,H.alloc (fB z c.toNat)) else none
   | _,_=>none)=some (v,H')):
  fF φ β H w ((do pure (Next.value (←Instr.makeSlice t y b)):Sem Next).run Pr w) v H':=by
 split at ha
 ·rename_i k l k' c
  split at ha
  ·rename_i hc
   obtain ⟨h0,h1,h2,h3⟩:=hc
   cases ha
   have:=hx.int
   subst this
   have:=hy.int
   subst this
   obtain ⟨i',zv,hi',hzv,hzl,hp⟩:=Fe hz
   rw [hi] at hi'
   cases hi'
   have hzs:zv.cells.size=i.size:=by rw [←hl,←hzl];simp
   have hrun:=run_make (P:=Pr) w t e i zv ht hi hzv k k' l c h0 h1 (by rw [Int.mul_comm];omega) h3
   have hmc:madeCells zv.cells (c.toNat*i.size)=⟨fB z c.toNat⟩:=by rw [←hzs,VI,hzl]
   rw [hmc] at hrun
   have hpl:bZ φ β (fB z c.toNat) (fB z c.toNat):=bZ.plain fun q hq=>by
    unfold fB at hq
    obtain ⟨l',hl',hq'⟩:=List.mem_flatten.1 hq
    have:=(List.mem_replicate.1 hl').2
    subst this
    exact hp q hq'
   obtain ⟨g1,g2⟩:=bZ.gets (c:=⟨fB z c.toNat⟩) hpl
   have hlen:(fB z c.toNat).length=c.toNat*i.size:=by rw [Fq,hl]
   refine fF.newS hR (hf H.n (Nat.le_refl _) (by simp [aA.alloc])) g1 g2 (l:=l.toNat) (cap:=c.toNat) (by omega) (by simp [hlen]) ?_ (t:=e)
   simp [hrun]
  ·cases ha
 ·cases ha
theorem akq (hR:Rel φ β H w) {os:Array Operand} (hρ: ∀x ax,x∈os→dN μ φ x=some ax→VR φ β (jH ax) (ρ x)) {t e:TypeId} {n sz:Nat} {z:List Value} {parts:Array (Nat×Operand)} {ps:List (Nat×Nat×aN)} (ht:Pr.underlying t=some (.slice e)) (hs:iV Pr e=some sz) (hz:tJ Pr e=some z) (hl:z.length=sz) (hm: ∀p∈parts.toList,p.2∈os)
  (hp:jU (BU μ φ fun i=>some (i*sz,sz)) parts.toList=some ps) (hf: ∀b,H.n≤b→b<H'.n→β b=none)
  (ha:(if n*sz≤16777216 then (dG (fB z n) (ps.map fun p=>(p.1,p.2.1,jH p.2.2))).map fun cs=>(S H.n 0 n sz,H.alloc cs) else none)=some (v,H')):
  fF φ β H w ((do pure (Next.value (←Instr.buildSlice t n (parts.map fun (i,x)=>(i,ρ x)))):Sem Next).run Pr w) v H':=by
 split at ha
 ·rename_i hn
  obtain ⟨cs,hc,hv⟩:=map_some_inj ha
  cases hv
  obtain ⟨i,zv,hi,hzv,hzl,hpl⟩:=Fe hz
  have hpl':bZ φ β (fB z n) (fB z n):=bZ.plain fun q hq=>by
   unfold fB at hq
   obtain ⟨l',hl',hq'⟩:=List.mem_flatten.1 hq
   have:=(List.mem_replicate.1 hl').2
   subst this
   exact hpl q hq'
  obtain ⟨c,h1,h2⟩:=N7 hρ _ parts.toList ps (fB z n) ⟨fB z n⟩ cs hm hp hpl' hc
  obtain ⟨g1,g2⟩:=h2.gets
  have hzs:zv.cells.size=sz:=by rw [←hl,←hzl];simp
  have hmc:madeCells zv.cells (n*sz)=⟨fB z n⟩:=by rw [←hzs,VI,hzl]
  have hcs:cs.length=n*sz:=by
   have key: ∀(ps:List (Nat×Nat×Value)) (xs out:List Value),dG xs ps=some out→out.length=xs.length:=by
    intro ps
    induction ps with
    |nil=>intro xs out h;simp [dG] at h;rw [h]
    |cons p ps ih=>
     intro xs out h
     simp only [dG] at h
     split at h
     ·rename_i hc
      rw [ih _ _ h,Fj (by omega)]
     ·cases h
   rw [key _ _ _ hc,Fq,hl]
  refine fF.newS hR (hf H.n (Nat.le_refl _) (by simp [aA.alloc])) g1 g2 (l:=n) (cap:=n) (Nat.le_refl _) (by omega) ?_ (t:=e)
  have hparts:(parts.map fun (p:Nat×Operand)=>(p.1,ρ p.2)).toList=parts.toList.map fun p=>(p.1,ρ p.2):=by simp
  have hgt: ¬(n*sz>2^24):=by omega
  by_cases h0:n*sz=0
  ·have hm0:(⟨fB z n⟩:Array Value)= #[]:=by
    have:=Fq z n
    rw [hl,h0] at this
    have:=List.eq_nil_of_length_eq_zero this
    rw [this]
   rw [hm0] at h1
   simp [Instr.buildSlice,run_underlying ht,rF hs,hgt,h0,Array.range_zero',h1,newRow]
  ·have hz':(zeroValue e).run Pr w= .ok zv w:=by simp [zeroValue,typeInfo,hi,hzv]
   have akM:(Array.range (n*sz)).map (zv.cells[· %zv.cells.size]!)=⟨fB z n⟩:=hmc
   simp [Instr.buildSlice,run_underlying ht,rF hs,hgt,h0,hz',akM,h1,newRow]
 ·cases ha
end
end Go.Am
