/- All operations that call nothing: what the small machine makes of one is what the model makes of it. -/
import Derived.Test.YtbpfbfbabpkceaaGreatAmApp
import Derived.Test.YtbpfbfbabpkceaaGreatAmEq
set_option linter.unusedVariables false
set_option linter.unusedSimpArgs false
namespace Go.Am
open Go
section
variable {Pr:Program} {μ φ:Fun} {β:Ren} {H H':AHeap} {w:World} {ρ:Operand→Value} {ρa:Opd→Value} {v:Value}
theorem OpOK.val {s:Sem Value} (h:OpOK φ β H w ((do pure (Next.value (←s)):Sem Next).run Pr w) v H'):OpOK φ β H w ((do pure (Next.value (←s)):Sem Next).run Pr w) v H':=h
theorem s_alloc (hR:Rel φ β H w) (hf: ∀b,H.n≤b→b<H'.n→β b=none) {e:TypeId} {z:List Value} (hz:zeroT Pr e=some z) (ha:some (P H.n 0,H.alloc z)=some (v,H')):
  OpOK φ β H w ((do pure (Next.value (←Instr.alloc e true (.tuple #[]))):Sem Next).run Pr w) v H':=by
 cases ha
 obtain ⟨i,zv,hi,hzv,hzl,hp⟩:=zeroT_some hz
 have hz': ∀w,(zeroValue e).run Pr w= .ok zv w:=fun w=>by simp [zeroValue,typeInfo,hi,hzv]
 refine OpOK.new hR (hf _ (Nat.le_refl _) (by simp [AHeap.alloc])) (c:=zv.cells) (t:=e) (by rw [hzl];exact VRL.plain hp) ?_
 simp [Instr.alloc,hz',newVar,newRow]
theorem s_box (hR:Rel φ β H w) (hf: ∀b,H.n≤b→b<H'.n→β b=none) {e:TypeId} {x y:Value} (hx:VR φ β x y) (ha:some (P H.n 0,H.alloc (cellsL x))=some (v,H')):
  OpOK φ β H w ((do pure (Next.value (←Instr.box e y)):Sem Next).run Pr w) v H':=by
 cases ha
 refine OpOK.new hR (hf _ (Nat.le_refl _) (by simp [AHeap.alloc])) (c:=y.cells) (t:=e) hx.cells ?_
 simp [Instr.box,newVar,newRow]
theorem s_build (hR:Rel φ β H w) {os:Array Operand} (hρ: ∀x ax,x∈os→trOpd μ φ x=some ax→VR φ β (ρa ax) (ρ x)) {t:TypeId} {pl:Nat→Option (Nat×Nat)} {z:List Value} {parts:Array (Nat×Operand)} {ps:List (Nat×Nat×Opd)} (hpl:placesT Pr t=some pl) (hz:zeroT Pr t=some z) (hm: ∀p∈parts.toList,p.2∈os)
  (hp:optL (trPart μ φ pl) parts.toList=some ps) (ha:(fillL z (ps.map fun p=>(p.1,p.2.1,ρa p.2.2))).map (fun cs=>(aggL cs,H))=some (v,H')):
  OpOK φ β H w ((do pure (Next.value (←Instr.build t (parts.map fun (i,x)=>(i,ρ x)))):Sem Next).run Pr w) v H':=by
 obtain ⟨cs,hc,hv⟩:=map_some_inj ha
 cases hv
 obtain ⟨i,zv,hi,hzv,hzl,hpz⟩:=zeroT_some hz
 obtain ⟨c,h1,h2⟩:=fill_ok hρ pl parts.toList ps z zv.cells cs hm hp (by rw [hzl];exact VRL.plain hpz) hc
 have hb:Pr.built t (parts.map fun (i,x)=>(i,ρ x)).toList=some c:=by
  have e:(parts.map fun (p:Nat×Operand)=>(p.1,ρ p.2)).toList=parts.toList.map fun p=>(p.1,ρ p.2):=by simp
  unfold Program.built
  unfold placesT at hpl
  split at hpl
  ·rename_i n el hu
   split at hpl
   ·rename_i s hs
    cases hpl
    unfold szT at hs
    cases hie:Pr.info? el with
    |none=>simp [hie] at hs
    |some ie=>
     simp [hie] at hs
     subst hs
     simp only [hi,hu,hzv,hie]
     rw [e]
     exact h1
   ·cases hpl
  ·rename_i fs hu
   split at hpl
   ·rename_i pls hps
    cases hpl
    simp only [hi,hu,hzv,hps]
    rw [e]
    exact h1
   ·cases hpl
  ·cases hpl
 refine .same hR (v':= .agg c) (by simp [run_build w t _ c hb]) ?_
 exact .agg h2.1 h2.2
theorem s_len (hR:Rel φ β H w) {t e ty:TypeId} {x y:Value} (hx:VR φ β x y) (ht:Pr.underlying t=some (.slice e)) (ha:(match (generalizing:=false) x with| .slice _ n _=>some (Value.int .i64 n,H)| _=>none)=some (v,H')):
  OpOK φ β H w ((do pure (Next.value (←Builtin.len_ #[t] ty #[y])):Sem Next).run Pr w) v H':=by
 cases x<;>simp at ha
 rename_i a n c
 obtain ⟨rfl,rfl⟩:=ha
 obtain ⟨a',c',rfl,_⟩:=hx.slice_inv
 exact .same hR (v':= .int .i64 n) (by simp [Builtin.len_,run_underlying ht,goInt]) (.plain rfl)
theorem s_lenStr (hR:Rel φ β H w) {t ty:TypeId} {x y:Value} (hx:VR φ β x y) (ht:Pr.underlying t=some .string) (ha:(match (generalizing:=false) x with| .string s=>some (Value.int .i64 s.size,H)| _=>none)=some (v,H')):
  OpOK φ β H w ((do pure (Next.value (←Builtin.len_ #[t] ty #[y])):Sem Next).run Pr w) v H':=by
 cases x<;>simp at ha
 rename_i s
 obtain ⟨rfl,rfl⟩:=ha
 have:=hx.string
 subst this
 exact .same hR (v':= .int .i64 s.size) (by simp [Builtin.len_,run_underlying ht,goInt]) (.plain rfl)
theorem s_lenConst (hR:Rel φ β H w) {t e ty:TypeId} {n:Nat} {y:Value} (ht:Pr.underlying t=some (.array n e)) (ha:some (Value.int .i64 n,H)=some (v,H')):
  OpOK φ β H w ((do pure (Next.value (←Builtin.len_ #[t] ty #[y])):Sem Next).run Pr w) v H':=by
 cases ha
 exact .same hR (v':= .int .i64 n) (by simp [Builtin.len_,run_underlying ht,goInt]) (.plain rfl)
theorem s_lenMap (hR:Rel φ β H w) {t kt et ty:TypeId} {qs:List IntKind} {x y:Value} (hx:VR φ β x y) (ht:Pr.underlying t=some (.map kt et)) (ha:aLen qs x H=some (v,H')):
  OpOK φ β H w ((do pure (Next.value (←Builtin.len_ #[t] ty #[y])):Sem Next).run Pr w) v H':=by
 unfold aLen at ha
 split at ha
 ·rename_i b
  split at ha
  ·rename_i gk hb hgk
   split at ha
   ·rename_i hc
    cases ha
    cases hx with
    |plain h=>simp [Am.plain] at h
    |map hL hlt=>
     rename_i g base N
     obtain ⟨_,_,es,ck,hh,hE⟩:=hR.maps b _ _ hL hlt hb
     have hE:=hE gk hgk (hR.mapn b _ hL hlt (by
      rcases Nat.lt_or_ge b H.n with q|q
      ·exact q
      ·rw [hR.fin b q] at hb;cases hb)).2
     rw [hE.count hc]
     exact .same hR (v':= .int .i64 es.size) (by simp [Builtin.len_,run_underlying ht,MapKept.run_getObj_map hh,goInt]) (.plain rfl)
   ·cases ha
  ·cases ha
 ·cases ha
theorem abm (hR:Rel φ β H w) {t e ty:TypeId} {z x y:Value} (hx:VR φ β x y) (ht:Pr.underlying t=some (.slice e)) (hz:zeroT Pr e=some [z]) (ha:sJ z x H=some (v,H')):
  OpOK φ β H w ((do pure (Next.value (←Builtin.clear_ #[t] ty #[y])):Sem Next).run Pr w) v H':=by
 unfold sJ at ha
 split at ha
 ·cases ha
  obtain ⟨_,_,rfl⟩:=hx.nil_inv
  exact .same hR (v':= .tuple #[]) (by simp [Builtin.clear_,run_underlying ht]) (.plain rfl)
 ·rename_i b o n ee
  split at ha
  ·rename_i hn
   subst hn
   cases ha
   obtain ⟨a',c',rfl,_⟩:=hx.slice_inv
   exact .same hR (v':= .tuple #[]) (by cases a'<;>simp [Builtin.clear_,run_underlying ht]) (.plain rfl)
  ·rename_i hn
   split at ha
   ·rename_i blk hb
    split at ha
    ·rename_i hc
     obtain ⟨rfl,hrw,hfit,hp,h1⟩:=hc
     cases ha
     cases hx with
     |plain h=>simp [Am.plain] at h
     |slice0=>exact absurd rfl hn
     |slice hL hc1 hc2=>
      rename_i c g base N
      obtain ⟨i,zv,hi,hzv,hzl,_⟩:=zeroT_some hz
      have hzr:(zeroValue e).run Pr w= .ok zv w:=by simp [zeroValue,typeInfo,hi,hzv]
      have hzc:zv.cells= #[z]:=by apply Array.ext';simpa using hzl
      have hrep:(Builtin.zeroCells zv.cells n).toList=List.replicate n z:=by
       rw [hzc]
       simp [Builtin.zeroCells]
       apply List.ext_getElem
       ·simp
       ·intro i h1 h2
        simp [Nat.mod_one]
      obtain ⟨w',hst,hg⟩:=abn (Pr:=Pr) hR (o:=o) (vs:=List.replicate n z) (us:=List.replicate n z) hb hrw hL (by show base≤N;omega) (VRL.plain fun c hc=>by rw [List.eq_of_mem_replicate hc];exact hp) (fun d hd=>by rw [List.eq_of_mem_replicate hd];exact h1) (by simpa using hfit)
      refine ⟨_, .tuple #[],w',β,?_, .inl rfl, .plain rfl,hg⟩
      obtain ⟨m,rfl⟩: ∃m,n=m+1:=⟨n-1,by omega⟩
      simp [Builtin.clear_,run_underlying ht,hzr,hrep,hst]
    ·cases ha
   ·cases ha
 ·cases ha
theorem s_max (hR:Rel φ β H w) {ts:Array TypeId} {ty:TypeId} {x y a b r:Value} (hx:VR φ β x y) (hy:VR φ β a b) (ha:max2 x a=some r):(Builtin.max_ ts ty #[y,b]).run Pr w= .ok r w∧VR φ β r r:=by
 unfold max2 at ha
 split at ha
 ·rename_i k p k' q
  split at ha
  ·rename_i e
   subst e
   cases ha
   have:=hx.int
   subst this
   have:=hy.int
   subst this
   exact ⟨by simp [Builtin.max_,Builtin.max2], .plain rfl⟩
  ·cases ha
 ·cases ha
theorem s_min (hR:Rel φ β H w) {ts:Array TypeId} {ty:TypeId} {x y a b r:Value} (hx:VR φ β x y) (hy:VR φ β a b) (ha:min2 x a=some r):(Builtin.min_ ts ty #[y,b]).run Pr w= .ok r w∧VR φ β r r:=by
 unfold min2 at ha
 split at ha
 ·rename_i k p k' q
  split at ha
  ·rename_i e
   subst e
   cases ha
   have:=hx.int
   subst this
   have:=hy.int
   subst this
   exact ⟨by simp [Builtin.min_,Builtin.min2], .plain rfl⟩
  ·cases ha
 ·cases ha
theorem s_sliceArr (hR:Rel φ β H w) {os:Array Operand} (hρ: ∀x ax,x∈os→trOpd μ φ x=some ax→VR φ β (ρa ax) (ρ x)) {t e:TypeId} {n sz:Nat} {x y:Value} {lo hi:Option Operand} {alo ahi:Option Opd} (hml: ∀x,lo=some x→x∈os) (hmh: ∀x,hi=some x→x∈os) (hx:VR φ β x y) (hlo:trOpt μ φ lo=some alo) (hhi:trOpt μ φ hi=some ahi)
  (ht:Pr.underlying t=some (.array n e)) (hs:szT Pr e=some sz)
  (ha:(match (generalizing:=false) x with| .pointer (some ⟨b,o,none⟩)=>(match H.get b with|some blk=>if o+n*sz≤blk.cells.length then (cutOf ρa n alo ahi).map fun (l,h)=>(S b (o+l*sz) (h-l) sz,H) else none|none=>none)| _=>none)=some (v,H')):
  OpOK φ β H w ((do pure (Next.value (←Instr.sliceAt t y (lo.map ρ) (hi.map ρ) none)):Sem Next).run Pr w) v H':=by
 split at ha
 ·rename_i b o
  split at ha
  ·rename_i blk hb
   split at ha
   ·rename_i hfit
    obtain ⟨⟨l,h⟩,hc,hv⟩:=map_some_inj ha
    cases hv
    obtain ⟨g,base,N,hL,hle,rfl⟩:=hx.ptr_inv
    obtain ⟨h1,h2,h3⟩:=cut_run (Pr:=Pr) (w:=w) false hρ hml hmh hlo hhi (Nat.le_refl n) hc
    obtain ⟨c,et,fr,_,_,hlen0,_⟩:=hR.cells _ _ _ hb hL hle
    have hlen:base+blk.cells.length≤N:=hlen0
    have hrun:((do pure (Next.value (←Instr.sliceAt t (.pointer (some ⟨g,base+o,none⟩)) (lo.map ρ) (hi.map ρ) none)):Sem Next).run Pr w)=
      .ok (.value (.slice (some (if n=l then ⟨g,base+o,none⟩ else ⟨g,base+o+l*sz,none⟩)) (h-l) (n-l))) w:=by
     simp [Instr.sliceAt,Instr.sureAddr,run_underlying ht,h1,sizeOf_run hs,add_none]
    refine .same hR hrun ?_
    by_cases e:n=l
    ·rw [if_pos e,show h-l=0 by omega,show n-l=0 by omega]
     exact .slice0
    ·rw [if_neg e,Nat.add_assoc]
     refine .slice hL (by omega) ?_
     have:(n-l)*sz+l*sz=n*sz:=by rw [←Nat.add_mul];congr 1;omega
     omega
   ·cases ha
  ·cases ha
 ·cases ha
theorem bytesL_inv: ∀{cs:List Value} {l:List UInt8},bytesL cs=some l→ ∃ns:List Int,cs=ns.map (Value.int .u8)∧l=ns.map fun n=>UInt8.ofNat n.toNat
 |[],l,h=>by
  simp [bytesL] at h
  exact ⟨[],rfl,by rw [h];rfl⟩
 |c::cs,l,h=>by
  unfold bytesL at h
  split at h
  ·rename_i e
   cases e
  ·rename_i n rest e
   cases e
   obtain ⟨l',h1,rfl⟩:=map_some_inj h
   obtain ⟨ns,rfl,rfl⟩:=bytesL_inv h1
   exact ⟨n::ns,rfl,rfl⟩
  ·cases h
theorem VRL.bytes: ∀{ns:List Int} {ds:List Value},VRL φ β (ns.map (Value.int .u8)) ds→ds=ns.map (Value.int .u8):=fun {ns ds} h=>by
 apply List.ext_getElem?
 intro i
 by_cases hi:i<ns.length
 ·obtain ⟨u,hu,hr⟩:=h.at_ (i:=i) (c:= .int .u8 ns[i]) (by simp [hi])
  rw [hu,hr.int]
  simp [hi]
 ·have:=h.1
  simp at this
  rw [List.getElem?_eq_none (by omega),List.getElem?_eq_none (by simp;omega)]
theorem s_strOf (hR:Rel φ β H w) {src dst e:TypeId} {x y:Value} (hx:VR φ β x y) (hs:Pr.underlying src=some (.slice e)) (he:Pr.underlying e=some (.int .u8)) (hd:Pr.underlying dst=some .string)
  (ha:(match (generalizing:=false) x with
   | .slice (some ⟨b,o,none⟩) n 1=>((H.row b o n).bind bytesL).map fun l=>(Value.string ⟨⟨l⟩⟩,H)
   | .slice none 0 0=>some (.string ⟨#[]⟩,H)
   | _=>none)=some (v,H')):
  OpOK φ β H w ((do pure (Next.value (←convert src dst y)):Sem Next).run Pr w) v H':=by
 split at ha
 ·rename_i b o n
  obtain ⟨l,hl,hv⟩:=map_some_inj ha
  cases hv
  cases hrow:H.row b o n with
  |none=>simp [hrow] at hl
  |some cs=>
   rw [hrow] at hl
   simp only [Option.bind_some] at hl
   obtain ⟨ns,rfl,rfl⟩:=bytesL_inv hl
   unfold AHeap.row at hrow
   split at hrow
   ·rename_i blk hb
    split at hrow
    ·rename_i ho
     cases hx with
     |plain h=>simp [Am.plain] at h
     |slice hL hle hcap=>
      rename_i c g base N
      obtain ⟨ds,h1,h2,h3⟩:=hR.cells_at hb hL ho
      have hrow':=Option.some.inj hrow
      rw [hrow'] at h1
      have h4:=h1.bytes
      have hlen:ds.length=n:=h2
      have hcells:=run_loadCells_list (P:=Pr) w ⟨g,base+o,none⟩ ds h3
      rw [hlen,h4] at hcells
      have hrun:(convert src dst (.slice (some ⟨g,base+o,none⟩) n c)).run Pr w= .ok (.string ⟨⟨ns.map fun n=>UInt8.ofNat n.toNat⟩⟩) w:=by
       rw [run_convert_bytes_string w src dst e _ n c hs he hd,run_bytesToString w _ n c ns (by simpa using hcells),foldl_push_bytes]
       simp [ByteArray.empty,ByteArray.emptyWithCapacity]
       rfl
      exact .same hR (v':= .string ⟨⟨ns.map fun n=>UInt8.ofNat n.toNat⟩⟩) (by simp [hrun]) (.plain rfl)
     |slice0=>
      rename_i a'
      have hns:ns=[]:=by
       have:=Option.some.inj hrow
       cases ns with
       |nil=>rfl
       |cons q r=>have:=congrArg List.length this;simp at this
      subst hns
      have hcells:=run_loadCells_list (P:=Pr) w a' [] (fun j d h=>by simp at h)
      have hrun:(convert src dst (.slice (some a') 0 0)).run Pr w= .ok (.string ⟨⟨[]⟩⟩) w:=by
       rw [run_convert_bytes_string w src dst e _ 0 0 hs he hd,run_bytesToString w _ 0 0 [] (by simpa using hcells)]
       rfl
      exact .same hR (v':= .string ⟨⟨[]⟩⟩) (by simp [hrun]) (.plain rfl)
    ·cases hrow
   ·cases hrow
 ·cases ha
  obtain ⟨_,_,rfl⟩:=hx.nil_inv
  have hrun:=run_convert_bytes_nil (P:=Pr) w src e hs he 0 0 dst hd
  exact .same hR (v':= .string ⟨#[]⟩) (by simp [hrun];rfl) (.plain rfl)
 ·cases ha
theorem op_sound {o:Oper} {ao:AOp} (hcst: ∀c,ρ (.const c)=c) (hρ: ∀x ax,x∈o.op.operands→trOpd μ φ x=some ax→VR φ β (ρa ax) (ρ x)) (hR:Rel φ β H w) (hf: ∀b,H.n≤b→b<H'.n→β b=none) (ht:trOp Pr μ φ o=some ao) (ha:aOp ao ρa H=some (v,H')):
  OpOK φ β H w ((execOp ρ o).run Pr w) v H':=by
 obtain ⟨dst,op,type,pos,after,guard⟩:=o
 cases op
 case move x=>
  simp only [trOp] at ht
  obtain ⟨ax,hx,rfl⟩:=map_some_inj ht
  simp only [aOp,Option.some.injEq,Prod.mk.injEq] at ha
  obtain ⟨rfl,rfl⟩:=ha
  exact .same hR (by simp [execOp]) (hρ _ _ (by simp [Op.operands,Call.operands]) hx)
 case assign x=>
  simp only [trOp] at ht
  obtain ⟨ax,hx,rfl⟩:=map_some_inj ht
  simp only [aOp,Option.some.injEq,Prod.mk.injEq] at ha
  obtain ⟨rfl,rfl⟩:=ha
  exact .same hR (by simp [execOp]) (hρ _ _ (by simp [Op.operands,Call.operands]) hx)
 case pick c a b=>
  simp only [trOp] at ht
  split at ht
  ·rename_i ac aa ab h1 h2 h3
   cases ht
   simp only [aOp] at ha
   split at ha
   ·rename_i t hc
    cases ha
    have h4:=hρ _ _ (by simp [Op.operands,Call.operands]) h1
    rw [hc] at h4
    have h5:=h4.bool
    refine .same hR (v':=if t then ρ a else ρ b) (by cases t<;>simp [execOp,h5,asBool]) ?_
    cases t
    ·exact hρ _ _ (by simp [Op.operands,Call.operands]) h3
    ·exact hρ _ _ (by simp [Op.operands,Call.operands]) h2
   ·cases ha
  ·cases ht
 case alloc e=>
  simp only [trOp] at ht
  obtain ⟨z,hz,rfl⟩:=map_some_inj ht
  exact s_alloc hR hf hz ha
 case box e x=>
  simp only [trOp] at ht
  obtain ⟨ax,hx,rfl⟩:=map_some_inj ht
  exact s_box hR hf (hρ _ _ (by simp [Op.operands,Call.operands]) hx) ha
 case build t parts=>
  simp only [trOp] at ht
  split at ht
  ·rename_i pl z h1 h2
   split at ht
   ·rename_i ps h3
    cases ht
    exact s_build hR hρ h1 h2 (fun p hp=>by simp only [Op.operands];simp;exact ⟨p.1,by simpa using hp⟩) h3 ha
   ·cases ht
  ·cases ht
 case buildSlice t n parts=>
  simp only [trOp] at ht
  split at ht
  ·rename_i e h1
   split at ht
   ·rename_i s z h2 h3
    split at ht
    ·rename_i ps h4
     split at ht
     ·rename_i h5
      cases ht
      exact s_buildSlice hR hρ h1 h2 h3 h5 (fun p hp=>by simp only [Op.operands];simp;exact ⟨p.1,by simpa using hp⟩) h4 hf ha
     ·cases ht
    ·cases ht
   ·cases ht
  ·cases ht
 case load t a=>
  simp only [trOp] at ht
  split at ht
  ·rename_i n ax h1 h2
   cases ht
   exact s_load hR (hρ _ _ (by simp [Op.operands,Call.operands]) h2) h1 ha
  ·cases ht
 case store t a x=>
  simp only [trOp] at ht
  split at ht
  ·rename_i n aa ax h1 h2 h3
   cases ht
   exact s_store hR (hρ _ _ (by simp [Op.operands,Call.operands]) h2) (hρ _ _ (by simp [Op.operands,Call.operands]) h3) h1 ha
  ·cases ht
 case binOp op t x y yt=>
  simp only [trOp] at ht
  split at ht
  ·rename_i k ax ay h1 h2 h3
   cases ht
   obtain ⟨r,hr,he⟩:=map_some_inj ha
   cases he
   unfold aBin at hr
   split at hr
   ·rename_i k1 p k2 q e1 e2
    have hx:=hρ _ _ (by simp [Op.operands,Call.operands]) h2
    have hy:=hρ _ _ (by simp [Op.operands,Call.operands]) h3
    rw [e1] at hx
    rw [e2] at hy
    have hr':aBin op (.int k1 p) (.int k2 q)=some v:=by unfold aBin;exact hr
    refine .same hR (v':=v) ?_ ?_
    ·have:=s_bin (Pr:=Pr) (w:=w) (op:=op) (t:=t) (xo:=x) (yo:=y) hR k h1 hr'
     simp only [execOp,hx.int,hy.int]
     rw [Sem.run_bind,this]
     rfl
    ·have hsh: ∀(op:BinOp) (k:IntKind) (a b:Int) (r:Value),aSh op k a b=some r→Am.plain r=true:=by
      intro op k a b r h
      cases op<;>simp only [aSh] at h<;>(try (cases h;done))
      all_goals
       split at h
       ·cases h
       ·cases h;rfl
     refine .plain ?_
     split at hr
     ·cases op<;>simp only at hr<;>first|exact hsh _ _ _ _ _ hr|(cases hr;rfl)|skip
      all_goals
       split at hr
       ·cases hr
       ·cases hr
        rfl
     ·exact hsh _ _ _ _ _ hr
   ·cases hr
  ·rename_i ax ay h1 h2 h3
   cases ht
   obtain ⟨r,hr,he⟩:=map_some_inj ha
   cases he
   unfold aSbin at hr
   split at hr
   ·rename_i p q e1 e2
    have hx:=hρ _ _ (by simp [Op.operands,Call.operands]) h2
    have hy:=hρ _ _ (by simp [Op.operands,Call.operands]) h3
    rw [e1] at hx
    rw [e2] at hy
    have hr':aSbin op (.string p) (.string q)=some v:=by unfold aSbin;exact hr
    refine .same hR (v':=v) ?_ ?_
    ·have:=s_sbin (Pr:=Pr) (w:=w) (op:=op) (t:=t) (xo:=x) (yo:=y) hr'
     simp only [execOp,hx.string,hy.string]
     rw [Sem.run_bind,this]
     rfl
    ·cases op<;>simp only at hr<;>(try cases hr)<;>(try exact .plain rfl)
     split at hr
     ·cases hr
      exact .plain rfl
     ·cases hr
   ·cases hr
  ·rename_i ax ay h1 h2 h3
   have key: ∀neg,op=(if neg then .neq else .eql)→ao= .eqb neg ax ay→OpOK φ β H w ((execOp ρ ⟨dst, .binOp op t x y yt,type,pos,after,guard⟩).run Pr w) v H':=by
    intro neg hop he
    subst he
    simp only [aOp] at ha
    split at ha
    ·rename_i p q e1 e2
     cases ha
     have hx:=hρ _ _ (by simp [Op.operands,Call.operands]) h2
     have hy:=hρ _ _ (by simp [Op.operands,Call.operands]) h3
     rw [e1] at hx
     rw [e2] at hy
     refine .same hR (v':= .bool (if neg then !(p==q) else (p==q))) ?_ (.plain rfl)
     have:=s_eqb (w:=w) (xo:=x) (yo:=y) (a:=p) (b:=q) h1 op neg hop
     simp only [execOp,hx.bool,hy.bool]
     rw [Sem.run_bind,this]
     rfl
    ·cases ha
   split at ht
   ·cases ht;exact key false rfl rfl
   ·cases ht;exact key true rfl rfl
   ·cases ht
  ·rename_i e ax h1 h2 h3
   have key: ∀neg,op=(if neg then .neq else .eql)→ao= .eqn neg ax→OpOK φ β H w ((execOp ρ ⟨dst, .binOp op t x y yt,type,pos,after,guard⟩).run Pr w) v H':=by
    intro neg hop he
    subst he
    simp only [aOp] at ha
    split at ha
    ·rename_i a l c e1
     cases ha
     have hx:=hρ _ _ (by simp [Op.operands,Call.operands]) h2
     rw [e1] at hx
     obtain ⟨a',c',hxe,hnone⟩:=hx.slice_inv
     have hy:ρ y= .slice none 0 0:=by
      have h4:VR φ β (ρa (.c (.slice none 0 0))) (ρ y):=hρ _ _ (by simp [Op.operands,Call.operands]) h3
      have h5:trOpd μ φ y=some (.c (.slice none 0 0)):=h3
      cases y with
      |tmp t=>simp [trOpd] at h5
      |global g=>simp [trOpd] at h5
      |func f=>simp only [trOpd] at h5;split at h5<;>(try split at h5)<;>cases h5
      |const c=>
       simp only [trOpd] at h5
       split at h5
       ·cases h5
        exact hcst _
       ·cases h5
     refine .same hR (v':= .bool (if neg then !a.isNone else a.isNone)) ?_ (.plain rfl)
     have:=s_eqn (w:=w) (xo:=x) (yo:=y) (a:=a') (l:=l) (c:=c') h1 op neg hop
     simp only [execOp,hxe,hy]
     rw [Sem.run_bind,this,hnone]
     rfl
    ·cases ha
   split at ht
   ·cases ht;exact key false rfl rfl
   ·cases ht;exact key true rfl rfl
   ·cases ht
  ·rename_i dd ax ay _ _ _ _ h1 h2 h3
   split at ht
   ·rename_i hcond
    have key: ∀neg n,op=(if neg then .neq else .eql)→szT Pr t=some n→ao= .eqa neg n ax ay→OpOK φ β H w ((execOp ρ ⟨dst, .binOp op t x y yt,type,pos,after,guard⟩).run Pr w) v H':=by
     intro neg n hop hn he
     subst he
     simp only [aOp] at ha
     obtain ⟨r,hr,hv⟩:=map_some_inj ha
     cases hv
     have hx:=hρ _ _ (by simp [Op.operands,Call.operands]) h2
     have hy:=hρ _ _ (by simp [Op.operands,Call.operands]) h3
     obtain ⟨ds,es,e1,e2,e3,e4,e5⟩:=aEqa_agg hx hy hr
     refine .same hR (v':= .bool (if neg then !r else r)) ?_ (.plain rfl)
     have:=s_eqa (xo:=x) (yo:=y) w hcond.2.1 hcond.2.2 hn ⟨dd,h1,hcond.1⟩ e3 e4 e5 op neg hop
     simp only [execOp,e1,e2]
     rw [Sem.run_bind,this]
     rfl
    split at ht
    ·rename_i hn;cases ht;exact key false _ rfl hn rfl
    ·rename_i hn;cases ht;exact key true _ rfl hn rfl
    ·cases ht
   ·cases ht
  ·cases ht
 case unOp op t x=>
  simp only [trOp] at ht
  split at ht
  ·rename_i ax h1
   cases ht
   simp only [aOp] at ha
   split at ha
   ·rename_i b e1
    cases ha
    have hx:=hρ _ _ (by simp [Op.operands,Call.operands]) h1
    rw [e1] at hx
    exact .same hR (v':= .bool !b) (by simp [execOp,hx.bool,Op.unary]) (.plain rfl)
   ·cases ha
  ·rename_i ax h1
   cases ht
   simp only [aOp] at ha
   split at ha
   ·rename_i k n e1
    cases ha
    have hx:=hρ _ _ (by simp [Op.operands,Call.operands]) h1
    rw [e1] at hx
    exact .same hR (v':= .int k (k.wrap (0-n))) (by simp [execOp,hx.int,Op.unary,Op.intArith]) (.plain rfl)
   ·cases ha
  ·cases ht
 case convert src dt x=>
  simp only [trOp] at ht
  split at ht
  ·rename_i k0 k ax h1 h2 h3
   cases ht
   simp only [aOp] at ha
   split at ha
   ·rename_i k' n e1
    cases ha
    have hx:=hρ _ _ (by simp [Op.operands,Call.operands]) h3
    rw [e1] at hx
    exact .same hR (v':= .int k (k.wrap n)) (by simp [execOp,hx.int,convert,run_underlying h1,run_underlying h2,Conv.intToInt]) (.plain rfl)
   ·cases ha
  ·rename_i e ax h1 h2 h3
   split at ht
   ·rename_i h4
    cases ht
    have hx:=hρ _ _ (by simp [Op.operands,Call.operands]) h3
    exact s_strOf hR hx h1 h4 h2 ha
   ·cases ht
  ·cases ht
 case makeMap t r=>
  cases r with
  |some r=>simp [trOp] at ht
  |none=>
   simp only [trOp,Option.some.injEq] at ht
   subst ht
   simp only [aOp,Option.some.injEq,Prod.mk.injEq] at ha
   obtain ⟨rfl,rfl⟩:=ha
   have h0:=hf H.n (Nat.le_refl _) (by simp [AHeap.alloc];omega)
   have h1:=hf (H.n+1) (by omega) (by simp [AHeap.alloc])
   exact ⟨_, .map (some w.heap.size),_,_,rfl, .inl rfl, .map (base:=1) (N:=0) (by simp [Ren.put]) (by omega),Good.newMap hR h0 h1⟩
 case mapUpdate t m k x=>
  simp only [trOp] at ht
  split at ht
  ·rename_i kt et am ak h1 h2 h3
   split at ht
   ·rename_i hq
    cases ht
    have hc:ρ (.const (.bool true))= .bool true:=hcst _
    have:=s_mapPut (Pr:=Pr) hR (hρ _ _ (by simp [Op.operands]) h2) (hρ _ _ (by simp [Op.operands]) h3) h1 hq ha
    rw [←hc] at this
    exact this
   ·cases ht
  ·cases ht
 case makeSlice t l c=>
  simp only [trOp] at ht
  split at ht
  ·rename_i e al ac h1 h2 h3
   split at ht
   ·rename_i i z h4 h5
    split at ht
    ·rename_i h6
     cases ht
     exact s_makeSlice hR (hρ _ _ (by simp [Op.operands,Call.operands]) h2) (hρ _ _ (by simp [Op.operands,Call.operands]) h3) h1 h4 h5 h6 hf ha
    ·cases ht
   ·cases ht
  ·cases ht
 case slice t x lo hi mx=>
  cases mx with
  |some m=>simp [trOp] at ht
  |none=>
   simp only [trOp] at ht
   split at ht
   ·rename_i e ax alo ahi h1 h2 h3 h4
    split at ht
    ·rename_i s h5
     cases ht
     exact s_slice hR hρ (fun x hx=>by subst hx;simp [Op.operands]) (fun x hx=>by subst hx;simp [Op.operands]) (hρ _ _ (by simp [Op.operands,Call.operands]) h2) h3 h4 h1 h5 ha
    ·cases ht
   ·rename_i ax alo ahi h1 h2 h3 h4
    cases ht
    exact s_sliceStr hR hρ (fun x hx=>by subst hx;simp [Op.operands]) (fun x hx=>by subst hx;simp [Op.operands]) (hρ _ _ (by simp [Op.operands,Call.operands]) h2) h3 h4 h1 ha
   ·rename_i n e ax alo ahi h1 h2 h3 h4
    split at ht
    ·rename_i s h5
     cases ht
     exact s_sliceArr hR hρ (fun x hx=>by subst hx;simp [Op.operands]) (fun x hx=>by subst hx;simp [Op.operands]) (hρ _ _ (by simp [Op.operands,Call.operands]) h2) h3 h4 h1 h5 ha
    ·cases ht
   ·cases ht
 case fieldAddr s x f=>
  simp only [trOp] at ht
  split at ht
  ·rename_i fs ax h1 h2
   split at ht
   ·rename_i fd h3
    split at ht
    ·rename_i n h4
     split at ht
     ·cases ht
     ·rename_i h5
      cases ht
      exact s_fieldAddr hR (hρ _ _ (by simp [Op.operands,Call.operands]) h2) h1 h3 h4 h5 ha
    ·cases ht
   ·cases ht
  ·cases ht
 case field s x f=>
  simp only [trOp] at ht
  split at ht
  ·rename_i fs ax h1 h2
   split at ht
   ·rename_i fd h3
    split at ht
    ·rename_i n h4
     cases ht
     exact s_field hR (hρ _ _ (by simp [Op.operands,Call.operands]) h2) h1 h3 h4 ha
    ·cases ht
   ·cases ht
  ·cases ht
 case indexAddr t x i=>
  simp only [trOp] at ht
  split at ht
  ·rename_i e ax ai h1 h2 h3
   split at ht
   ·rename_i s h4
    cases ht
    exact s_indexAddr hR (hρ _ _ (by simp [Op.operands,Call.operands]) h2) (hρ _ _ (by simp [Op.operands,Call.operands]) h3) h1 h4 ha
   ·cases ht
  ·rename_i n e ax ai h1 h2 h3
   split at ht
   ·rename_i s h4
    cases ht
    exact s_indexArr hR (hρ _ _ (by simp [Op.operands,Call.operands]) h2) (hρ _ _ (by simp [Op.operands,Call.operands]) h3) h1 h4 ha
   ·cases ht
  ·cases ht
 case index t x i=>
  simp only [trOp] at ht
  split at ht
  ·rename_i n e ax ai h1 h2 h3
   split at ht
   ·rename_i s m h4 h5
    cases ht
    exact s_index hR (hρ _ _ (by simp [Op.operands,Call.operands]) h2) (hρ _ _ (by simp [Op.operands,Call.operands]) h3) h1 h4 h5 ha
   ·cases ht
  ·rename_i ax ai h1 h2 h3
   cases ht
   exact s_indexStr hR (hρ _ _ (by simp [Op.operands,Call.operands]) h2) (hρ _ _ (by simp [Op.operands,Call.operands]) h3) h1 ha
  ·cases ht
 case extract x j=>
  simp only [trOp] at ht
  obtain ⟨ax,hx,rfl⟩:=map_some_inj ht
  simp only [aOp] at ha
  split at ha
  ·rename_i vs e1
   obtain ⟨u,hu,he⟩:=map_some_inj ha
   cases he
   have h1:=hρ _ _ (by simp [Op.operands,Call.operands]) hx
   rw [e1] at h1
   obtain ⟨ds,h2,h3⟩:=h1.tuple_inv
   obtain ⟨d,hd,hr⟩:=h3.at_ (i:=j) (c:=v) (by simpa using hu)
   refine .same hR (v':=d) ?_ hr
   have:ds[j]? =some d:=by simpa using hd
   simp [execOp,h2,Instr.extract,this]
  ·cases ha
 case nilCheck x=>
  simp only [trOp] at ht
  obtain ⟨ax,hx,rfl⟩:=map_some_inj ht
  simp only [aOp] at ha
  split at ha
  ·rename_i a e1
   cases ha
   have h1:=hρ _ _ (by simp [Op.operands,Call.operands]) hx
   rw [e1] at h1
   obtain ⟨a',h2,h3⟩:=h1.pointer_inv
   cases a' with
   |none=>simp at h3
   |some a'=>
    rw [h2] at h1
    exact .same hR (v':= .pointer (some a')) (by simp [execOp,h2]) h1
  ·cases ha
 case makeFunc fn first caps=>
  cases fn with
  |func f=>
   simp only [trOp] at ht
   split at ht
   ·rename_i g cs h1 h2 h3
    split at ht
    ·rename_i h4
     cases ht
     simp only [aOp,Option.some.injEq,Prod.mk.injEq] at ha
     obtain ⟨rfl,rfl⟩:=ha
     have hfirst:first= #[]:=by simpa using h2
     subst hfirst
     refine .same hR (v':= .func (.func f) #[] ⟨caps.toList.map ρ⟩) ?_ ?_
     ·have:(caps.map ρ)=⟨caps.toList.map ρ⟩:=by apply Array.ext';simp
      simp [execOp,Instr.makeFunc,this]
     ·have hl:=optL_len h3
      refine .func h4 (by simpa using hl) fun i c d hc hd=>?_
      rw [List.getElem?_map] at hc hd
      obtain ⟨x,hx,rfl⟩:=map_some_inj hd
      obtain ⟨ax,hax,htr⟩:=optL_at h3 hx
      rw [hax] at hc
      cases hc
      exact hρ _ _ (by simp only [Op.operands];simp;exact Array.mem_toList_iff.1 (List.mem_of_getElem? hx)) htr
    ·cases ht
   ·cases ht
  | _=>simp [trOp] at ht
 case call c=>
  obtain ⟨callee,cargs,ctypes⟩:=c
  simp only [trOp,trCall] at ht
  split at ht
  ·split at ht
   ·rename_i x t h1 h2
    have hargs:cargs= #[x]:=by apply Array.ext';simpa using h1
    subst hargs
    have hct: ∀e,(Builtin.len_ ctypes type #[e])=(Builtin.len_ #[t] type #[e]):=fun e=>by simp [Builtin.len_,h2]
    have hex:(execOp ρ ⟨dst, .call ⟨.builtin .len, #[x],ctypes⟩,type,pos,after,guard⟩)=(do pure (Next.value (←Builtin.len_ #[t] type #[ρ x])):Sem Next):=by
     simp [execOp,resolve,invoke,builtin,hct]
    rw [hex]
    split at ht
    ·rename_i e ax h3 h4
     cases ht
     exact s_len hR (hρ _ _ (by simp [Op.operands,Call.operands]) h4) h3 ha
    ·rename_i ax h3 h4
     cases ht
     exact s_lenStr hR (hρ _ _ (by simp [Op.operands,Call.operands]) h4) h3 ha
    ·rename_i n e ax h3 h4
     cases ht
     exact s_lenConst hR h3 ha
    ·rename_i kt et ax h3 h4
     cases ht
     exact s_lenMap hR (hρ _ _ (by simp [Op.operands,Call.operands]) h4) h3 ha
    ·cases ht
   ·cases ht
  ·split at ht
   ·rename_i s x t u h1 h2
    split at ht
    ·rename_i e as ax h3 h4 h5
     split at ht
     ·rename_i i z h6 h7
      split at ht
      ·rename_i h8
       obtain ⟨rfl,h9,h10⟩:=h8
       cases ht
       have hargs:cargs= #[s,x]:=by apply Array.ext';simpa using h1
       have hct:ctypes= #[t,t]:=by apply Array.ext';simpa using h2
       subst hargs
       subst hct
       have hex:(execOp ρ ⟨dst, .call ⟨.builtin .append, #[s,x], #[t,t]⟩,type,pos,after,guard⟩)=(do pure (Next.value (←Builtin.append_ #[t,t] type #[ρ s,ρ x])):Sem Next):=by
        simp [execOp,resolve,invoke,builtin]
       rw [hex]
       exact s_append hR (hρ _ _ (by simp [Op.operands,Call.operands]) h4) (hρ _ _ (by simp [Op.operands,Call.operands]) h5) h3 h6 h7 h10 h9 hf ha
      ·cases ht
     ·cases ht
    ·cases ht
   ·cases ht
  ·split at ht
   ·rename_i x y h1
    split at ht
    ·rename_i ax ay h2 h3
     cases ht
     have hargs:cargs= #[x,y]:=by apply Array.ext';simpa using h1
     subst hargs
     obtain ⟨r,hr,he⟩:=map_some_inj ha
     cases he
     have hr':max2 (ρa ax) (ρa ay)=some v:=by
      simp only [List.map_cons,List.map_nil] at hr
      unfold foldV at hr
      split at hr
      ·rename_i z hz
       unfold foldV at hr
       rw [hz]
       exact hr
      ·cases hr
     obtain ⟨h4,h5⟩:=s_max (Pr:=Pr) (w:=w) (ts:=ctypes) (ty:=type) hR (hρ _ _ (by simp [Op.operands,Call.operands]) h2) (hρ _ _ (by simp [Op.operands,Call.operands]) h3) hr'
     exact .same hR (v':=v) (by simp [execOp,resolve,invoke,builtin,h4]) h5
    ·cases ht
   ·cases ht
  ·split at ht
   ·rename_i x y h1
    split at ht
    ·rename_i ax ay h2 h3
     cases ht
     have hargs:cargs= #[x,y]:=by apply Array.ext';simpa using h1
     subst hargs
     obtain ⟨r,hr,he⟩:=map_some_inj ha
     cases he
     have hr':min2 (ρa ax) (ρa ay)=some v:=by
      simp only [List.map_cons,List.map_nil] at hr
      unfold foldV at hr
      split at hr
      ·rename_i z hz
       unfold foldV at hr
       rw [hz]
       exact hr
      ·cases hr
     obtain ⟨h4,h5⟩:=s_min (Pr:=Pr) (w:=w) (ts:=ctypes) (ty:=type) hR (hρ _ _ (by simp [Op.operands,Call.operands]) h2) (hρ _ _ (by simp [Op.operands,Call.operands]) h3) hr'
     exact .same hR (v':=v) (by simp [execOp,resolve,invoke,builtin,h4]) h5
    ·cases ht
   ·cases ht
  ·have hmx: ∀{q:AOp},some (AOp.max [])=some q→aOp q ρa H=some (v,H')→False:=fun hq hh=>by cases hq;simp [aOp,foldV] at hh
   split at ht
   ·rename_i x t h1 h2
    split at ht
    ·rename_i e ax h3 h4
     split at ht
     ·rename_i z h5
      cases ht
      have hargs:cargs= #[x]:=by apply Array.ext';simpa using h1
      have hct:ctypes= #[t]:=by apply Array.ext';simpa using h2
      subst hargs
      subst hct
      have hex:(execOp ρ ⟨dst, .call ⟨.builtin .clear, #[x], #[t]⟩,type,pos,after,guard⟩)=(do pure (Next.value (←Builtin.clear_ #[t] type #[ρ x])):Sem Next):=by
       simp [execOp,resolve,invoke,builtin]
      rw [hex]
      exact abm hR (hρ _ _ (by simp [Op.operands,Call.operands]) h4) h3 h5 ha
     ·exact (hmx ht ha).elim
    ·exact (hmx ht ha).elim
   ·exact (hmx ht ha).elim
  ·split at ht
   ·split at ht
    ·cases ht;cases ha
    ·cases ht
   ·cases ht
  ·split at ht
   ·cases ht;cases ha
   ·cases ht
  ·cases ht
 all_goals simp [trOp] at ht
end
end Go.Am
