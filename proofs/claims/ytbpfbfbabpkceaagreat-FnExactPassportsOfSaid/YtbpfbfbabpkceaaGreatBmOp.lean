/- The second machine's operations: what it makes of one, the small machine makes of it. -/
import Derived.Test.YtbpfbfbabpkceaaGreatBmCore
set_option linter.unusedVariables false
set_option linter.unusedSimpArgs false
namespace Go.Bm
open Go Go.Am
def newC (H:BH) (e:Nat) (x:Value):Option (Nat×List Value):=
 match x with
 | .slice none 0 0=>some (0,[])
 | .slice (some ⟨b,o,none⟩) xl xe=>if xl=0 then some (0,[]) else if xe=e then (match blk H b with|some cs=>if o+xl*e≤cs.length then some (xl,(cs.drop o).take (xl*e)) else none|none=>none) else none
 | .iface xl (.iface xe (.tuple ⟨cs⟩))=>if xl=0 then some (0,[]) else if xe=e then some (xl,cs) else none
 | _=>none
def eH (e bytes:Nat) (s x:Value) (H:BH):Option (Value×BH):=
 match newC H e x with
 |none=>none
 |some (xl,new)=>
  match s with
  | .slice none 0 0=>if xl=0 then some (s,H) else if xl*bytes≤140737488355328 then some (S H.length 0 xl e,H++[some new]) else none
  | .slice (some ⟨b,0,none⟩) l e'=>
   if e'=e then
    (match blk H b with
    |some cs=>if l*e≤cs.length∧(l+xl)*bytes≤140737488355328∧new.all fJ=true then some (S H.length 0 (l+xl) e,(H.set b none)++[some (cs.take (l*e)++new)]) else none
    |none=>none)
   else none
  | _=>none
def lg (H:BH) (a x:Value):Bool:=
 match a with
 | .pointer (some ⟨i,_,none⟩)=>
  match x with
  | .pointer (some ⟨j,_,none⟩)=> !(j==i)&&(blk H j).isSome
  | .slice (some ⟨j,_,none⟩) _ _=> !(j==i)&&(blk H j).isSome
  | .slice none 0 0| .int .. | .bool .. | .string .. | .agg .. | .tuple .. =>true
  | .iface _ (.tuple _)| .iface _ (.iface _ (.tuple _))=>true
  | _=>false
 | _=>false
def uh (H:BH) (s x:Value):Bool:=
 match s with
 | .slice (some ⟨i,_,none⟩) _ _=>lg H (.pointer (some ⟨i,0,none⟩)) x
 | .slice none 0 0=>true
 | _=>false
def Ih (n:Nat) (a v:Value) (H:BH):Option (Value×BH):=
 match a with
 | .pointer (some ⟨b,o,none⟩)=>
  (match blk H b with
  |some cs=>
   (match cells2 v with
   |some vs=>if vs.length=n∧o+n≤cs.length∧vs.all fJ=true then some (undef,H.set b (some (splice cs o vs))) else none
   |none=>none)
  |none=>none)
 | _=>none
def wH (qs:List IntKind) (x k:Value) (H:BH):Option (Value×BH):=
 match x with
 | .map (some i)=>
  match blk H i,blk H (i+1) with
  |some [],some ks=>if (keyV qs k&&ks.all (keyV qs))=true then some (undef,H.set (i+1) (some (ks++[k]))) else none
  | _,_=>none
 | _=>none
def wJ (qs:List IntKind) (x:Value) (H:BH):Option (Value×BH):=
 match x with
 | .map (some i)=>
  match blk H i,blk H (i+1) with
  |some [],some ks=>if ks.all (keyV qs)=true then some (.int .i64 (cntI (ks.map keyI)),H) else none
  | _,_=>none
 | _=>none
def wI (z x:Value) (H:BH):Option (Value×BH):=
 match x with
 | .slice (some ⟨b,o,none⟩) n e=>
  if n=0 then some (.tuple ⟨[]⟩,H) else
  match blk H b with
  |some cs=>if e=1∧o+n≤cs.length∧plain z=true∧fJ z=true∧z.oneCell'=true then some (.tuple ⟨[]⟩,H.set b (some (splice cs o (List.replicate n z)))) else none
  |none=>none
 | _=>none
def aK (o:AOp) (ρ:Opd→Value) (H:BH):Option (Value×BH):=
 match o with
 | .move x=>some (ρ x,H)
 | .pick c a b=>match ρ c with| .bool t=>some (if t then ρ a else ρ b,H)| _=>none
 | .alloc z=>if z.all plain=true then some (P H.length 0,H++[some z]) else none
 | .box x=>match cells2 (ρ x) with|some cs=>some (P H.length 0,H++[some cs])|none=>none
 | .build z parts=>if z.all plain=true∧(parts.all fun p=>nj (ρ p.2.2))=true then (fillL z (parts.map fun p=>(p.1,p.2.1,ρ p.2.2))).map fun cs=>(aggL cs,H) else none
 | .buildSlice e n z parts=>
  if n*e≤16777216∧z.all plain=true∧(parts.all fun p=>nj (ρ p.2.2))=true then
   (fillL (repl z n) (parts.map fun p=>(p.1,p.2.1,ρ p.2.2))).map fun cs=>(S H.length 0 n e,H++[some cs])
  else none
 | .load n a=>
  match ρ a with
  | .pointer (some ⟨b,o,none⟩)=>(match blk H b with|some cs=>(getN n cs o).map fun v=>(v,H)|none=>none)
  | .iface o (.tuple ⟨cs⟩)=>(getN n cs o).map fun v=>(v,H)
  | _=>none
 | .store n a v=>
  match ρ a with
  | .pointer (some ⟨b,o,none⟩)=>
   (match blk H b with
   |some cs=>
    (match cells2 (ρ v) with
    |some vs=>if vs.length=n∧o+n≤cs.length∧vs.all fJ=true then some (undef,H.set b (some (splice cs o vs))) else none
    |none=>none)
   |none=>none)
  | _=>none
 | .storeF n a v fl=>if (fl.all fun x=>lg H (ρ a) (ρ x))=true then Ih n (ρ a) (ρ v) H else none
 | .bin op x y=>(aBin op (ρ x) (ρ y)).map fun v=>(v,H)
 | .sbin op x y=>(aSbin op (ρ x) (ρ y)).map fun v=>(v,H)
 | .eqb neg x y=>match ρ x,ρ y with| .bool a, .bool b=>some (.bool (if neg then !(a==b) else (a==b)),H)| _,_=>none
 | .eqa neg n x y=>(aEqa n (ρ x) (ρ y)).map fun r=>(.bool (if neg then !r else r),H)
 | .eqn neg x=>match ρ x with| .slice a _ _=>some (.bool (if neg then !a.isNone else a.isNone),H)| .iface (_+1) (.iface _ (.tuple _))=>some (.bool neg,H)| _=>none
 | .not x=>match ρ x with| .bool b=>some (.bool !b,H)| _=>none
 | .neg x=>match ρ x with| .int k n=>some (.int k (k.wrap (0-n)),H)| _=>none
 | .conv k x=>match ρ x with| .int _ n=>some (.int k (k.wrap n),H)| _=>none
 | .makeSlice e bytes z l c=>
  match ρ l,ρ c with
  | .int _ l, .int _ c=>if z.all plain=true∧0≤l∧l≤c∧c*bytes≤140737488355328∧c≤9223372036854775807 then some (S H.length 0 l.toNat e,H++[some (repl z c.toNat)]) else none
  | _,_=>none
 | .slice e x lo hi=>
  match ρ x with
  | .slice (some ⟨b,o,none⟩) len e'=>if e'=e then (cutOf ρ len lo hi).map fun (l,h)=>(S b (o+l*e) (h-l) e,H) else none
  | .slice none 0 0=>(cutOf ρ 0 lo hi).map fun _=>(.slice none 0 0,H)
  | .iface len (.iface e' (.tuple ⟨cs⟩))=>if e'=e then (cutOf ρ len lo hi).map fun (l,h)=>(Fz (h-l) e ((cs.drop (l*e)).take ((h-l)*e)),H) else none
  | _=>none
 | .sliceStr x lo hi=>match ρ x with| .string s=>(cutOf ρ s.size lo hi).map fun (l,h)=>(.string (s.extract l h),H)| _=>none
 | .sliceArr len e x lo hi=>
  match ρ x with
  | .pointer (some ⟨b,o,none⟩)=>(match blk H b with|some cs=>if o+len*e≤cs.length then (cutOf ρ len lo hi).map fun (l,h)=>(S b (o+l*e) (h-l) e,H) else none|none=>none)
  | _=>none
 | .fieldAddr off x=>match ρ x with| .pointer (some ⟨b,o,none⟩)=>some (P b (o+off),H)| .iface o (.tuple ⟨cs⟩)=>some (Fp (o+off) cs,H)| _=>none
 | .field n off x=>match ρ x with| .agg cs=>(getN n cs.toList off).map fun v=>(v,H)| _=>none
 | .indexAddr none e x i=>
  match ρ x,intOf (ρ i) with
  | .slice (some ⟨b,o,none⟩) len e',some i=>if 0≤i∧i<len∧e'=e then some (P b (o+i.toNat*e),H) else none
  | .iface len (.iface e' (.tuple ⟨cs⟩)),some i=>if 0≤i∧i<len∧e'=e then some (Fp (i.toNat*e) cs,H) else none
  | _,_=>none
 | .indexAddr (some n) e x i=>
  match ρ x,intOf (ρ i) with
  | .pointer (some ⟨b,o,none⟩),some i=>if 0≤i∧i<n then some (P b (o+i.toNat*e),H) else none
  | .iface o (.tuple ⟨cs⟩),some i=>if 0≤i∧i<n then some (Fp (o+i.toNat*e) cs,H) else none
  | _,_=>none
 | .index len e n x i=>
  match ρ x,intOf (ρ i) with
  | .agg cs,some i=>if 0≤i∧i<len then (getN n cs.toList (i.toNat*e)).map fun v=>(v,H) else none
  | _,_=>none
 | .indexStr x i=>
  match ρ x,intOf (ρ i) with
  | .string s,some i=>if 0≤i then (s[i.toNat]?).map fun b=>(.int .u8 b.toNat,H) else none
  | _,_=>none
 | .extract x j=>match ρ x with| .tuple vs=>(vs[j]?).map fun v=>(v,H)| _=>none
 | .len x=>match ρ x with| .slice _ n _=>some (.int .i64 n,H)| .iface n (.iface _ (.tuple _))=>some (.int .i64 n,H)| _=>none
 | .lenStr x=>match ρ x with| .string s=>some (.int .i64 s.size,H)| _=>none
 | .lenConst n=>some (.int .i64 n,H)
 | .append e bytes s x=>eH e bytes (ρ s) (ρ x) H
 | .appendF e bytes s x fl=>if (fl.all fun y=>uh H (ρ s) (ρ y))=true then eH e bytes (ρ s) (ρ x) H else none
 | .max xs=>(foldV max2 (xs.map ρ)).map fun v=>(v,H)
 | .min xs=>(foldV min2 (xs.map ρ)).map fun v=>(v,H)
 | .nilCheck x=>match ρ x with| .pointer (some ⟨b,o,none⟩)=>some (P b o,H)| .iface o (.tuple ⟨cs⟩)=>some (Fp o cs,H)| _=>none
 | .makeFunc f caps=>some (.func (.func f) #[] ⟨caps.map ρ⟩,H)
 | .strOf x=>
  match ρ x with
  | .slice (some ⟨b,o,none⟩) n 1=>(match blk H b with|some cs=>if o+n≤cs.length then (bytesL ((cs.drop o).take n)).map fun l=>(.string ⟨⟨l⟩⟩,H) else none|none=>none)
  | .slice none 0 0=>some (.string ⟨#[]⟩,H)
  | .iface n (.iface 1 (.tuple ⟨cs⟩))=>(bytesL cs).map fun l=>(.string ⟨⟨l⟩⟩,H)
  | _=>none
 | .makeMap=>some (.map (some H.length),(H++[some []])++[some []])
 | .mapPut qs x k=>wH qs (ρ x) (ρ k) H
 | .lenMap qs x=>wJ qs (ρ x) H
 | .kR z x=>wI z (ρ x) H
 | .call .. | .callv .. | .callF .. =>none
def OpOK (ρ:Nat→Option Nat) (Z:Nat→Option Blk) (H:BH) (HA:AHeap) (r:Option (Value×AHeap)) (v:Value) (H':BH):Prop:=
 ∃v' HA' ρ',r=some (v',HA')∧VR ρ' Z v v'∧Rel ρ' Z H' HA'∧Frm ρ Z H HA ρ' Z H' HA'∧(∀i b,ρ i=some b→ρ' i=some b)∧ ∀i,i<H.length→ρ' i=ρ i
section
variable {ρ:Nat→Option Nat} {Z:Nat→Option Blk} {H H':BH} {HA:AHeap} {r2 r1:Opd→Value} {v:Value}
theorem OpOK.same (hR:Rel ρ Z H HA) {r:Option (Value×AHeap)} {v':Value} (h:r=some (v',HA)) (hv:VR ρ Z v v'):OpOK ρ Z H HA r v H:=
 ⟨v',HA,ρ,h,hv,hR, .refl _ _ _ _,fun _ _ h=>h,fun _ _=>rfl⟩
theorem OpOK.new (hR:Rel ρ Z H HA) {r:Option (Value×AHeap)} {v':Value} {cs ds:List Value} (h:r=some (v',HA.alloc ds)) (hl:VL ρ Z cs ds) (hv:VR (put ρ H.length HA.n) Z v v'):OpOK ρ Z H HA r v (H++[some cs]):=by
 obtain ⟨h1,h2⟩:=hR.alloc hl
 exact ⟨v',_,_,h,hv,h1,h2,zH hR _,fun i hi=>if_neg (by omega)⟩
theorem map_inj {α γ:Type} {f:α→γ} {o:Option α} {b:γ} (h:o.map f=some b): ∃a,o=some a∧f a=b:=by
 cases o with
 |none=>cases h
 |some a=>exact ⟨a,rfl,by simpa using h⟩
theorem intOf_vr {x y:Value} (h:VR ρ Z x y) {q:Int} (hq:intOf x=some q):intOf y=some q:=by
 cases x<;>simp only [intOf] at hq<;>first|(cases hq;done)|(cases hq;rw [h.int];rfl)
theorem zI (hr: ∀x,VR ρ Z (r2 x) (r1 x)) {len:Nat} {lo hi:Option Opd} {q:Nat×Nat} (h:cutOf r2 len lo hi=some q):cutOf r1 len lo hi=some q:=by
 cases hi with
 |none=>
  cases lo with
  |none=>exact h
  |some y=>
   simp only [cutOf] at h⊢
   cases e:intOf (r2 y) with
   |none=>rw [e] at h;cases h
   |some b=>rw [intOf_vr (hr y) e];rw [e] at h;exact h
 |some x=>
  cases lo with
  |none=>
   simp only [cutOf] at h⊢
   cases e:intOf (r2 x) with
   |none=>rw [e] at h;cases h
   |some b=>rw [intOf_vr (hr x) e];rw [e] at h;exact h
  |some y=>
   simp only [cutOf] at h⊢
   cases e:intOf (r2 x) with
   |none=>rw [e] at h;cases h
   |some a=>
    cases e':intOf (r2 y) with
    |none=>rw [e,e'] at h;cases h
    |some b=>rw [intOf_vr (hr x) e,intOf_vr (hr y) e'];rw [e,e'] at h;exact h
theorem ad4 {len:Nat} {lo hi:Option Opd} {l h:Nat} (hc:cutOf r2 len lo hi=some (l,h)):l≤h∧h≤len:=by
 unfold cutOf at hc
 split at hc
 ·split at hc
  ·cases hc;omega
  ·cases hc
 ·cases hc
theorem zF {cs ds:List Value} (h:VL ρ Z cs ds) {n:Option Nat} {o:Nat} (hv:getN n cs o=some v): ∃u,getN n ds o=some u∧VR ρ Z v u:=by
 cases n with
 |none=>exact h.at_ hv
 |some n=>
  simp only [getN] at hv⊢
  split at hv
  ·rename_i hl
   cases hv
   have:=(h.drop o).take n
   exact ⟨_,if_pos (by rw [←h.1];exact hl), .agg this.1 this.2⟩
  ·cases hv
theorem ad5 {cs ds es:List Value} (hz:nS Z cs ds) {p o:Nat} {n:Option Nat} (hp:p+cs.length≤es.length) (hd:ds=(es.drop p).take cs.length) (hv:getN n cs o=some v): ∃u,getN n es (p+o)=some u∧VR ρ Z v u:=by
 obtain ⟨u,hu,hr⟩:=zF (ρ:=ρ) hz.vl hv
 refine ⟨u,?_,hr⟩
 cases n with
 |none=>
  have ho:o<cs.length:=(List.getElem?_eq_some_iff.1 hv).1
  simp only [getN] at hu⊢
  rw [hd,List.getElem?_take,if_pos ho,List.getElem?_drop] at hu
  exact hu
 |some n=>
  simp only [getN] at hv hu⊢
  split at hv
  ·rename_i ho
   rw [if_pos (by rw [←hz.1];exact ho)] at hu
   rw [if_pos (by omega)]
   rw [←hu,hd,List.drop_take,List.take_take,List.drop_drop,Nat.min_eq_left (by omega)]
  ·cases hv
theorem Ip {cs ds vs us:List Value} (h:VL ρ Z cs ds) (hv:VL ρ Z vs us) (o:Nat):VL ρ Z (splice cs o vs) (splice ds o us):=by
 unfold splice
 rw [←hv.1]
 exact ((h.take o).append hv).append (h.drop _)
theorem UH {ps qs:List (Nat×Nat×Value)} (hl:ps.length=qs.length) (hp: ∀(i:Nat) (p q:Nat×Nat×Value),ps[i]? =some p→qs[i]? =some q→p.1=q.1∧p.2.1=q.2.1∧nj p.2.2=true∧VR ρ Z p.2.2 q.2.2):
  ∀{cs ds out:List Value},VL ρ Z cs ds→fillL cs ps=some out→ ∃out',fillL ds qs=some out'∧VL ρ Z out out':=by
 induction ps generalizing qs with
 |nil=>
  intro cs ds out h hf
  have:qs=[]:=List.eq_nil_of_length_eq_zero hl.symm
  subst this
  simp only [fillL,Option.some.injEq] at hf⊢
  subst hf
  exact ⟨ds,rfl,h⟩
 |cons p ps ih=>
  intro cs ds out h hf
  cases qs with
  |nil=>simp at hl
  |cons q qs=>
   obtain ⟨o,n,x⟩:=p
   obtain ⟨o',n',y⟩:=q
   obtain ⟨h1,h2,h3,h4⟩:=hp 0 _ _ rfl rfl
   simp only at h1 h2 h3 h4
   subst h1 h2
   have hc:=h4.cells (ad6 h3)
   simp only [fillL] at hf⊢
   split at hf
   ·rename_i hk
    rw [if_pos (by rw [←hc.1,←h.1];exact hk)]
    exact ih (by simpa using hl) (fun i p q h1 h2=>hp (i+1) p q (by simpa using h1) (by simpa using h2)) (Ip h hc o) hf
   ·cases hf
theorem UJ (hr: ∀x,VR ρ Z (r2 x) (r1 x)) {parts:List (Nat×Nat×Opd)} (hj:(parts.all fun p=>nj (r2 p.2.2))=true): ∀(i:Nat) (p q:Nat×Nat×Value),(parts.map fun p=>(p.1,p.2.1,r2 p.2.2))[i]? =some p→(parts.map fun p=>(p.1,p.2.1,r1 p.2.2))[i]? =some q→p.1=q.1∧p.2.1=q.2.1∧nj p.2.2=true∧VR ρ Z p.2.2 q.2.2:=by
 intro i p q h1 h2
 rw [List.getElem?_map] at h1 h2
 obtain ⟨x,hx,rfl⟩:=map_inj h1
 rw [hx] at h2
 cases h2
 exact ⟨rfl,rfl,List.all_eq_true.1 hj x (List.mem_of_getElem? hx),hr _⟩
theorem UK {op:BinOp} {k:IntKind} {a b:Int} {v:Value} (h:aSh op k a b=some v):Am.plain v=true:=by
 cases op<;>simp only [aSh] at h<;>(try (cases h;done))
 all_goals
  split at h
  ·cases h
  ·cases h;rfl
theorem ad7 {op:BinOp} {x y x' y':Value} (hx:VR ρ Z x x') (hy:VR ρ Z y y') (h:aBin op x y=some v):aBin op x' y'=some v∧VR ρ Z v v:=by
 cases x with
 |int k a=>
  cases y with
  |int k' b=>
   rw [hx.int,hy.int]
   refine ⟨h, .z (.plain ?_)⟩
   simp only [aBin] at h
   split at h
   ·cases op<;>simp only at h<;>first|exact UK h|(cases h;done)|(cases h;rfl)|(split at h<;>first|(cases h;done)|(cases h;rfl))
   ·exact UK h
  | _=>simp [aBin] at h
 | _=>simp [aBin] at h
theorem ad8 {op:BinOp} {x y x' y':Value} (hx:VR ρ Z x x') (hy:VR ρ Z y y') (h:aSbin op x y=some v):aSbin op x' y'=some v∧VR ρ Z v v:=by
 cases x with
 |string a=>
  cases y with
  |string b=>
   rw [hx.string,hy.string]
   refine ⟨h, .z (.plain ?_)⟩
   simp only [aSbin] at h
   cases op<;>simp only at h<;>first|(cases h;done)|(cases h;rfl)|(split at h<;>first|(cases h;done)|(cases h;rfl))
  | _=>simp [aSbin] at h
 | _=>simp [aSbin] at h
theorem ad9 {a b a' b':Value} (ha:VR ρ Z a a') (hb:VR ρ Z b b') {r:Bool} (h:eqCell a b=some r):eqCell a' b'=some r:=by
 cases a<;>cases b<;>simp only [eqCell] at h<;>first|(cases h;done)|skip
 ·rw [ha.int,hb.int];simpa [eqCell] using h
theorem aea: ∀{as bs as' bs':List Value} {r:Bool},VL ρ Z as as'→VL ρ Z bs bs'→eqCells as bs=some r→eqCells as' bs'=some r:=by
 intro as
 induction as with
 |nil=>
  intro bs as' bs' r ha hb h
  obtain rfl:=ha.jo
  cases bs with
  |nil=>obtain rfl:=hb.jo;exact h
  |cons b bs=>simp [eqCells] at h
 |cons a as ih=>
  intro bs as' bs' r ha hb h
  cases bs with
  |nil=>simp [eqCells] at h
  |cons b bs=>
   obtain ⟨a',agT,rfl,ha1,ha2⟩:=ha.iV
   obtain ⟨b',agU,rfl,hb1,hb2⟩:=hb.iV
   simp only [eqCells] at h⊢
   split at h
   ·rename_i r1 h1
    rw [ad9 ha1 hb1 h1]
    obtain ⟨r2,h2,h3⟩:=map_inj h
    simp [ih ha2 hb2 h2,h3]
   ·cases h
theorem aeb {n:Nat} {x y x' y':Value} (hx:VR ρ Z x x') (hy:VR ρ Z y y') {r:Bool} (h:aEqa n x y=some r):aEqa n x' y'=some r:=by
 cases x<;>cases y<;>simp only [aEqa] at h<;>first|(cases h;done)|skip
 obtain ⟨ds,rfl,h1⟩:=hx.agg_inv
 obtain ⟨es,rfl,h2⟩:=hy.agg_inv
 split at h
 ·rename_i hn
  simp only [aEqa]
  rw [if_pos (by rw [←h1.1];exact hn)]
  exact aea h1 h2 h
 ·cases h
theorem UL {g:Value→Value→Option Value} (hg: ∀a b c,g a b=some c→(∃k m,a= .int k m)∧(∃k m,b= .int k m)∧ ∃k m,c= .int k m):
  ∀(n:Nat) {xs ys:List Value},xs.length≤n→VL ρ Z xs ys→foldV g xs=some v→ ∃u,foldV g ys=some u∧VR ρ Z v u:=by
 intro n
 induction n with
 |zero=>
  intro xs ys hn hl h
  have:xs=[]:=List.eq_nil_of_length_eq_zero (by omega)
  subst this
  simp [foldV] at h
 |succ n ih=>
  intro xs ys hn hl h
  match xs,hn,hl,h with
  |[],hn,hl,h=>simp [foldV] at h
  |[x],hn,hl,h=>
   obtain ⟨y,ys',rfl,h1,h2⟩:=hl.iV
   obtain rfl:=h2.jo
   simp only [foldV,Option.some.injEq] at h⊢
   subst h
   exact ⟨y,rfl,h1⟩
  |x::x2::xs,hn,hl,h=>
   obtain ⟨y,ys',rfl,h1,h2⟩:=hl.iV
   obtain ⟨y2,agV,rfl,h3,h4⟩:=h2.iV
   rw [foldV] at h
   rw [foldV]
   split at h
   ·rename_i z hz
    obtain ⟨⟨k,m,rfl⟩,⟨k',m',rfl⟩,⟨k2,m2,rfl⟩⟩:=hg _ _ _ hz
    rw [h1.int,h3.int,hz]
    exact ih (by simp at hn⊢;omega) (VL.cons (.z (.plain rfl)) h4) h
   ·cases h
theorem UM: ∀{cs ds:List Value} {l:List UInt8},VL ρ Z cs ds→bytesL cs=some l→bytesL ds=some l:=by
 intro cs
 induction cs with
 |nil=>intro ds l hl h;obtain rfl:=hl.jo;exact h
 |cons c cs ih=>
  intro ds l hl h
  obtain ⟨d,ds',rfl,h1,h2⟩:=hl.iV
  cases c with
  |int k n=>
   rw [h1.int]
   cases k<;>simp only [bytesL] at h<;>first|(cases h;done)|skip
   obtain ⟨l',h3,rfl⟩:=map_inj h
   simp [bytesL,ih h2 h3]
  | _=>simp [bytesL] at h
theorem aec {l h e:Nat} {cs:List Value} {len:Nat} {u:Value} (hu:VR ρ Z (.iface len (.iface e (.tuple ⟨cs⟩))) u) (hlh:l≤h) (hle:h≤len):
  (len=0∧u= .slice none 0 0)∨ ∃b o,u= .slice (some ⟨b,o,none⟩) len e∧VR ρ Z (Fz (h-l) e ((cs.drop (l*e)).take ((h-l)*e))) (S b (o+l*e) (h-l) e):=by
 rcases hu.rZ with ⟨h1,_,h2⟩|⟨b,o,bk,ds,hz,rfl,h1,h2,h3,h4⟩
 ·exact .inl ⟨h1,h2⟩
 ·refine .inr ⟨b,o,rfl, .z (.fz (ds:=(ds.drop (l*e)).take ((h-l)*e)) hz ?_ ?_ ?_ ?_ ?_)⟩
  ·have:(h-l)*e+l*e=h*e:=by rw [←Nat.add_mul];congr 1;omega
   have:h*e≤len*e:=Nat.mul_le_mul_right _ hle
   simp;omega
  ·exact ((h4.drop _).take _).1
  ·have:(h-l)*e+l*e=h*e:=by rw [←Nat.add_mul];congr 1;omega
   have:h*e≤len*e:=Nat.mul_le_mul_right _ hle
   omega
  ·have:(h-l)*e+l*e=h*e:=by rw [←Nat.add_mul];congr 1;omega
   have:h*e≤len*e:=Nat.mul_le_mul_right _ hle
   rw [h3,List.drop_take,List.take_take,List.drop_drop,Nat.min_eq_left (by omega)]
  ·exact ((h4.drop _).take _).2
theorem UN {a:Option Addr} {l e:Nat} {u:Value} (h:VR ρ Z (.slice a l e) u): ∃a',u= .slice a' l e∧a'.isNone=a.isNone:=by
 cases h with
 |z hz=>cases hz with|plain hp=>exact ⟨a,rfl,rfl⟩
 |slice hb=>exact ⟨_,rfl,rfl⟩
def Iq (HA:AHeap) (e:Nat) (xa:Option Addr) (xl xe:Nat) (nw:List Value):Prop:=
 (xl=0∧nw=[]∧(xa=none∨ ∃b o,xa=some ⟨b,o,none⟩))∨(xl≠0∧xe=e∧ ∃b o,xa=some ⟨b,o,none⟩∧HA.row b o (xl*e)=some nw)
theorem aed {HA:AHeap} {e bytes:Nat} {xa:Option Addr} {xl xe:Nat} {nw:List Value} (h:Iq HA e xa xl xe nw):
  aAppend e bytes (.slice none 0 0) (.slice xa xl xe) HA=if xl=0 then some (.slice none 0 0,HA) else if xl*bytes≤140737488355328 then some (S HA.n 0 xl e,HA.alloc nw) else none:=by
 rcases h with ⟨rfl,rfl,rfl|⟨b,o,rfl⟩⟩|⟨h0,rfl,b,o,rfl,hr⟩
 ·simp [aAppend]
 ·simp [aAppend]
 ·simp [aAppend,h0,hr]
theorem aee {HA:AHeap} {e bytes b l:Nat} {bk:Blk} {xa:Option Addr} {xl xe:Nat} {nw:List Value} (h:Iq HA e xa xl xe nw) (hb:HA.get b=some bk)
  (hk:bk.rw=true∧l*e≤bk.cells.length∧(l+xl)*bytes≤140737488355328∧nw.all (·.oneCell')=true):
  aAppend e bytes (.slice (some ⟨b,0,none⟩) l e) (.slice xa xl xe) HA=some (S HA.n 0 (l+xl) e,(HA.kill b).alloc (bk.cells.take (l*e)++nw)):=by
 rcases h with ⟨rfl,rfl,rfl|⟨b',o,rfl⟩⟩|⟨h0,rfl,b',o,rfl,hr⟩
 ·simp only [aAppend,ne_eq,not_true,false_and,if_false,if_true,hb,if_pos hk]
 ·simp only [aAppend,ne_eq,not_true,false_and,if_false,if_true,hb,if_pos hk]
 ·simp only [aAppend,ne_eq,h0,not_true,not_false_eq_true,and_false,if_false,if_true,hr,hb,if_pos hk]
theorem aef (hR:Rel ρ Z H HA) {e xl:Nat} {x y:Value} {new:List Value} (hx:VR ρ Z x y) (h:newC H e x=some (xl,new)):
  ∃xa xe nw,y= .slice xa xl xe∧Iq HA e xa xl xe nw∧VL ρ Z new nw:=by
 unfold newC at h
 split at h
 ·cases h
  obtain ⟨_,_,rfl⟩:=hx.nil_inv
  exact ⟨none,0,[],rfl, .inl ⟨rfl,rfl, .inl rfl⟩,VL.nil⟩
 ·rename_i b o xl' xe
  obtain ⟨b',hb,rfl⟩:=hx.slice_inv
  split at h
  ·rename_i h0
   cases h
   exact ⟨some ⟨b',o,none⟩,xe,[],by rw [h0], .inl ⟨rfl,rfl, .inr ⟨_,_,rfl⟩⟩,VL.nil⟩
  ·rename_i h0
   split at h
   ·rename_i he
    split at h
    ·rename_i cs hc
     split at h
     ·rename_i hl
      cases h
      subst he
      obtain ⟨b2,bk,h1,h2,h3,h4,h5⟩:=hR.bH _ _ hc
      rw [hb] at h1
      cases h1
      refine ⟨some ⟨b',o,none⟩,xe,(bk.cells.drop o).take (xl*xe),rfl, .inr ⟨h0,rfl,_,_,rfl,?_⟩,(h5.drop o).take _⟩
      simp only [AHeap.row,h3]
      rw [if_pos (by rw [←h5.1];exact hl)]
     ·cases h
    ·cases h
   ·cases h
 ·rename_i xl' xe cs
  split at h
  ·rename_i h0
   cases h
   subst h0
   rcases hx.rZ with ⟨_,_,rfl⟩|⟨b,o,bk,ds,hz,rfl,_⟩
   ·exact ⟨none,0,[],rfl, .inl ⟨rfl,rfl, .inl rfl⟩,VL.nil⟩
   ·exact ⟨some ⟨b,o,none⟩,xe,[],rfl, .inl ⟨rfl,rfl, .inr ⟨_,_,rfl⟩⟩,VL.nil⟩
  ·rename_i h0
   split at h
   ·rename_i he
    cases h
    subst he
    rcases hx.rZ with ⟨h1,_,_⟩|⟨b,o,bk,ds,hz,rfl,h1,h2,h3,h4⟩
    ·exact absurd h1 h0
    ·refine ⟨some ⟨b,o,none⟩,xe,ds,rfl, .inr ⟨h0,rfl,_,_,rfl,?_⟩,h4.vl⟩
     simp only [AHeap.row,(hR.fH _ _ hz).2]
     rw [if_pos h2,h3]
   ·cases h
 ·cases h
theorem aeg (hR:Rel ρ Z H HA) {e bytes:Nat} {s s' x x':Value} (hs:VR ρ Z s s') (hx:VR ρ Z x x') (h:eH e bytes s x H=some (v,H')):OpOK ρ Z H HA (aAppend e bytes s' x' HA) v H':=by
 unfold eH at h
 split at h
 ·cases h
 ·rename_i xl new hn
  obtain ⟨xa,xe,nw,rfl,hnew,hnw⟩:=aef hR hx hn
  split at h
  ·obtain ⟨_,_,rfl⟩:=hs.nil_inv
   rw [aed hnew]
   split at h
   ·rename_i h0
    cases h
    rw [if_pos h0]
    exact .same hR rfl (.z (.plain rfl))
   ·rename_i h0
    split at h
    ·rename_i hb
     cases h
     rw [if_neg h0,if_pos hb]
     exact .new (v':=S HA.n 0 xl e) hR rfl hnw (.slice (by simp [put]))
    ·cases h
  ·rename_i b l e'
   obtain ⟨b',hb,rfl⟩:=hs.slice_inv
   split at h
   ·rename_i he
    subst he
    split at h
    ·rename_i cs hc
     split at h
     ·rename_i hk
      cases h
      obtain ⟨b2,bk,h1,h2,h3,h4,h5⟩:=hR.bH _ _ hc
      rw [hb] at h1
      cases h1
      rw [aee hnew h3 ⟨h4,by rw [←h5.1];exact hk.1,hk.2.1,hnw.ones hk.2.2⟩]
      obtain ⟨r1,f1⟩:=hR.kill hc hb
      obtain ⟨r2,f2⟩:=r1.alloc ((h5.take (l*e')).append hnw)
      refine ⟨S HA.n 0 (l+xl) e',_,_,rfl, .slice (b:=HA.n) ?_,r2,f1.trans f2,zH r1 _,fun i hi=>if_neg (by simp;omega)⟩
      simp [put,AHeap.kill]
     ·cases h
    ·cases h
   ·cases h
  ·cases h
theorem UO: ∀{qs:List IntKind} {cs ds:List Value},keyG qs cs=true→VL ρ Z cs ds→ds=cs
 |[],cs,ds,h,hv=>by
  cases cs with
  |nil=>exact hv.jo
  |cons c cs=>simp [keyG] at h
 |q::qs,cs,ds,h,hv=>by
  cases cs with
  |nil=>simp [keyG] at h
  |cons c cs=>
   obtain ⟨d,ds',rfl,h1,h2⟩:=hv.iV
   cases c<;>simp only [keyG,Bool.and_eq_true,Bool.false_eq_true] at h
   rw [h1.int,UO h.2 h2]
theorem UQ {qs:List IntKind} {k u:Value} (h:keyV qs k=true) (hv:VR ρ Z k u):u=k:=by
 cases k<;>simp only [keyV,Bool.false_eq_true] at h
 obtain ⟨⟨ds⟩,rfl,hds⟩:=hv.agg_inv
 have:=UO h hds
 simp only at this
 rw [this]
theorem Fe {qs:List IntKind} {ks ds:List Value} (h:ks.all (keyV qs)=true) (hv:VL ρ Z ks ds):ds=ks:=by
 refine List.ext_getElem hv.1.symm fun i h1 h2=>?_
 exact UQ (List.all_eq_true.1 h _ (List.getElem_mem h2)) (hv.2 i _ _ (List.getElem?_eq_getElem h2) (List.getElem?_eq_getElem h1))
theorem Ir (hR:Rel ρ Z H HA) (hr: ∀x,VR ρ Z (r2 x) (r1 x)) {o:AOp} (hno: ∀n a x fl,o≠ .storeF n a x fl) (DK: ∀e b s x fl,o≠ .appendF e b s x fl) (h:aK o r2 H=some (v,H')):OpOK ρ Z H HA (aOp o r1 HA) v H':=by
 cases o with
 |move x=>simp only [aK,Option.some.injEq,Prod.mk.injEq] at h;obtain ⟨rfl,rfl⟩:=h;exact .same hR rfl (hr x)
 |pick c a b=>
  simp only [aK] at h
  split at h
  ·rename_i t ht
   cases h
   have:=hr c
   rw [ht] at this
   refine .same hR (v':=if t then r1 a else r1 b) ?_ ?_
   ·simp only [aOp];rw [this.bool]
   ·cases t
    ·exact hr b
    ·exact hr a
  ·cases h
 |alloc z=>
  simp only [aK] at h
  split at h
  ·rename_i hp
   cases h
   exact .new hR rfl (VL.plain hp) (.ptr (by simp [put]))
  ·cases h
 |box x=>
  simp only [aK] at h
  split at h
  ·rename_i cs hc
   cases h
   exact .new hR rfl ((hr x).cells hc) (.ptr (by simp [put]))
  ·cases h
 |build z parts=>
  simp only [aK] at h
  split at h
  ·rename_i hp
   obtain ⟨cs,hc,he⟩:=map_inj h
   cases he
   obtain ⟨ds,hd,hv⟩:=UH (by simp) (UJ hr hp.2) (VL.plain hp.1) hc
   exact .same hR (by simp only [aOp,hd];rfl) (.agg hv.1 hv.2)
  ·cases h
 |buildSlice e n z parts=>
  simp only [aK] at h
  split at h
  ·rename_i hp
   obtain ⟨cs,hc,he⟩:=map_inj h
   cases he
   have hpl:(repl z n).all plain=true:=by
    refine List.all_eq_true.2 fun q hq=>?_
    unfold repl at hq
    obtain ⟨l',hl',hq'⟩:=List.mem_flatten.1 hq
    have:=(List.mem_replicate.1 hl').2
    subst this
    exact List.all_eq_true.1 hp.2.1 q hq'
   obtain ⟨ds,hd,hv⟩:=UH (by simp) (UJ hr hp.2.2) (VL.plain hpl) hc
   exact .new hR (by simp only [aOp,hd,if_pos hp.1];rfl) hv (.slice (by simp [put]))
  ·cases h
 |load n a=>
  simp only [aK] at h
  have ha:=hr a
  split at h
  ·rename_i b o e
   rw [e] at ha
   obtain ⟨b',hb,he⟩:=ha.ptr_inv
   split at h
   ·rename_i cs hc
    obtain ⟨w,hw,hv⟩:=map_inj h
    cases hv
    obtain ⟨b2,bk,h1,h2,h3,h4,h5⟩:=hR.bH _ _ hc
    rw [hb] at h1;cases h1
    obtain ⟨u,hu,hvu⟩:=zF h5 hw
    exact .same hR (v':=u) (by simp only [aOp];rw [he];simp only [h3,hu];rfl) hvu
   ·cases h
  ·rename_i o cs e
   rw [e] at ha
   obtain ⟨b',p,bk,ds,hz,he,h1,h2,h3⟩:=ha.zJ
   obtain ⟨w,hw,hv⟩:=map_inj h
   cases hv
   obtain ⟨u,hu,hvu⟩:=ad5 (ρ:=ρ) h3 h1 h2 hw
   exact .same hR (v':=u) (by simp only [aOp];rw [he];simp only [(hR.fH _ _ hz).2,hu];rfl) hvu
  ·cases h
 |store n a x=>
  simp only [aK] at h
  have ha:=hr a
  split at h
  ·rename_i b o e
   rw [e] at ha
   obtain ⟨b',hb,he⟩:=ha.ptr_inv
   split at h
   ·rename_i cs hc
    split at h
    ·rename_i vs hvs
     split at h
     ·rename_i hk
      cases h
      obtain ⟨b2,bk,h1,h2,h3,h4,h5⟩:=hR.bH _ _ hc
      rw [hb] at h1;cases h1
      have hcx:=(hr x).cells hvs
      obtain ⟨r2',f2⟩:=hR.set hc hb (Ip h5 hcx o)
      refine ⟨undef,_,ρ,?_, .z (.plain rfl),r2',f2,fun _ _ h=>h,fun _ _=>rfl⟩
      simp only [aOp];rw [he];simp only [h3]
      rw [if_pos ⟨h4,by rw [←hcx.1];exact hk.1,by rw [←h5.1];exact hk.2.1,hcx.ones hk.2.2⟩]
     ·cases h
    ·cases h
   ·cases h
  ·cases h
 |storeF n a x fl=>exact absurd rfl (hno n a x fl)
 |appendF e b s x fl=>exact absurd rfl (DK e b s x fl)
 |bin op x y=>
  simp only [aK] at h
  obtain ⟨w,hw,hv⟩:=map_inj h
  cases hv
  obtain ⟨h1,h2⟩:=ad7 (hr x) (hr y) hw
  exact .same hR (by simp only [aOp,h1];rfl) h2
 |sbin op x y=>
  simp only [aK] at h
  obtain ⟨w,hw,hv⟩:=map_inj h
  cases hv
  obtain ⟨h1,h2⟩:=ad8 (hr x) (hr y) hw
  exact .same hR (by simp only [aOp,h1];rfl) h2
 |eqb neg x y=>
  simp only [aK] at h
  have hx:=hr x
  have hy:=hr y
  split at h
  ·rename_i a b e1 e2
   cases h
   rw [e1] at hx;rw [e2] at hy
   exact .same hR (by simp only [aOp];rw [hx.bool,hy.bool]) (.z (.plain rfl))
  ·cases h
 |eqa neg n x y=>
  simp only [aK] at h
  obtain ⟨w,hw,hv⟩:=map_inj h
  cases hv
  exact .same hR (by simp only [aOp,aeb (hr x) (hr y) hw];rfl) (.z (.plain rfl))
 |eqn neg x=>
  simp only [aK] at h
  have hx:=hr x
  split at h
  ·rename_i a l e e1
   cases h
   rw [e1] at hx
   obtain ⟨a',he,hn⟩:=UN hx
   exact .same hR (by simp only [aOp];rw [he];simp only [hn]) (.z (.plain rfl))
  ·rename_i l e cs e1
   cases h
   rw [e1] at hx
   obtain ⟨cs⟩:=cs
   rcases hx.rZ with ⟨h0,_⟩|⟨b,o,bk,ds,hz,he,_⟩
   ·omega
   ·exact .same hR (by simp only [aOp];rw [he];cases neg<;>rfl) (.z (.plain rfl))
  ·cases h
 |not x=>
  simp only [aK] at h
  have hx:=hr x
  split at h
  ·rename_i b e
   cases h
   rw [e] at hx
   exact .same hR (by simp only [aOp];rw [hx.bool]) (.z (.plain rfl))
  ·cases h
 |neg x=>
  simp only [aK] at h
  have hx:=hr x
  split at h
  ·rename_i k n e
   cases h
   rw [e] at hx
   exact .same hR (by simp only [aOp];rw [hx.int]) (.z (.plain rfl))
  ·cases h
 |conv k x=>
  simp only [aK] at h
  have hx:=hr x
  split at h
  ·rename_i k' n e
   cases h
   rw [e] at hx
   exact .same hR (by simp only [aOp];rw [hx.int]) (.z (.plain rfl))
  ·cases h
 |makeSlice e bytes z l c=>
  simp only [aK] at h
  have hx:=hr l
  have hy:=hr c
  split at h
  ·rename_i k a k' b e1 e2
   rw [e1] at hx;rw [e2] at hy
   split at h
   ·rename_i hk
    cases h
    have hpl:(repl z b.toNat).all plain=true:=by
     refine List.all_eq_true.2 fun q hq=>?_
     unfold repl at hq
     obtain ⟨l',hl',hq'⟩:=List.mem_flatten.1 hq
     have:=(List.mem_replicate.1 hl').2
     subst this
     exact List.all_eq_true.1 hk.1 q hq'
    exact .new (v':=S HA.n 0 a.toNat e) hR (by simp only [aOp];rw [hx.int,hy.int];simp only [if_pos hk.2]) (VL.plain hpl) (.slice (by simp [put]))
   ·cases h
  ·cases h
 |slice e x lo hi=>
  simp only [aK] at h
  have hx:=hr x
  split at h
  ·rename_i b o len e' e1
   rw [e1] at hx
   obtain ⟨b',hb,he⟩:=hx.slice_inv
   split at h
   ·rename_i hee
    obtain ⟨q,hq,hv⟩:=map_inj h
    cases hv
    exact .same hR (v':=S b' (o+q.1*e) (q.2-q.1) e) (by simp only [aOp];rw [he];simp only [if_pos hee,zI hr hq];rfl) (.slice hb)
   ·cases h
  ·rename_i e1
   rw [e1] at hx
   obtain ⟨q,hq,hv⟩:=map_inj h
   cases hv
   obtain ⟨_,_,he⟩:=hx.nil_inv
   exact .same hR (v':= .slice none 0 0) (by simp only [aOp];rw [he];simp only [zI hr hq];rfl) (.z (.plain rfl))
  ·rename_i len e' cs e1
   rw [e1] at hx
   split at h
   ·rename_i hee
    subst hee
    obtain ⟨⟨l,hh⟩,hq,hv⟩:=map_inj h
    cases hv
    obtain ⟨c1,c2⟩:=ad4 hq
    have hq':=zI hr hq
    rcases aec hx c1 c2 with ⟨h0,he⟩|⟨b,o,he,hv⟩
    ·subst h0
     obtain rfl:hh=0:=by omega
     obtain rfl:l=0:=by omega
     refine .same hR (v':= .slice none 0 0) (by simp only [aOp];rw [he];simp only [hq'];rfl) ?_
     simp only [Nat.sub_self,Nat.zero_mul,List.take_zero]
     exact .z .fz0
    ·exact .same hR (v':=S b (o+l*e') (hh-l) e') (by simp only [aOp];rw [he];simp only [if_true,hq'];rfl) hv
   ·cases h
  ·cases h
 |sliceStr x lo hi=>
  simp only [aK] at h
  have hx:=hr x
  split at h
  ·rename_i s e1
   rw [e1] at hx
   obtain ⟨q,hq,hv⟩:=map_inj h
   cases hv
   exact .same hR (by simp only [aOp];rw [hx.string];simp only [zI hr hq];rfl) (.z (.plain rfl))
  ·cases h
 |sliceArr len e x lo hi=>
  simp only [aK] at h
  have hx:=hr x
  split at h
  ·rename_i b o e1
   rw [e1] at hx
   obtain ⟨b',hb,he⟩:=hx.ptr_inv
   split at h
   ·rename_i cs hc
    split at h
    ·rename_i hl
     obtain ⟨q,hq,hv⟩:=map_inj h
     cases hv
     obtain ⟨b2,bk,h1,h2,h3,h4,h5⟩:=hR.bH _ _ hc
     rw [hb] at h1;cases h1
     exact .same hR (v':=S b' (o+q.1*e) (q.2-q.1) e) (by simp only [aOp];rw [he];simp only [h3];rw [if_pos (by rw [←h5.1];exact hl)];simp only [zI hr hq];rfl) (.slice hb)
    ·cases h
   ·cases h
  ·cases h
 |fieldAddr off x=>
  simp only [aK] at h
  have hx:=hr x
  split at h
  ·rename_i b o e1
   cases h
   rw [e1] at hx
   obtain ⟨b',hb,he⟩:=hx.ptr_inv
   exact .same hR (v':=P b' (o+off)) (by simp only [aOp];rw [he]) (.ptr hb)
  ·rename_i o cs e1
   cases h
   rw [e1] at hx
   obtain ⟨b',p,bk,ds,hz,he,h1,h2,h3⟩:=hx.zJ
   exact .same hR (v':=P b' (p+(o+off))) (by simp only [aOp];rw [he];simp only [Nat.add_assoc]) (.z (.fp hz h3.1 h1 h2 h3.2))
  ·cases h
 |field n off x=>
  simp only [aK] at h
  have hx:=hr x
  split at h
  ·rename_i cs e1
   rw [e1] at hx
   obtain ⟨ds,he,hl⟩:=hx.agg_inv
   obtain ⟨w,hw,hv⟩:=map_inj h
   cases hv
   obtain ⟨u,hu,hvu⟩:=zF hl hw
   exact .same hR (v':=u) (by simp only [aOp];rw [he];simp only [hu];rfl) hvu
  ·cases h
 |indexAddr arr e x i=>
  have hx:=hr x
  have hi:=hr i
  cases arr with
  |none=>
   simp only [aK] at h
   split at h
   ·rename_i b o len e' q e1 e2
    rw [e1] at hx
    obtain ⟨b',hb,he⟩:=hx.slice_inv
    split at h
    ·rename_i hk
     cases h
     exact .same hR (v':=P b' (o+q.toNat*e)) (by simp only [aOp];rw [he,intOf_vr hi e2];simp only [if_pos hk]) (.ptr hb)
    ·cases h
   ·rename_i len e' cs q e1 e2
    rw [e1] at hx
    split at h
    ·rename_i hk
     cases h
     rcases hx.rZ with ⟨h0,_⟩|⟨b,o,bk,ds,hz,he,h1,h2,h3,h4⟩
     ·omega
     ·refine .same hR (v':=P b (o+q.toNat*e)) (by simp only [aOp];rw [he,intOf_vr hi e2];simp only [if_pos hk]) (.z (.fp hz h4.1 (by omega) ?_ h4.2))
      rw [h3,h1]
    ·cases h
   ·cases h
  |some n=>
   simp only [aK] at h
   split at h
   ·rename_i b o q e1 e2
    rw [e1] at hx
    obtain ⟨b',hb,he⟩:=hx.ptr_inv
    split at h
    ·rename_i hk
     cases h
     exact .same hR (v':=P b' (o+q.toNat*e)) (by simp only [aOp];rw [he,intOf_vr hi e2];simp only [if_pos hk]) (.ptr hb)
    ·cases h
   ·rename_i o cs q e1 e2
    rw [e1] at hx
    split at h
    ·rename_i hk
     cases h
     obtain ⟨b',p,bk,ds,hz,he,h1,h2,h3⟩:=hx.zJ
     exact .same hR (v':=P b' (p+(o+q.toNat*e))) (by simp only [aOp];rw [he,intOf_vr hi e2];simp only [if_pos hk,Nat.add_assoc]) (.z (.fp hz h3.1 h1 h2 h3.2))
    ·cases h
   ·cases h
 |index len e n x i=>
  simp only [aK] at h
  have hx:=hr x
  have hi:=hr i
  split at h
  ·rename_i cs q e1 e2
   rw [e1] at hx
   obtain ⟨ds,he,hl⟩:=hx.agg_inv
   split at h
   ·rename_i hk
    obtain ⟨w,hw,hv⟩:=map_inj h
    cases hv
    obtain ⟨u,hu,hvu⟩:=zF hl hw
    exact .same hR (v':=u) (by simp only [aOp];rw [he,intOf_vr hi e2];simp only [if_pos hk,hu];rfl) hvu
   ·cases h
  ·cases h
 |indexStr x i=>
  simp only [aK] at h
  have hx:=hr x
  have hi:=hr i
  split at h
  ·rename_i s q e1 e2
   rw [e1] at hx
   split at h
   ·rename_i hk
    obtain ⟨w,hw,hv⟩:=map_inj h
    cases hv
    exact .same hR (by simp only [aOp];rw [hx.string,intOf_vr hi e2];simp only [if_pos hk,hw];rfl) (.z (.plain rfl))
   ·cases h
  ·cases h
 |extract x j=>
  simp only [aK] at h
  have hx:=hr x
  split at h
  ·rename_i vs e1
   rw [e1] at hx
   obtain ⟨ds,he,hl⟩:=hx.tuple_inv
   obtain ⟨w,hw,hv⟩:=map_inj h
   cases hv
   obtain ⟨u,hu,hvu⟩:=hl.at_ (i:=j) (by simpa using hw)
   refine .same hR (v':=u) (by simp only [aOp];rw [he];simp only [show ds[j]? =some u by simpa using hu];rfl) hvu
  ·cases h
 |len x=>
  simp only [aK] at h
  have hx:=hr x
  split at h
  ·rename_i a n e e1
   cases h
   rw [e1] at hx
   obtain ⟨a',he,hn⟩:=UN hx
   exact .same hR (by simp only [aOp];rw [he]) (.z (.plain rfl))
  ·rename_i n e cs e1
   cases h
   rw [e1] at hx
   obtain ⟨cs⟩:=cs
   rcases hx.rZ with ⟨h0,_,he⟩|⟨b,o,bk,ds,hz,he,_⟩
   ·subst h0;exact .same hR (by simp only [aOp];rw [he]) (.z (.plain rfl))
   ·exact .same hR (by simp only [aOp];rw [he]) (.z (.plain rfl))
  ·cases h
 |lenStr x=>
  simp only [aK] at h
  have hx:=hr x
  split at h
  ·rename_i s e1
   cases h
   rw [e1] at hx
   exact .same hR (by simp only [aOp];rw [hx.string]) (.z (.plain rfl))
  ·cases h
 |lenConst n=>simp only [aK,Option.some.injEq,Prod.mk.injEq] at h;obtain ⟨rfl,rfl⟩:=h;exact .same hR rfl (.z (.plain rfl))
 |append e bytes s x=>simp only [aK] at h;exact aeg hR (hr s) (hr x) h
 |max xs=>
  simp only [aK] at h
  obtain ⟨w,hw,hv⟩:=map_inj h
  cases hv
  obtain ⟨u,hu,hvu⟩:=UL (ρ:=ρ) (Z:=Z) (g:=max2) (by
   intro a b c hc
   cases a<;>cases b<;>simp only [max2] at hc<;>first|(cases hc;done)|skip
   split at hc
   ·cases hc;exact ⟨⟨_,_,rfl⟩,⟨_,_,rfl⟩,_,_,rfl⟩
   ·cases hc) _ (Nat.le_refl _) (ys:=xs.map r1) ⟨by simp,fun i c d h1 h2=>by
    rw [List.getElem?_map] at h1 h2
    obtain ⟨q,hq,rfl⟩:=map_inj h1
    rw [hq] at h2;cases h2
    exact hr q⟩ hw
  exact .same hR (v':=u) (by simp only [aOp,hu];rfl) hvu
 |min xs=>
  simp only [aK] at h
  obtain ⟨w,hw,hv⟩:=map_inj h
  cases hv
  obtain ⟨u,hu,hvu⟩:=UL (ρ:=ρ) (Z:=Z) (g:=min2) (by
   intro a b c hc
   cases a<;>cases b<;>simp only [min2] at hc<;>first|(cases hc;done)|skip
   split at hc
   ·cases hc;exact ⟨⟨_,_,rfl⟩,⟨_,_,rfl⟩,_,_,rfl⟩
   ·cases hc) _ (Nat.le_refl _) (ys:=xs.map r1) ⟨by simp,fun i c d h1 h2=>by
    rw [List.getElem?_map] at h1 h2
    obtain ⟨q,hq,rfl⟩:=map_inj h1
    rw [hq] at h2;cases h2
    exact hr q⟩ hw
  exact .same hR (v':=u) (by simp only [aOp,hu];rfl) hvu
 |nilCheck x=>
  simp only [aK] at h
  have hx:=hr x
  split at h
  ·rename_i b o e1
   cases h
   rw [e1] at hx
   obtain ⟨b',hb,he⟩:=hx.ptr_inv
   exact .same hR (v':=P b' o) (by simp only [aOp];rw [he]) (.ptr hb)
  ·rename_i o cs e1
   cases h
   rw [e1] at hx
   have hx':=hx
   obtain ⟨b',p,bk,ds,hz,he,h1,h2,h3⟩:=hx'.zJ
   exact .same hR (v':=r1 x) (by simp only [aOp];rw [he]) hx
  ·cases h
 |makeFunc f caps=>
  simp only [aK,Option.some.injEq,Prod.mk.injEq] at h
  obtain ⟨rfl,rfl⟩:=h
  refine .same hR rfl (.func (by simp) fun i c d h1 h2=>?_)
  rw [List.getElem?_map] at h1 h2
  obtain ⟨q,hq,rfl⟩:=map_inj h1
  rw [hq] at h2;cases h2
  exact hr q
 |strOf x=>
  simp only [aK] at h
  have hx:=hr x
  split at h
  ·rename_i b o n e1
   rw [e1] at hx
   obtain ⟨b',hb,he⟩:=hx.slice_inv
   split at h
   ·rename_i cs hc
    split at h
    ·rename_i hl
     obtain ⟨w,hw,hv⟩:=map_inj h
     cases hv
     obtain ⟨b2,bk,h1,h2,h3,h4,h5⟩:=hR.bH _ _ hc
     rw [hb] at h1;cases h1
     refine .same hR (by simp only [aOp];rw [he];simp only [AHeap.row,h3];rw [if_pos (by rw [←h5.1];exact hl)];simp only [Option.bind_some,UM ((h5.drop o).take n) hw];rfl) (.z (.plain rfl))
    ·cases h
   ·cases h
  ·rename_i e1
   cases h
   rw [e1] at hx
   obtain ⟨_,_,he⟩:=hx.nil_inv
   exact .same hR (by simp only [aOp];rw [he];rfl) (.z (.plain rfl))
  ·rename_i n cs e1
   rw [e1] at hx
   obtain ⟨w,hw,hv⟩:=map_inj h
   cases hv
   rcases hx.rZ with ⟨h0,hcs,he⟩|⟨b,o,bk,ds,hz,he,h1,h2,h3,h4⟩
   ·subst hcs
    simp only [bytesL,Option.some.injEq] at hw
    subst hw
    exact .same hR (by simp only [aOp];rw [he];rfl) (.z (.plain rfl))
   ·rw [Nat.mul_one] at h1 h2 h3
    refine .same hR (by simp only [aOp];rw [he];simp only [AHeap.row,(hR.fH _ _ hz).2];rw [if_pos h2];simp only [Option.bind_some];rw [←h3,UM (h4.vl (ρ:=ρ)) hw];rfl) (.z (.plain rfl))
  ·cases h
 |makeMap=>
  simp only [aK,Option.some.injEq,Prod.mk.injEq] at h
  obtain ⟨rfl,rfl⟩:=h
  obtain ⟨h1,f1⟩:=hR.alloc (cs:=[]) (ds:=[]) VL.nil
  obtain ⟨h2,f2⟩:=h1.alloc (cs:=[]) (ds:=[]) VL.nil
  refine ⟨.map (some HA.n),_,_,rfl, .map ?_ ?_,h2,f1.trans f2,fun i b hb=>zH h1 _ i b (zH hR _ i b hb),fun i hi=>?_⟩
  ·simp [put]
  ·simp [put,AHeap.alloc]
  ·simp only [put,List.length_append,List.length_singleton]
   rw [if_neg (by omega),if_neg (by omega)]
 |mapPut qs x k=>
  simp only [aK,wH] at h
  split at h
  ·rename_i i e1
   split at h
   ·rename_i ks h1 h2
    split at h
    ·rename_i hc
     cases h
     rw [Bool.and_eq_true] at hc
     have hx:=hr x
     rw [e1] at hx
     obtain ⟨b,hb,hb1,he⟩:=hx.BP
     obtain ⟨b',⟨c1,w1⟩,q1,q2,q3,q4,q5⟩:=hR.bH i _ h1
     rw [hb] at q1
     cases q1
     obtain ⟨b'',bk2,p1,p2,p3,p4,p5⟩:=hR.bH (i+1) _ h2
     rw [hb1] at p1
     cases p1
     have hk:=UQ hc.1 (hr k)
     have hks:=Fe hc.2 p5
     have hc1:c1=[]:=VL.jo q5
     have hw1:w1=true:=q4
     subst hc1;subst hw1
     obtain ⟨s1,s2⟩:=hR.set h2 hb1 (p5.append (VL.cons (hr k) VL.nil))
     refine ⟨undef,_,ρ,?_, .z (.plain rfl),s1,s2,fun _ _ h=>h,fun _ _=>rfl⟩
     simp only [aOp,aPut,he,q3,p3,hk,hks,hc.1,hc.2,Bool.and_true,if_true]
    ·cases h
   ·cases h
  ·cases h
 |kR z x=>
  simp only [aK,wI] at h
  split at h
  ·rename_i i o n e e1
   have hx:=hr x
   rw [e1] at hx
   obtain ⟨b,hb,he⟩:=hx.slice_inv
   split at h
   ·rename_i hn
    subst hn
    cases h
    exact .same hR (by simp only [aOp,sJ,he,if_true]) (.z (.plain rfl))
   ·rename_i hn
    split at h
    ·rename_i cs hc
     split at h
     ·rename_i hk
      obtain ⟨rfl,k2,k3,k4,k5⟩:=hk
      cases h
      obtain ⟨b',bk,q1,q2,q3,q4,q5⟩:=hR.bH i _ hc
      rw [hb] at q1
      cases q1
      have hvl:VL ρ Z (List.replicate n z) (List.replicate n z):=VL.plain (List.all_eq_true.2 fun v hv=>by rw [List.eq_of_mem_replicate hv];exact k3)
      obtain ⟨s1,s2⟩:=hR.set hc hb (Ip q5 hvl o)
      refine ⟨_,_,ρ,?_, .z (.plain rfl),s1,s2,fun _ _ h=>h,fun _ _=>rfl⟩
      simp only [aOp,sJ,he,if_neg hn,q3]
      rw [if_pos ⟨trivial,q4,by rw [←q5.1];exact k2,k3,k5⟩]
     ·cases h
    ·cases h
  ·cases h
 |lenMap qs x=>
  simp only [aK,wJ] at h
  split at h
  ·rename_i i e1
   split at h
   ·rename_i ks h1 h2
    split at h
    ·rename_i hc
     cases h
     have hx:=hr x
     rw [e1] at hx
     obtain ⟨b,hb,hb1,he⟩:=hx.BP
     obtain ⟨b',⟨c1,w1⟩,q1,q2,q3,q4,q5⟩:=hR.bH i _ h1
     rw [hb] at q1
     cases q1
     obtain ⟨b'',bk2,p1,p2,p3,p4,p5⟩:=hR.bH (i+1) _ h2
     rw [hb1] at p1
     cases p1
     have hks:=Fe hc p5
     have hc1:c1=[]:=VL.jo q5
     have hw1:w1=true:=q4
     subst hc1;subst hw1
     exact .same hR (by simp only [aOp,aLen,he,q3,p3,hks,hc,if_true]) (.z (.plain rfl))
    ·cases h
   ·cases h
  ·cases h
 |call g as=>simp [aK] at h
 |callv g as=>simp [aK] at h
 |callF g as fl=>simp [aK] at h
theorem UR (hR:Rel ρ Z H HA) {a x a' x':Value} (ha:VR ρ Z a a') (hx:VR ρ Z x x') (hl: ∀b o,a= .pointer (some ⟨b,o,none⟩)→(blk H b).isSome=true) (h:lg H a x=true):flok a' x'=true:=by
 unfold lg at h
 split at h
 ·rename_i i o
  obtain ⟨b,hb,rfl⟩:=ha.ptr_inv
  obtain ⟨ci,hci⟩:=Option.isSome_iff_exists.1 (hl i o rfl)
  simp only [flok,blkOf]
  split at h
  ·rename_i j o2
   obtain ⟨b2,hb2,rfl⟩:=hx.ptr_inv
   simp only [Bool.and_eq_true] at h
   obtain ⟨cj,hcj⟩:=Option.isSome_iff_exists.1 h.2
   simp only [blkOf,Bool.not_eq_true',beq_eq_false_iff_ne,ne_eq,Option.some.injEq]
   intro e
   subst e
   have:=hR.inj j i _ _ _ hcj hci hb2 hb
   simp [this] at h
  ·rename_i j o2 l e2
   obtain ⟨b2,hb2,rfl⟩:=hx.slice_inv
   simp only [Bool.and_eq_true] at h
   obtain ⟨cj,hcj⟩:=Option.isSome_iff_exists.1 h.2
   simp only [blkOf,Bool.not_eq_true',beq_eq_false_iff_ne,ne_eq,Option.some.injEq]
   intro e
   subst e
   have:=hR.inj j i _ _ _ hcj hci hb2 hb
   simp [this] at h
  ·obtain ⟨_,_,rfl⟩:=hx.nil_inv
   rfl
  ·rw [hx.int];rfl
  ·rw [hx.bool];rfl
  ·rw [hx.string];rfl
  ·rename_i cs
   obtain ⟨cs⟩:=cs
   obtain ⟨ds,rfl,_⟩:=hx.agg_inv
   rfl
  ·rename_i cs
   obtain ⟨cs⟩:=cs
   obtain ⟨ds,rfl,_⟩:=hx.tuple_inv
   rfl
  ·rename_i cs
   obtain ⟨cs⟩:=cs
   obtain ⟨b2,p,bk,ds,hz,rfl,_⟩:=hx.zJ
   simp only [blkOf,Bool.not_eq_true',beq_eq_false_iff_ne,ne_eq,Option.some.injEq]
   intro e
   subst e
   rw [hR.eF i _ _ hci hb] at hz
   cases hz
  ·rename_i cs
   obtain ⟨cs⟩:=cs
   rcases hx.rZ with ⟨_,_,rfl⟩|⟨b2,o2,bk,ds,hz,rfl,_⟩
   ·rfl
   ·simp only [blkOf,Bool.not_eq_true',beq_eq_false_iff_ne,ne_eq,Option.some.injEq]
    intro e
    subst e
    rw [hR.eF i _ _ hci hb] at hz
    cases hz
  ·cases h
 ·cases h
theorem adZ (hR:Rel ρ Z H HA) (hr: ∀x,VR ρ Z (r2 x) (r1 x)) {o:AOp} (h:aK o r2 H=some (v,H')):OpOK ρ Z H HA (aOp o r1 HA) v H':=by
 by_cases hno: ∃n a x fl,o= .storeF n a x fl
 ·obtain ⟨n,a,x,fl,rfl⟩:=hno
  simp only [aK] at h
  split at h
  ·rename_i hfl
   have hst:aK (.store n a x) r2 H=some (v,H'):=h
   have hlive: ∀b o,r2 a= .pointer (some ⟨b,o,none⟩)→(blk H b).isSome=true:=by
    intro b o e
    rw [e] at h
    simp only [Ih] at h
    split at h
    ·rename_i cs hc;rw [hc];rfl
    ·cases h
   have:=Ir hR hr (by simp) (by simp) hst
   have hok:(fl.all fun x=>flok (r1 a) (r1 x))=true:=List.all_eq_true.2 fun y hy=>UR hR (hr a) (hr y) hlive (List.all_eq_true.1 hfl y hy)
   have e:aOp (.storeF n a x fl) r1 HA=aOp (.store n a x) r1 HA:=by
    simp only [aOp,if_pos hok]
    rfl
   rw [e]
   exact this
  ·cases h
 ·by_cases DK: ∃e b s x fl,o= .appendF e b s x fl
  ·obtain ⟨e,bytes,s,x,fl,rfl⟩:=DK
   simp only [aK] at h
   split at h
   ·rename_i hfl
    have hap:aK (.append e bytes s x) r2 H=some (v,H'):=h
    have:=Ir hR hr (by simp) (by simp) hap
    have hok:(fl.all fun y=>flokS (r1 s) (r1 y))=true:=List.all_eq_true.2 fun y hy=>by
     have hf:=List.all_eq_true.1 hfl y hy
     have hs:=hr s
     simp only [uh] at hf
     split at hf
     ·rename_i i o l e' hse
      have hlive:(blk H i).isSome=true:=by
       simp only [eH] at h
       rw [hse] at h
       split at h
       ·cases h
       ·split at h
        ·rename_i he;cases he
        ·rename_i he
         cases he
         split at h
         ·split at h
          ·rename_i cs hc;rw [hc];rfl
          ·cases h
         ·cases h
        ·cases h
      rw [hse] at hs
      obtain ⟨b,hb,hs1⟩:=hs.slice_inv
      have hk:=UR hR (.ptr (o:=0) hb) (hr y) (fun b' o' e0=>by cases e0;exact hlive) hf
      rw [hs1]
      exact hk
     ·rename_i hse
      rw [hse] at hs
      obtain ⟨_,_,hs1⟩:=hs.nil_inv
      rw [hs1]
      rfl
     ·cases hf
    have e:aOp (.appendF e bytes s x fl) r1 HA=aOp (.append e bytes s x) r1 HA:=by
     simp only [aOp,if_pos hok]
    rw [e]
    exact this
   ·cases h
  ·exact Ir hR hr (fun n a x fl e=>hno ⟨n,a,x,fl,e⟩) (fun e b s x fl he=>DK ⟨e,b,s,x,fl,he⟩) h
end
end Go.Bm
