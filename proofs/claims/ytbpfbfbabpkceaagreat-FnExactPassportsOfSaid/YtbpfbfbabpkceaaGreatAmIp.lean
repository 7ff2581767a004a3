/- inOrder: its code walked in the model; by hand where it ranges over the map, by this machine where it appends. -/
import Derived.Test.YtbpfbfbabpkceaaGreatAmIn
import Derived.Test.YtbpfbfbabpkceaaGreatAmIo
set_option linter.unusedVariables false
set_option linter.unusedSimpArgs false
set_option linter.unusedSectionVars false
namespace Go.Am
open Go Go.Proofs
open Go.ChangeMaps (setBlock)
theorem wanted_none {o:Oper} {y:Nat→Option Bool} (hg:o.guard=none):Region.wanted o y=true:=by
 unfold Region.wanted;rw [hg]
theorem wpOps_run {P:Program} {all:Array Oper} {Q:Exit→Act→World→Prop} {j:Nat} {js:List Nat} {o:Oper} {a:Act} {w w':World} {v:Value} (hj:all[j]? =some o) (hg:o.guard=none) (hex:(execOp a.eval o).run P w= .ok (.value v) w')
  (h:wpOps P all Q js (a.put o.dst v) w'):wpOps P all Q (j::js) a w:=by
 simp only [wpOps,hj,wanted_none hg,if_true]
 refine Or.inl ?_
 unfold Oper.wp
 rw [hex]
 exact h
theorem wpOps_call {P:Program} {all:Array Oper} {Q:Exit→Act→World→Prop} {j:Nat} {js:List Nat} {o:Oper} {a:Act} {w:World} {q:FuncId} {args:Array Value} (hj:all[j]? =some o) (hg:o.guard=none) (hex:(execOp a.eval o).run P w= .ok (.enter q args) w)
  (h:Calls P q args w fun e w'=> ∃v,e= .returned v∧wpOps P all Q js (a.put o.dst v) w'):wpOps P all Q (j::js) a w:=by
 simp only [wpOps,hj,wanted_none hg,if_true]
 refine Or.inl ?_
 unfold Oper.wp
 rw [hex]
 exact h.mono fun e w' ⟨v,he,hk⟩=>by subst he;exact hk
theorem chain_op {Pr:Program} {μ φ:Fun} {o:AOper} {rest:List AOper} {f f':Fr} {H H1 H':AHeap} {v:Value} (hw:wantedA o.guard f=true) (hc:callA o.op=false) (ha:aOp o.op (ev f) H=some (v,H1)) (h:SChain Pr μ φ none rest (updO f o.dst v) H1 f' H'):SChain Pr μ φ none (o::rest) f H f' H':=
 .cons ⟨sim_op hw ha,⟨fun _ _=>⟨v,ha,rfl⟩,(fun (h0:wantedA o.guard f=false)=>by rw [hw] at h0;cases h0),fun g args fl ho=>by rw [ho] at hc;cases hc⟩⟩ (fun m h=>by cases h) h
section
variable {φ:Fun} {β:Ren} {H:AHeap} {w:World}
theorem Good.name (h:Rel φ β H w) (hn:β H.n=none) (o:Obj):Good φ β H w (Ren.put β H.n ⟨w.heap.size,0,0⟩) ⟨H.n+1,H.get⟩ (w.alloc o):=by
 have hext: ∀b L,β b=some L→Ren.put β H.n ⟨w.heap.size,0,0⟩ b=some L:=fun b L hb=>by
  unfold Ren.put
  split
  ·rename_i e;subst e;rw [hn] at hb;cases hb
  ·exact hb
 have key: ∀b blk L,H.get b=some blk→Ren.put β H.n ⟨w.heap.size,0,0⟩ b=some L→β b=some L:=fun b blk L hb hL=>by
  unfold Ren.put at hL
  split at hL
  ·rename_i e
   rw [e,h.fin H.n (Nat.le_refl _)] at hb
   cases hb
  ·exact hL
 refine ⟨⟨fun b blk L hb hL hle=>?_,fun b b' blk blk' L L' hb hr hb' hL hL' he=>h.inj b b' blk blk' L L' hb hr hb' (key _ _ _ hb hL) (key _ _ _ hb' hL') he,fun b hb=>h.fin b (Nat.le_of_succ_le hb),?_,h.mapn_put (Nat.zero_le _)⟩,
  ⟨rfl,rfl,⟨rfl,Nat.le_refl _⟩,by simp,fun r hr _=>heap_push_old w _ r hr,fun b blk L hb hr hL=> .inr ⟨b,blk,L,hb,hr,key _ _ _ hb hL,rfl⟩,hext,fun b L hb=>?_,Nat.le_succ _,fun b L hb h0=>?_⟩⟩
 ·obtain ⟨c,t,fr,h1,h2,h3,h4,h5⟩:=h.cells b blk L hb (key _ _ _ hb hL) hle
  refine ⟨c,t,fr,by rw [heap_push_old w _ _ (h.lt hb (key _ _ _ hb hL))];exact h1,h2,h3,h4,fun i v hi=>?_⟩
  obtain ⟨u,hu,hr⟩:=h5 i v hi
  exact ⟨u,hu,hr.mono hext⟩
 ·intro b L blk hL hlt hb
  obtain ⟨k1,k2,es,ck,k3,k4⟩:=h.maps b L blk (key _ _ _ hb hL) hlt hb
  refine ⟨k1,Nat.lt_succ_of_lt k2,es,ck,by rw [heap_push_old w _ _ (Array.getElem?_eq_some_iff.1 k3).1];exact k3,fun gh hg h0=>k4 gh hg ?_⟩
  unfold Ren.put at h0
  rwa [if_neg (by omega)] at h0
 ·unfold Ren.put at hb
  split at hb
  ·rename_i e;exact .inr ⟨by omega,by show b<H.n+1;omega⟩
  ·exact .inl hb
 ·unfold Ren.put at hb
  split at hb
  ·cases hb;exact .inl (Nat.le_refl _)
  ·rw [h0] at hb;cases hb
end
theorem get_alloc {H:AHeap} {cs:List Value} {b:Nat}:(H.alloc cs).get b=if b=H.n then some ⟨cs,true⟩ else H.get b:=rfl
theorem get_set {H:AHeap} {cs:List Value} {x b:Nat}:(H.set x cs).get b=if b=x then some ⟨cs,true⟩ else H.get b:=rfl
theorem get_kill {H:AHeap} {x b:Nat}:(H.kill x).get b=if b=x then none else H.get b:=rfl
section
variable {α:Type} {enc:α→List Value}
def KV (enc:α→List Value) (x:α):Value:= .agg ⟨enc x⟩
theorem list_inj {γ δ:Type} {f:γ→δ}: ∀{l:List γ},(l.map f).Nodup→ ∀{x y:γ},x∈l→y∈l→f x=f y→x=y
 |[],_,_,_,hx,_,_=>by cases hx
 |a::l,h,x,y,hx,hy,he=>by
  rw [List.map_cons,List.nodup_cons] at h
  rcases List.mem_cons.1 hx with rfl|hx'<;>rcases List.mem_cons.1 hy with rfl|hy'
  ·rfl
  ·exact absurd (List.mem_map.2 ⟨y,hy',he.symm⟩) h.1
  ·exact absurd (List.mem_map.2 ⟨x,hx',he⟩) h.1
  ·exact list_inj h.2 hx' hy' he
theorem entry_key {es:Array MapEntry} (h:(es.toList.map (·.key)).Nodup) {x y:MapEntry} (hx:x∈es.toList) (hy:y∈es.toList) (he:x.key=y.key):x=y:=list_inj h hx hy he
theorem entry_born {es:Array MapEntry} (h:(es.toList.map (·.born)).Nodup) {x y:MapEntry} (hx:x∈es.toList) (hy:y∈es.toList) (he:x.born=y.born):x=y:=list_inj h hx hy he
structure LH (φ:Fun) (enc:α→List Value) (gm ck r:Nat) (es:Array MapEntry) (w0:World) (seen:Array Nat) (ds:List α) (β:Ren) (H:AHeap) (w:World) (f:Fr) (a:Act):Prop where
 good:Good φ (βM gm) HM w0 β H w
 fr:FRel φ β 19 f a
 rw: ∀b blk,H.get b=some blk→blk.rw=true
 hr0:w0.heap.size≤r
 it:a.tmps.getD 7 undef= .pointer (some ⟨r,0,none⟩)
 it7: ∃nI,f 7= .pointer (some ⟨nI,0,none⟩)∧β nI=some ⟨r,0,0⟩∧nI<H.n∧H.get nI=none
 out: ∃b g N cap,f 3=S b 0 ds.length 33∧H.get b=some ⟨ds.flatMap enc,true⟩∧β b=some ⟨g,0,N⟩∧a.tmps.getD 3 undef= .slice (some ⟨g,0,none⟩) ds.length cap∧ds.length≤cap∧cap*33≤N
 hr:w.heap[r]? =some (.mapIter (some gm) ck seen ck)
 sep: ∀b blk L,H.get b=some blk→β b=some L→L.g≠r
 de:a.defers=[]
 nd:(ds.map (KV enc)).Nodup
 mem: ∀k,k∈ds.map (KV enc)↔ ∃e∈es.toList,seen.contains e.born=true∧e.key=k
variable {φ:Fun} {gm ck r:Nat} {es:Array MapEntry} {w0:World} {seen:Array Nat} {ds:List α} {β:Ren} {H:AHeap} {w:World} {f:Fr} {a:Act}
theorem LH.map (h:LH φ enc gm ck r es w0 seen ds β H w f a) (hb:w0.heap[gm]? =some (.map es ck)):w.heap[gm]? =some (.map es ck):=by
 rw [h.good.2.frame gm (Array.getElem?_eq_some_iff.1 hb).1 (fun b blk L hg=>by cases hg)]
 exact hb
theorem LH.free (h:LH φ enc gm ck r es w0 seen ds β H w f a) {b:Nat} (hb:H.n≤b):β b=none:=by
 cases hq:β b with
 |none=>rfl
 |some L=>
  have hn:2≤H.n:=h.good.2.n
  rcases h.good.2.new b L hq with q|q
  ·unfold βM at q
   split at q
   ·omega
   ·cases q
  ·omega
theorem vr_ints {cs:List Value} (h: ∀c∈cs,plain c=true):VR φ β (.agg ⟨cs⟩) (.agg ⟨cs⟩):= .agg rfl fun i c d h1 h2=>by
 rw [h1] at h2;cases h2;exact .plain (h c (List.mem_of_getElem? h1))
end
theorem put_same {a:Act} {d:Nat} {v:Value} (h:d<a.tmps.size):(a.put (some d) v).tmps.getD d undef=v:=by rw [put_getD a d v h,if_pos rfl]
theorem put_ne {a:Act} {d t:Nat} {v:Value} (h:d<a.tmps.size) (hne:t≠d):(a.put (some d) v).tmps.getD t undef=a.tmps.getD t undef:=by rw [put_getD a d v h,if_neg hne]
theorem splice_all {z s:List Value} (h:s.length=z.length):splice z 0 s=s:=by
 unfold splice
 rw [List.take_zero,Nat.zero_add,List.drop_eq_nil_of_le (by omega)]
 simp
section
variable {α:Type} {enc:α→List Value} {Pr:Program} {μ φ:Fun} {gm ck:Nat} {es:Array MapEntry} {w0:World}
variable {A3 B3 A4 B4 C4 D4:Oper} {R5:Array Oper} {i3 i4 i5:Nat} {z:List Value} {byt:Nat}
theorem LH.round (hlen: ∀x,(enc x).length=33) (hpl: ∀x,∀c∈enc x,plain c=true) (hone: ∀x,∀c∈enc x,c.oneCell'=true) (hzl:z.length=33) (hby:byt≤100)
  (hb:w0.heap[gm]? =some (.map es ck)) (hst:MapKept.Stamped es ck) (hdec: ∀e∈es.toList,e.val= .bool true∧ ∃x:α,e.key=KV enc x) (hsz:es.size≤1000000)
  (hA3:A3.op= .next (.tmp 7) false∧A3.dst=some 8∧A3.guard=none) (hB3:B3.op= .extract (.tmp 8) 0∧B3.dst=some 9∧B3.guard=none)
  (hA4:A4.op= .entry (.tmp 7)∧A4.dst=some 10∧A4.guard=none)
  (h4:optL (trOper Pr μ φ 19 #[A4,B4,C4,D4]) [B4,C4,D4]=some [⟨some 11, .extract (.t 10) 0,none⟩,⟨some 4, .alloc z,none⟩,⟨none, .store 33 (.t 4) (.t 11),none⟩])
  (h5:optL (trOper Pr μ φ 19 R5) R5.toList=some [oM 12 3,⟨some 13, .load (some 33) (.t 4),none⟩,⟨some 14, .buildSlice 33 1 z [(0,33, .t 13)],none⟩,⟨some 15, .append 33 byt (.t 12) (.t 14),none⟩,oM 3 15])
  {r:Nat} {seen:Array Nat} {ds:List α} {β:Ren} {H:AHeap} {w:World} {f:Fr} {a:Act} (h:LH φ enc gm ck r es w0 seen ds β H w f a) {Q:Exit→Act→World→Prop}
  (hend:(leftOf es seen).size=0→ ∀f' a',LH φ enc gm ck r es w0 seen ds β H w f' a'→Q (.exit 0) a' w)
  (hnext: ∀e∈(leftOf es seen).toList,∀x:α,e.key=KV enc x→ ∀β' H' w' f' a',LH φ enc gm ck r es w0 (seen.push e.born) (ds++[x]) β' H' w' f' a'→Q .normal a' w'):
  (Code.seq (.region i3 #[A3,B3] false) (.seq (.cond (.tmp 9) .skip (.exit 0)) (.block 1 (.seq (.region i4 #[A4,B4,C4,D4] false) (.region i5 R5 false))))).wp Pr Q a w:=by
 obtain ⟨a1,a2,a3⟩:=hA3
 obtain ⟨b1,b2,b3⟩:=hB3
 obtain ⟨c1,c2,c3⟩:=hA4
 have hmap:=h.map hb
 have hs19:=h.fr.size
 have s8:8<a.tmps.size:=by omega
 refine wp_seq (wp_region ?_)
 show wpOps Pr #[A3,B3] _ [0,1] a w
 have hex3: ∀{v:Value} {w':World},(Instr.next (.pointer (some ⟨r,0,none⟩)) false A3.type).run Pr w= .ok v w'→(execOp a.eval A3).run Pr w= .ok (.value v) w':=fun {v w'} hv=>by
  obtain ⟨dst,op,ty,pos,after,guard⟩:=A3
  simp only at a1
  subst a1
  have e7:a.eval (.tmp 7)= .pointer (some ⟨r,0,none⟩):=h.it
  simp only [execOp,e7,Sem.run_bind,hv,Result.andThen_ok,Sem.run_pure]
 have hexB: ∀{v:Value} {vs:List Value} {a':Act} {w':World},a'.tmps.getD 8 undef= .tuple ⟨v::vs⟩→(execOp a'.eval B3).run Pr w'= .ok (.value v) w':=fun {v vs a' w'} hv=>by
  obtain ⟨dst,op,ty,pos,after,guard⟩:=B3
  simp only at b1
  subst b1
  have e8:a'.eval (.tmp 8)= .tuple ⟨v::vs⟩:=hv
  simp [execOp,e8,Instr.extract]
 rcases run_next_at (P:=Pr) w A3.type r gm ck ck seen es ck h.hr hmap (fun x hx=>hst.1 x hx) (Nat.le_refl _) with ⟨h0,hrun⟩|⟨e,he,w1,hal,hrun⟩
 ·
  refine wpOps_run (o:=A3) rfl a3 (hex3 hrun) ?_
  rw [a2]
  refine wpOps_run (o:=B3) (v:= .bool false) rfl b3 (hexB (vs:=[]) (put_same s8)) ?_
  rw [b2]
  have hf1:=(h.fr.put (d:=some 8) (fun x hx=>by cases hx;omega) (v:= .tuple ⟨[.bool false]⟩) (v':= .tuple ⟨[.bool false]⟩) (.tuple rfl fun i c d h1 h2=>by rw [h1] at h2;cases h2;exact .plain (by
   cases i with
   |zero=>cases h1;rfl
   |succ i=>simp at h1))).put (d:=some 9) (fun x hx=>by cases hx;omega) (v:= .bool false) (v':= .bool false) (.plain rfl)
  have z8:8<(a.put (some 8) (.tuple #[.bool false])).tmps.size:=by simp [Act.put];omega
  have z9:9<(a.put (some 8) (.tuple #[.bool false])).tmps.size:=by simp [Act.put];omega
  show Code.wp _ _ _ _ _
  refine wp_seq (wp_cond_false (put_same z9) (wp_exit ?_))
  refine hend h0 _ _ ⟨h.good,hf1,h.rw,h.hr0,?_,?_,?_,h.hr,h.sep,by rw [put_def,put_def];exact h.de,h.nd,h.mem⟩
  ·rw [put_ne z9 (by omega),put_ne s8 (by omega)];exact h.it
  ·obtain ⟨nI,q1,q2⟩:=h.it7
   exact ⟨nI,by simpa [updO,upd] using q1,q2⟩
  ·obtain ⟨b,g,N,cap,q1,q2,q3,q4,q5⟩:=h.out
   exact ⟨b,g,N,cap,by simpa [updO,upd] using q1,q2,q3,by rw [put_ne z9 (by omega),put_ne s8 (by omega)];exact q4,q5⟩
 ·
  obtain ⟨hem,hes⟩:=mem_left he
  obtain ⟨hval,x,hkey⟩:=hdec e hem
  refine wpOps_run (o:=A3) rfl a3 (hex3 hrun) ?_
  rw [a2]
  refine wpOps_run (o:=B3) (v:= .bool true) rfl b3 (hexB (vs:=[e.key,e.val]) (put_same s8)) ?_
  rw [b2]
  generalize hw2:setBlock w1 r (.mapIter (some gm) ck (seen.push e.born) ck)=w2
  have hw1r:w1.heap=w.heap∧w1.os=w.os∧w1.tape=w.tape∧w1.output=w.output∧w.drawn≤w1.drawn:=by
   rcases hal with rfl|rfl
   ·exact ⟨rfl,rfl,rfl,rfl,Nat.le_refl _⟩
   ·exact ⟨rfl,rfl,rfl,rfl,Nat.le_succ _⟩
  have hr1:w1.heap[r]? =some (.mapIter (some gm) ck seen ck):=by rw [hw1r.1];exact h.hr
  have hrlt:r<w.heap.size:=(Array.getElem?_eq_some_iff.1 h.hr).1
  have hother: ∀y,y≠r→w2.heap[y]? =w.heap[y]? :=fun y hy=>by
   rw [←hw2,←hw1r.1]
   show (w1.heap.setIfInBounds r _)[y]? =_
   exact Array.getElem?_setIfInBounds_ne (Ne.symm hy)
  have hw2r:w2.heap[r]? =some (.mapIter (some gm) ck (seen.push e.born) ck):=by
   rw [←hw2]
   show (w1.heap.setIfInBounds r _)[r]? =_
   rw [Array.getElem?_setIfInBounds_self_of_lt (by rw [hw1r.1];exact hrlt)]
  have hw2s:w2.heap.size=w.heap.size:=by
   rw [←hw2,←hw1r.1]
   show (w1.heap.setIfInBounds r _).size=_
   simp
  have hgood2:Good φ (βM gm) HM w0 β H w2:=⟨h.good.1.aside h.sep hother,h.good.2.aside h.hr0 hother hw2s (by rw [←hw2];exact hw1r.2.1) (by rw [←hw2];exact hw1r.2.2.1) (by rw [←hw2];exact hw1r.2.2.2)⟩
  have hmap2:w2.heap[gm]? =some (.map es ck):=by
   rw [hother gm (fun e1=>by rw [e1,h.hr] at hmap;cases hmap)]
   exact hmap
  have vkey:VR φ β e.key e.key:=by rw [hkey];exact vr_ints (hpl x)
  have vval:VR φ β e.val e.val:=by rw [hval];exact .plain rfl
  have vt2:VR φ β (.tuple ⟨[e.key,e.val]⟩) (.tuple ⟨[e.key,e.val]⟩):= .tuple rfl fun i c d h1 h2=>by
   rw [h1] at h2;cases h2
   match i,h1 with
   |0,h1=>cases h1;exact vkey
   |1,h1=>cases h1;exact vval
   |i+2,h1=>simp at h1
  have vt3:VR φ β (.tuple ⟨[.bool true,e.key,e.val]⟩) (.tuple ⟨[.bool true,e.key,e.val]⟩):= .tuple rfl fun i c d h1 h2=>by
   rw [h1] at h2;cases h2
   match i,h1 with
   |0,h1=>cases h1;exact .plain rfl
   |1,h1=>cases h1;exact vkey
   |2,h1=>cases h1;exact vval
   |i+3,h1=>simp at h1
  have hf1:=(h.fr.put (d:=some 8) (fun x hx=>by cases hx;omega) vt3).put (d:=some 9) (fun x hx=>by cases hx;omega) (v:= .bool true) (v':= .bool true) (.plain rfl)
  have z9:9<(a.put (some 8) (.tuple #[.bool true,e.key,e.val])).tmps.size:=by simp [Act.put];omega
  generalize ha2:(a.put (some 8) (.tuple #[.bool true,e.key,e.val])).put (some 9) (.bool true)=a2' at*
  have ha2f: ∀t,t≠8→t≠9→a2'.tmps.getD t undef=a.tmps.getD t undef:=fun t h8 h9=>by
   rw [←ha2,put_ne z9 h9,put_ne s8 h8]
  have ha9:a2'.tmps.getD 9 undef= .bool true:=by rw [←ha2,put_same z9]
  have had:a2'.defers=[]:=by rw [←ha2,put_def,put_def];exact h.de
  have hs2:=hf1.size
  show Code.wp _ _ _ _ _
  refine wp_seq (wp_cond_true ha9 (wp_skip ?_))
  show Code.wp _ _ _ _ _
  refine wp_block (wp_seq (wp_region ?_))
  show wpOps Pr #[A4,B4,C4,D4] _ [0,1,2,3] a2' w2
  have s10:10<a2'.tmps.size:=by omega
  have hex4:(execOp a2'.eval A4).run Pr w2= .ok (.value (.tuple #[e.key,e.val])) w2:=by
   obtain ⟨dst,op,ty,pos,after,guard⟩:=A4
   simp only at c1
   subst c1
   have e7:a2'.eval (.tmp 7)= .pointer (some ⟨r,0,none⟩):=by
    show a2'.tmps.getD 7 undef=_
    rw [ha2f 7 (by omega) (by omega)];exact h.it
   simp only [execOp,e7,Sem.run_bind,run_entry_at w2 r gm ck seen es ck e hw2r hmap2 hem hst.2.1,Result.andThen_ok,Sem.run_pure]
  refine wpOps_run (o:=A4) rfl c3 hex4 ?_
  rw [c2]
  have hf2:=hf1.put (d:=some 10) (fun x hx=>by cases hx;omega) vt2
  have ha3f: ∀t,t≠10→(a2'.put (some 10) (.tuple #[e.key,e.val])).tmps.getD t undef=a2'.tmps.getD t undef:=fun t ht=>put_ne s10 ht
  generalize ha3:a2'.put (some 10) (.tuple #[e.key,e.val])=a3' at*
  have had3:a3'.defers=[]:=by rw [←ha3,put_def];exact had
  obtain ⟨nI,t1,t2,t3,t4⟩:=h.it7
  obtain ⟨b,g,N,cap,q1,q2,q3,q4,q5,q6⟩:=h.out
  have hbn:b<H.n:=by
   rcases Nat.lt_or_ge b H.n with q|q
   ·exact q
   ·rw [h.good.1.fin b q] at q2;cases q2
  have hkl:(cellsL e.key).length=33:=by rw [hkey];exact hlen x
  have hko:(cellsL e.key).all (·.oneCell')=true:=by rw [hkey];exact List.all_eq_true.2 (hone x)
  have hkc:cellsL e.key=enc x:=by rw [hkey];rfl
  generalize hfe:updO (updO (updO f (some 8) (.tuple ⟨[.bool true,e.key,e.val]⟩)) (some 9) (.bool true)) (some 10) (.tuple ⟨[e.key,e.val]⟩)=f1 at*
  have f1_10:f1 10= .tuple ⟨[e.key,e.val]⟩:=by rw [←hfe];simp [updO,upd]
  have f1_o: ∀t,t≠8→t≠9→t≠10→f1 t=f t:=fun t h8 h9 h10=>by rw [←hfe];simp [updO,upd,h8,h9,h10]
  have ch4:SChain Pr μ φ none [⟨some 11, .extract (.t 10) 0,none⟩,⟨some 4, .alloc z,none⟩,⟨none, .store 33 (.t 4) (.t 11),none⟩] f1 H (upd (upd f1 11 e.key) 4 (P H.n 0)) ((H.alloc z).set H.n (enc x)):=by
   refine chain_op rfl rfl (v:=e.key) (H1:=H) ?_ ?_
   ·simp only [aOp,ev,f1_10];rfl
   refine chain_op rfl rfl (v:=P H.n 0) (H1:=H.alloc z) rfl ?_
   refine chain_op rfl rfl (v:=undef) (H1:=(H.alloc z).set H.n (enc x)) ?_ .nil
   simp only [aOp,ev,updO,upd]
   simp only [if_true,show (11:Nat)≠4 by omega,if_false,get_alloc,hkl,hko,hkc,hzl,Nat.zero_add,Nat.le_refl,and_self,hlen,List.all_eq_true.2 (hone x)]
   rw [splice_all (by rw [hlen,hzl])]
  have hm4:Matched Pr μ φ 19 #[A4,B4,C4,D4] [1,2,3] [⟨some 11, .extract (.t 10) 0,none⟩,⟨some 4, .alloc z,none⟩,⟨none, .store 33 (.t 4) (.t 11),none⟩]:=
   matched_of [B4,C4,D4] 1 _ h4 fun i o hi=>by
    match i,hi with
    |0,hi=>simpa using hi
    |1,hi=>simpa using hi
    |2,hi=>simpa using hi
    |i+3,hi=>simp at hi
  have hfree: ∀{n:Nat} b,H.n≤b→b<n→β b=none:=fun b hb _=>h.free hb
  refine seq_ops ch4 _ hm4 β a3' w2 hgood2.1 hf2 hfree had3 _ fun β4 a4 w4 hg4 hf4 hd4=>?_
  show Code.wp _ _ _ _ _
  refine wp_region ?_
  have hall: ∀c∈enc x,c.oneCell'=true:=hone x
  have hz1:repl z 1=z:=by simp [repl]
  generalize hf2e:upd (upd f1 11 e.key) 4 (P H.n 0)=f2 at*
  have f2_3:f2 3=S b 0 ds.length 33:=by rw [←hf2e];simp only [upd];rw [if_neg (by omega),if_neg (by omega),f1_o 3 (by omega) (by omega) (by omega),q1]
  have f2_4:f2 4=P H.n 0:=by rw [←hf2e];simp [upd]
  have f2_7:f2 7= .pointer (some ⟨nI,0,none⟩):=by rw [←hf2e];simp only [upd];rw [if_neg (by omega),if_neg (by omega),f1_o 7 (by omega) (by omega) (by omega),t1]
  have hdl:ds.length≤1000000:=by
   have q:ds.length≤es.size:=by
    simpa using nodup_le h.nd (k:=es.toList.map (·.key)) fun k hk=>by
     obtain ⟨e',he',_,hk'⟩:=(h.mem k).1 hk
     exact List.mem_map.2 ⟨e',he',hk'⟩
   omega
  have hfl:=E5 hlen ds
  have htk:(ds.flatMap enc).take (ds.length*33)=ds.flatMap enc:=List.take_of_length_le (by omega)
  have ch5:SChain Pr μ φ none [oM 12 3,⟨some 13, .load (some 33) (.t 4),none⟩,⟨some 14, .buildSlice 33 1 z [(0,33, .t 13)],none⟩,⟨some 15, .append 33 byt (.t 12) (.t 14),none⟩,oM 3 15] f2 ((H.alloc z).set H.n (enc x))
    (upd (upd (upd (upd (upd f2 12 (S b 0 ds.length 33)) 13 (aggL (enc x))) 14 (S (H.n+1) 0 1 33)) 15 (S (H.n+2) 0 (ds.length+1) 33)) 3 (S (H.n+2) 0 (ds.length+1) 33))
    (((((H.alloc z).set H.n (enc x)).alloc (enc x)).kill b).alloc (ds.flatMap enc++enc x)):=by
   refine chain_op rfl rfl (v:=S b 0 ds.length 33) (H1:=(H.alloc z).set H.n (enc x)) ?_ ?_
   ·simp only [aOp,ev,f2_3]
   refine chain_op rfl rfl (v:=aggL (enc x)) (H1:=(H.alloc z).set H.n (enc x)) ?_ ?_
   ·simp only [aOp,ev,updO,upd,show (4:Nat)≠12 by omega,if_false,f2_4,get_set,if_true,getN,hlen,Nat.zero_add,Nat.le_refl,List.drop_zero,Option.map_some]
    rw [List.take_of_length_le (by rw [hlen];omega)]
   refine chain_op rfl rfl (v:=S (H.n+1) 0 1 33) (H1:=((H.alloc z).set H.n (enc x)).alloc (enc x)) ?_ ?_
   ·simp only [aOp,ev,updO,upd,if_true,List.map_cons,List.map_nil,fillL,hz1,cellsL,aggL,hlen,hzl]
    rw [if_pos (by omega),if_pos ⟨trivial,by omega⟩,splice_all (by rw [hlen,hzl])]
    rfl
   refine chain_op rfl rfl (v:=S (H.n+2) 0 (ds.length+1) 33) (H1:=((((H.alloc z).set H.n (enc x)).alloc (enc x)).kill b).alloc (ds.flatMap enc++enc x)) ?_ ?_
   ·have hrow:(((H.alloc z).set H.n (enc x)).alloc (enc x)).row (H.n+1) 0 (1*33)=some (enc x):=by
     unfold AHeap.row
     rw [get_alloc,if_pos (show H.n+1=((H.alloc z).set H.n (enc x)).n from rfl)]
     simp only [hlen,Nat.zero_add]
     rw [if_pos (by omega),List.drop_zero,List.take_of_length_le (by rw [hlen];omega)]
    have hgb:(((H.alloc z).set H.n (enc x)).alloc (enc x)).get b=some ⟨ds.flatMap enc,true⟩:=by
     rw [get_alloc,if_neg (c:=b=((H.alloc z).set H.n (enc x)).n) (show¬b=H.n+1 by omega),get_set,if_neg (by omega),get_alloc,if_neg (by omega),q2]
    simp only [aOp,ev,updO,upd,if_true,show (12:Nat)≠14 by omega,show (12:Nat)≠13 by omega,if_false,aAppend]
    simp only [hrow,hgb,show¬(1:Nat)=0 by omega,if_false,ne_eq,not_true_eq_false,and_false,List.all_eq_true.2 hall,hfl,Nat.le_refl,true_and,and_true,htk]
    rw [if_pos (by
     have:(ds.length+1)*byt≤(1000000+1)*100:=Nat.mul_le_mul (by omega) hby
     omega)]
    rfl
   refine chain_op rfl rfl (v:=S (H.n+2) 0 (ds.length+1) 33) (H1:=((((H.alloc z).set H.n (enc x)).alloc (enc x)).kill b).alloc (ds.flatMap enc++enc x)) ?_ .nil
   simp only [aOp,ev,updO,upd,if_true]
  have hgd4:=hgood2.2.trans hg4.2
  have hfree4: ∀{n:Nat} b,((H.alloc z).set H.n (enc x)).n≤b→b<n→β4 b=none:=fun {n} b hb _=>by
   have hb':H.n+1≤b:=hb
   cases hq:β4 b with
   |none=>rfl
   |some L=>
    have hn:2≤H.n:=h.good.2.n
    rcases hgd4.new b L hq with q|q
    ·unfold βM at q
     split at q
     ·omega
     ·cases q
    ·have:b<H.n+1:=q.2
     omega
  refine seq_ops ch5 _ (matched_all h5) β4 a4 w4 hg4.1 hf4 hfree4 hd4 _ fun β5 a5 w5 hg5 hf5 hd5=>?_
  have hgd5:=hg4.2.trans hg5.2
  show Q .normal a5 w5
  have hH5: ∀b',(((((H.alloc z).set H.n (enc x)).alloc (enc x)).kill b).alloc (ds.flatMap enc++enc x)).get b'=if b'=H.n+2 then some ⟨ds.flatMap enc++enc x,true⟩ else if b'=b then none else if b'=H.n+1 then some ⟨enc x,true⟩ else if b'=H.n then some ⟨enc x,true⟩ else H.get b':=fun b'=>by
   rw [get_alloc,get_kill,get_alloc,get_set,get_alloc]
   show (if b'=H.n+2 then _ else if b'=b then _ else if b'=H.n+1 then _ else if b'=H.n then _ else if b'=H.n then _ else _)=_
   by_cases h1:b'=H.n<;>simp [h1]
  have hrw5: ∀b' blk,(((((H.alloc z).set H.n (enc x)).alloc (enc x)).kill b).alloc (ds.flatMap enc++enc x)).get b'=some blk→blk.rw=true:=fun b' blk hb'=>by
   rw [hH5] at hb'
   repeat' split at hb'
   all_goals first|(cases hb';rfl)|(cases hb';done)|exact h.rw _ _ hb'
  have h10: ∀c∈ds++[x],True:=fun _ _=>trivial
  have it5:a5.tmps.getD 7 undef= .pointer (some ⟨r,0,none⟩):=by
   have hv:=hf5.val 7
   have e7:(upd (upd (upd (upd (upd f2 12 (S b 0 ds.length 33)) 13 (aggL (enc x))) 14 (S (H.n+1) 0 1 33)) 15 (S (H.n+2) 0 (ds.length+1) 33)) 3 (S (H.n+2) 0 (ds.length+1) 33)) 7= .pointer (some ⟨nI,0,none⟩):=by
    simp only [upd];simp [f2_7]
   rw [e7] at hv
   obtain ⟨g',base',N',u1,u2,u3⟩:=hv.ptr_inv
   rw [hgd5.ext _ _ t2] at u1
   cases u1
   exact u3
  refine hnext e he x hkey β5 _ w5 _ a5 ⟨⟨hg5.1,hgood2.2.trans hgd5⟩,hf5,hrw5,h.hr0,it5,⟨nI,?_,hgd5.ext _ _ t2,?_,?_⟩,?_,?_,?_,hd5,?_,?_⟩
  ·simp only [upd];simp [f2_7]
  ·show nI<H.n+3
   omega
  ·rw [hH5,if_neg (by omega),if_neg (fun e1=>by rw [e1,q2] at t4;cases t4),if_neg (by omega),if_neg (by omega)]
   exact t4
  ·have hv:=hf5.val 3
   have e3:(upd (upd (upd (upd (upd f2 12 (S b 0 ds.length 33)) 13 (aggL (enc x))) 14 (S (H.n+1) 0 1 33)) 15 (S (H.n+2) 0 (ds.length+1) 33)) 3 (S (H.n+2) 0 (ds.length+1) 33)) 3=S (H.n+2) 0 (ds.length+1) 33:=by simp [upd]
   rw [e3] at hv
   have hget:(((((H.alloc z).set H.n (enc x)).alloc (enc x)).kill b).alloc (ds.flatMap enc++enc x)).get (H.n+2)=some ⟨ds.flatMap enc++enc x,true⟩:=by rw [hH5,if_pos rfl]
   generalize hu:a5.tmps.getD 3 undef=u at hv
   generalize hlq:ds.length+1=lq at hv
   cases hv with
   |plain hp=>simp [Am.plain] at hp
   |slice0=>omega
   |slice hL hc1 hc2=>
    rename_i cap' g' base' N'
    obtain ⟨_,_,_,_,_,_,k1,_⟩:=hg5.1.cells _ _ _ hget hL (by show base'≤N';omega)
    have hbase:=(k1 rfl).2
    simp only at hbase
    subst hbase
    subst hlq
    refine ⟨H.n+2,g',N',cap',by rw [e3];simp,by rw [hget];simp,hL,by simp,by simpa using hc1,by omega⟩
  ·rw [hgd5.frame r (by rw [hw2s];exact hrlt) fun b' blk L k1 k2 k3=>h.sep b' blk L k1 k3]
   exact hw2r
  ·intro b' blk L k1 k3 k4
   rcases hgd5.own b' blk L k1 (hrw5 _ _ k1) k3 with k|⟨b0,blk0,L0,k5,k6,k7,k8⟩
   ·rw [hw2s] at k;omega
   ·exact h.sep b0 blk0 L0 k5 k7 (by rw [k8,k4])
  ·rw [List.map_append,List.nodup_append]
   refine ⟨h.nd,by simp,fun k hk k' hk' hkk=>?_⟩
   simp only [List.map_cons,List.map_nil,List.mem_singleton] at hk'
   subst hk'
   obtain ⟨e',he',hse,hk'⟩:=(h.mem k).1 hk
   have hee:e'=e:=entry_key hst.2.2 he' hem (by rw [hk',hkk,hkey])
   rw [hee,hes] at hse
   cases hse
  ·intro k
   rw [List.map_append,List.mem_append,h.mem k]
   simp only [List.map_cons,List.map_nil,List.mem_singleton]
   constructor
   ·rintro (⟨e',he',hse,hk'⟩|rfl)
    ·exact ⟨e',he',by rw [contains_push,hse];rfl,hk'⟩
    ·exact ⟨e,hem,by rw [contains_push];simp,hkey⟩
   ·rintro ⟨e',he',hse,hk'⟩
    rw [contains_push,Bool.or_eq_true] at hse
    rcases hse with hse|hse
    ·exact .inl ⟨e',he',hse,hk'⟩
    ·have hbe:e'.born=e.born:=by simpa using hse
     have hee:e'=e:=entry_born hst.2.1 he' hem hbe
     exact .inr (by rw [←hk',hee,hkey])
theorem LH.loop (hlen: ∀x,(enc x).length=33) (hpl: ∀x,∀c∈enc x,plain c=true) (hone: ∀x,∀c∈enc x,c.oneCell'=true) (hzl:z.length=33) (hby:byt≤100)
  (hb:w0.heap[gm]? =some (.map es ck)) (hst:MapKept.Stamped es ck) (hdec: ∀e∈es.toList,e.val= .bool true∧ ∃x:α,e.key=KV enc x) (hsz:es.size≤1000000)
  (hA3:A3.op= .next (.tmp 7) false∧A3.dst=some 8∧A3.guard=none) (hB3:B3.op= .extract (.tmp 8) 0∧B3.dst=some 9∧B3.guard=none)
  (hA4:A4.op= .entry (.tmp 7)∧A4.dst=some 10∧A4.guard=none)
  (h4:optL (trOper Pr μ φ 19 #[A4,B4,C4,D4]) [B4,C4,D4]=some [⟨some 11, .extract (.t 10) 0,none⟩,⟨some 4, .alloc z,none⟩,⟨none, .store 33 (.t 4) (.t 11),none⟩])
  (h5:optL (trOper Pr μ φ 19 R5) R5.toList=some [oM 12 3,⟨some 13, .load (some 33) (.t 4),none⟩,⟨some 14, .buildSlice 33 1 z [(0,33, .t 13)],none⟩,⟨some 15, .append 33 byt (.t 12) (.t 14),none⟩,oM 3 15])
  {r:Nat} {Q:Exit→Act→World→Prop}: ∀(n:Nat) {seen:Array Nat} {ds:List α} {β:Ren} {H:AHeap} {w:World} {f:Fr} {a:Act},(leftOf es seen).size≤n→LH φ enc gm ck r es w0 seen ds β H w f a→
   (∀seen' ds' β' H' w' f' a',(leftOf es seen').size=0→LH φ enc gm ck r es w0 seen' ds' β' H' w' f' a'→Q (.exit 0) a' w')→
   Code.rounds Pr (Code.seq (.region i3 #[A3,B3] false) (.seq (.cond (.tmp 9) .skip (.exit 0)) (.block 1 (.seq (.region i4 #[A4,B4,C4,D4] false) (.region i5 R5 false))))) Q (n+1) a w:=by
 intro n
 induction n with
 |zero=>
  intro seen ds β H w f a hn h hQ
  rw [rounds_succ]
  refine h.round hlen hpl hone hzl hby hb hst hdec hsz hA3 hB3 hA4 h4 h5 (fun h0 f' a' h'=>hQ _ _ _ _ _ _ _ h0 h') fun e he=>?_
  have:0<(leftOf es seen).size:=by
   have:=List.length_pos_of_mem he
   simpa using this
  omega
 |succ n ih=>
  intro seen ds β H w f a hn h hQ
  rw [rounds_succ]
  refine h.round hlen hpl hone hzl hby hb hst hdec hsz hA3 hB3 hA4 h4 h5 (fun h0 f' a' h'=>hQ _ _ _ _ _ _ _ h0 h') fun e he x hx β' H' w' f' a' h'=>?_
  have:=left_shrinks es seen e he
  exact ih (by omega) h' hQ
variable {fn:Func} {q qS qC:FuncId} {R0 R7:Array Oper} {A1 B1 A2 B2 A6 B6 A7 B7:Oper} {i0 i1 i2 i6 i7:Nat} {tS tE tM kt et:TypeId} {ts:Array TypeId} {lt:α→α→Bool}
theorem inOrder_walk (hlen: ∀x,(enc x).length=33) (hint: ∀x,∀c∈enc x,∃k n,c= .int k n) (hpl: ∀x,∀c∈enc x,plain c=true) (hone: ∀x,∀c∈enc x,c.oneCell'=true) (hzl:z.length=33) (hby:byt≤100)
  (hb:w0.heap[gm]? =some (.map es ck)) (hst:MapKept.Stamped es ck) (hdec: ∀e∈es.toList,e.val= .bool true∧ ∃x:α,e.key=KV enc x) (hsz:es.size≤1000000)
  (hfn:Pr.funcs[q]? =some fn) (hnt:fn.ntmps=19) (hres:fn.results= #[.tmp 2])
  (hbody:fn.body=some (.seq (.region i0 R0 false) (.seq (.region i1 #[A1,B1] false) (.seq (.seq (.region i2 #[A2,B2] false) (.block 0 (.loop (.seq (.region i3 #[A3,B3] false) (.seq (.cond (.tmp 9) .skip (.exit 0)) (.block 1 (.seq (.region i4 #[A4,B4,C4,D4] false) (.region i5 R5 false)))))))) (.seq (.region i6 #[A6,B6] false) (.seq (.region i7 #[A7,B7] false) .ret))))))
  (h0:optL (trOper Pr μ φ 19 R0) R0.toList=some [⟨some 2, .move (.c (.slice none 0 0)),none⟩])
  (hA1:A1.op= .buildSlice tS 0 #[]∧A1.dst=some 5∧A1.guard=none) (hB1:B1.op= .assign (.tmp 5)∧B1.dst=some 3∧B1.guard=none) (hS:Pr.underlying tS=some (.slice tE)) (hE:szT Pr tE=some 33)
  (hA2:A2.op= .move (.tmp 0)∧A2.dst=some 6∧A2.guard=none) (hB2:B2.op= .range tM (.tmp 6)∧B2.dst=some 7∧B2.guard=none) (hM:Pr.underlying tM=some (.map kt et))
  (hA3:A3.op= .next (.tmp 7) false∧A3.dst=some 8∧A3.guard=none) (hB3:B3.op= .extract (.tmp 8) 0∧B3.dst=some 9∧B3.guard=none)
  (hA4:A4.op= .entry (.tmp 7)∧A4.dst=some 10∧A4.guard=none)
  (h4:optL (trOper Pr μ φ 19 #[A4,B4,C4,D4]) [B4,C4,D4]=some [⟨some 11, .extract (.t 10) 0,none⟩,⟨some 4, .alloc z,none⟩,⟨none, .store 33 (.t 4) (.t 11),none⟩])
  (h5:optL (trOper Pr μ φ 19 R5) R5.toList=some [oM 12 3,⟨some 13, .load (some 33) (.t 4),none⟩,⟨some 14, .buildSlice 33 1 z [(0,33, .t 13)],none⟩,⟨some 15, .append 33 byt (.t 12) (.t 14),none⟩,oM 3 15])
  (hA6:A6.op= .move (.tmp 3)∧A6.dst=some 16∧A6.guard=none) (hB6:B6.op= .call ⟨.value (.func qS), #[.tmp 16, .func qC],ts⟩∧B6.dst=some 17∧B6.guard=none)
  (hA7:A7.op= .move (.tmp 3)∧A7.dst=some 18∧A7.guard=none) (hB7:B7.op= .assign (.tmp 18)∧B7.dst=some 2∧B7.guard=none)
  (hent: ∀args w,(callFunc qS args).run Pr w= .ok (.enter qS args) w)
  (hsort: ∀{blk cap:Nat} {l:List α} {c:Array Value} {t:TypeId} {w:World},w.heap[blk]? =some (.cells c t)→(∀(i:Nat) (v:Value),(l.flatMap enc)[i]? =some v→c[i]? =some v)→l.length<4611686018427387904→
   Calls Pr qS #[.slice (some ⟨blk,0,none⟩) l.length cap, .func (.func qC) #[] #[]] w fun e w'=>e= .returned (.tuple #[])∧ ∃(l':List α) (c':Array Value),l'.Perm l∧l'.Pairwise (fun x y=>lt y x=false)∧w'.heap[blk]? =some (.cells c' t)∧c'.size=c.size∧
   (∀(i:Nat) (v:Value),(l'.flatMap enc)[i]? =some v→c'[i]? =some v)∧(∀r,r<w.heap.size→r≠blk→w'.heap[r]? =w.heap[r]?)∧w.heap.size≤w'.heap.size∧w'.os=w.os∧w'.tape=w.tape∧w'.output=w.output∧w.drawn≤w'.drawn):
  Calls Pr q #[.map (some gm)] w0 fun e w'=> ∃(l:List α) (g cap:Nat) (c:Array Value) (t:TypeId),e= .returned (.slice (some ⟨g,0,none⟩) l.length cap)∧l.Pairwise (fun x y=>lt y x=false)∧(l.map (KV enc)).Nodup∧(∀k,k∈l.map (KV enc)↔ ∃e∈es.toList,e.key=k)∧
   w0.heap.size≤g∧w'.heap[g]? =some (.cells c t)∧l.length≤cap∧cap*33≤c.size∧(∀(i:Nat) (v:Value),(l.flatMap enc)[i]? =some v→c[i]? =some v)∧(∀r,r<w0.heap.size→w'.heap[r]? =w0.heap[r]?)∧w0.heap.size≤w'.heap.size∧w'.os=w0.os∧w'.tape=w0.tape∧w'.output=w0.output∧w0.drawn≤w'.drawn:=by
 have hgm:=(Array.getElem?_eq_some_iff.1 hb).1
 have hmove: ∀{o:Oper} {x:Operand} {a:Act} {w:World},o.op= .move x→(execOp a.eval o).run Pr w= .ok (.value (a.eval x)) w:=fun {o x a w} ho=>by
  obtain ⟨dst,op,ty,pos,after,guard⟩:=o
  simp only at ho
  subst ho
  simp [execOp]
 have hassign: ∀{o:Oper} {x:Operand} {a:Act} {w:World},o.op= .assign x→(execOp a.eval o).run Pr w= .ok (.value (a.eval x)) w:=fun {o x a w} ho=>by
  obtain ⟨dst,op,ty,pos,after,guard⟩:=o
  simp only at ho
  subst ho
  simp [execOp]
 refine calls_of_wp hfn hbody ?_
 rw [hnt]
 have hR0:Rel φ (βM gm) HM w0:=Rel.hm gm w0
 have hv0:VRL φ (βM gm) [.map (some 0)] [.map (some gm)]:=VRL.cons (.map (base:=1) (N:=0) rfl (by omega)) VRL.nil
 have hf0:=frame0_rel hv0 19
 generalize ha0:({tmps:=(⟨[.map (some gm)]⟩:Array Value)++Array.replicate (19-(⟨[.map (some gm)]⟩:Array Value).size) undef,defers:=[]}:Act)=a0 at hf0
 have had0:a0.defers=[]:=by rw [←ha0]
 clear ha0
 refine wp_seq (wp_region ?_)
 have ch0:SChain Pr μ φ none [⟨some 2, .move (.c (.slice none 0 0)),none⟩] (frame0 [.map (some 0)]) HM (upd (frame0 [.map (some 0)]) 2 (.slice none 0 0)) HM:=chain_op rfl rfl (v:= .slice none 0 0) (H1:=HM) rfl .nil
 refine seq_ops ch0 _ (matched_all h0) (βM gm) a0 w0 hR0 hf0 (fun b h1 h2=>by omega) had0 _ fun β1 a1 w1 hg1 hf1 hd1=>?_
 have ha10:a1.tmps.getD 0 undef= .map (some gm):=by
  have hv:=hf1.val 0
  have e0:(upd (frame0 [.map (some 0)]) 2 (.slice none 0 0)) 0= .map (some 0):=rfl
  rw [e0] at hv
  generalize a1.tmps.getD 0 undef=u at hv
  cases hv with
  |plain h=>simp [Am.plain] at h
  |map hL hlt=>
   rw [hg1.2.ext 0 ⟨gm,1,0⟩ rfl] at hL
   cases hL
   rfl
 have hs1:=hf1.size
 generalize hfe:upd (frame0 [.map (some 0)]) 2 (.slice none 0 0)=f1 at hf1
 show Code.wp _ _ _ _ _
 refine wp_seq (wp_region ?_)
 show wpOps Pr #[A1,B1] _ [0,1] a1 w1
 have hex1:(execOp a1.eval A1).run Pr w1= .ok (.value (.slice (some ⟨w1.heap.size,0,none⟩) 0 0)) (w1.alloc (.cells #[] tE)):=by
  obtain ⟨k1,k2,k3⟩:=hA1
  obtain ⟨dst,op,ty,pos,after,guard⟩:=A1
  simp only at k1
  subst k1
  simp [execOp,Instr.buildSlice,run_underlying hS,sizeOf_run hE,newRow,Instr.fill,Array.range_zero']
 refine wpOps_run (o:=A1) rfl hA1.2.2 hex1 ?_
 rw [hA1.2.1]
 have s5:5<a1.tmps.size:=by omega
 refine wpOps_run (o:=B1) rfl hB1.2.2 (hassign hB1.1) ?_
 have e5:(a1.put (some 5) (.slice (some ⟨w1.heap.size,0,none⟩) 0 0)).eval (.tmp 5)= .slice (some ⟨w1.heap.size,0,none⟩) 0 0:=put_same s5
 rw [hB1.2.1,e5]
 have hn1:β1 HM.n=none:=by
  cases hq:β1 HM.n with
  |none=>rfl
  |some L=>
   rcases hg1.2.new _ L hq with q|q
   ·cases q
   ·have:HM.n<HM.n:=q.2
    omega
 have hg2':=Good.alloc hg1.1 hn1 (cs:=[]) #[] tE (Nat.le_refl _) (fun i v hi=>by simp at hi)
 generalize hβ2:Ren.put β1 HM.n ⟨w1.heap.size,0,(#[]:Array Value).size⟩=β2 at hg2'
 have hβ2b:β2 2=some ⟨w1.heap.size,0,0⟩:=by rw [←hβ2];rfl
 have vS:VR φ β2 (S 2 0 0 33) (.slice (some ⟨w1.heap.size,0,none⟩) 0 0):= .slice (base:=0) (o:=0) (N:=0) hβ2b (Nat.le_refl _) (by omega)
 have hf2:=((hf1.mono hg2'.2.ext).put (d:=some 5) (fun x hx=>by cases hx;omega) vS).put (d:=some 3) (fun x hx=>by cases hx;omega) vS
 have z3:3<(a1.put (some 5) (.slice (some ⟨w1.heap.size,0,none⟩) 0 0)).tmps.size:=by simp [Act.put];omega
 generalize ha2:(a1.put (some 5) (.slice (some ⟨w1.heap.size,0,none⟩) 0 0)).put (some 3) (.slice (some ⟨w1.heap.size,0,none⟩) 0 0)=a2 at hf2
 have ha2_0:a2.tmps.getD 0 undef= .map (some gm):=by rw [←ha2,put_ne z3 (by omega),put_ne s5 (by omega)];exact ha10
 have ha2_3:a2.tmps.getD 3 undef= .slice (some ⟨w1.heap.size,0,none⟩) 0 0:=by rw [←ha2,put_same z3]
 have hd2:a2.defers=[]:=by rw [←ha2,put_def,put_def];exact hd1
 show Code.wp _ _ _ _ _
 have hs2:=hf2.size
 have hg2:=hg1.trans hg2'
 refine wp_seq (wp_seq (wp_region ?_))
 show wpOps Pr #[A2,B2] _ [0,1] a2 _
 refine wpOps_run (o:=A2) rfl hA2.2.2 (hmove hA2.1) ?_
 rw [hA2.2.1]
 have s6:6<a2.tmps.size:=by omega
 have e0:a2.eval (.tmp 0)= .map (some gm):=ha2_0
 rw [e0]
 have hmap2:(w1.alloc (.cells #[] tE)).heap[gm]? =some (.map es ck):=by
  rw [hg2.2.frame gm hgm (fun b blk L h=>by cases h)]
  exact hb
 generalize hw2:w1.alloc (.cells #[] tE)=w2 at*
 have hex2:(execOp (a2.put (some 6) (.map (some gm))).eval B2).run Pr w2= .ok (.value (.pointer (some ⟨w2.heap.size,0,none⟩))) (w2.alloc (.mapIter (some gm) ck #[] ck)):=by
  obtain ⟨k1,k2,k3⟩:=hB2
  obtain ⟨dst,op,ty,pos,after,guard⟩:=B2
  simp only at k1
  subst k1
  have e6:(a2.put (some 6) (.map (some gm))).eval (.tmp 6)= .map (some gm):=put_same s6
  simp only [execOp,e6,Sem.run_bind,run_range_map w2 tM kt et gm es ck hM hmap2,Result.andThen_ok,Sem.run_pure]
 refine wpOps_run (o:=B2) rfl hB2.2.2 hex2 ?_
 rw [hB2.2.1]
 have vm:VR φ β2 (.map (some 0)) (.map (some gm)):= .map (base:=1) (N:=0) (hg2.2.ext 0 ⟨gm,1,0⟩ rfl) (by omega)
 have hn3:β2 (HM.alloc []).n=none:=by
  cases hq:β2 (HM.alloc []).n with
  |none=>rfl
  |some L=>
   rcases hg2.2.new _ L hq with q|q
   ·cases q
   ·have:(HM.alloc []).n<(HM.alloc []).n:=q.2
    omega
 have hg3':=Good.name hg2.1 hn3 (.mapIter (some gm) ck #[] ck)
 generalize hβ3:Ren.put β2 (HM.alloc []).n ⟨w2.heap.size,0,0⟩=β3 at hg3'
 have hβ3b:β3 3=some ⟨w2.heap.size,0,0⟩:=by rw [←hβ3];rfl
 have vI:VR φ β3 (P 3 0) (.pointer (some ⟨w2.heap.size,0,none⟩)):= .ptr (base:=0) (o:=0) (N:=0) hβ3b (Nat.le_refl _)
 have hf3:=((hf2.mono hg3'.2.ext).put (d:=some 6) (fun x hx=>by cases hx;omega) (vm.mono hg3'.2.ext)).put (d:=some 7) (fun x hx=>by cases hx;omega) vI
 have z7:7<(a2.put (some 6) (.map (some gm))).tmps.size:=by simp [Act.put];omega
 have hwr:(w2.alloc (.mapIter (some gm) ck #[] ck)).heap[w2.heap.size]? =some (.mapIter (some gm) ck #[] ck):=heap_push_new w2 _
 have hsz2:w0.heap.size≤w2.heap.size:=hg2.2.size
 have hsz1:w1.heap.size<w2.heap.size:=by rw [←hw2];simp
 have hrw3: ∀b blk,(HM.alloc []).get b=some blk→blk.rw=true:=fun b blk hb'=>by
  rw [get_alloc] at hb'
  split at hb'
  ·cases hb';rfl
  ·cases hb'
 have hsep3: ∀b blk L,(HM.alloc []).get b=some blk→β3 b=some L→L.g≠w2.heap.size:=fun b blk L hb' hL=>by
  rw [get_alloc] at hb'
  split at hb'
  ·rename_i e
   have e':b=2:=e
   rw [e',hg3'.2.ext _ _ hβ2b] at hL
   cases hL
   simp only
   omega
  ·cases hb'
 have hLH:LH φ enc gm ck w2.heap.size es w0 #[] [] β3 ⟨(HM.alloc []).n+1,(HM.alloc []).get⟩ (w2.alloc (.mapIter (some gm) ck #[] ck)) _ _:=⟨hg2.trans hg3',hf3,hrw3,hsz2,put_same z7,⟨3,rfl,hβ3b,by show 3<4;omega,rfl⟩,
  ⟨2,w1.heap.size,0,0,rfl,rfl,hg3'.2.ext _ _ hβ2b,by rw [put_ne z7 (by omega),put_ne s6 (by omega)];exact ha2_3,Nat.le_refl _,by omega⟩,hwr,hsep3,by rw [put_def,put_def];exact hd2,by simp,fun k=>by simp⟩
 show Code.wp _ _ _ _ _
 refine wp_block (wp_loop_rounds ((leftOf es #[]).size+1) (hLH.loop hlen hpl hone hzl hby hb hst hdec hsz hA3 hB3 hA4 h4 h5 _ (Nat.le_refl _) fun seen ds β H w f a hl0 hh=>?_))
 show Code.wp _ _ _ _ _
 obtain ⟨b,g,N,cap,q1,q2,q3,q4,q5,q6⟩:=hh.out
 have hs:=hh.fr.size
 refine wp_seq (wp_region ?_)
 show wpOps Pr #[A6,B6] _ [0,1] a w
 refine wpOps_run (o:=A6) rfl hA6.2.2 (hmove hA6.1) ?_
 have e3:a.eval (.tmp 3)= .slice (some ⟨g,0,none⟩) ds.length cap:=q4
 rw [hA6.2.1,e3]
 have s16:16<a.tmps.size:=by omega
 have hex6:(execOp (a.put (some 16) (.slice (some ⟨g,0,none⟩) ds.length cap)).eval B6).run Pr w= .ok (.enter qS #[.slice (some ⟨g,0,none⟩) ds.length cap, .func (.func qC) #[] #[]]) w:=by
  obtain ⟨k1,k2,k3⟩:=hB6
  obtain ⟨dst,op,ty,pos,after,guard⟩:=B6
  simp only at k1
  subst k1
  have e16:(a.put (some 16) (.slice (some ⟨g,0,none⟩) ds.length cap)).eval (.tmp 16)= .slice (some ⟨g,0,none⟩) ds.length cap:=put_same s16
  have e33: ∀a':Act,a'.eval (.func qC)= .func (.func qC) #[] #[]:=fun _=>rfl
  have e34: ∀a':Act,a'.eval (.func qS)= .func (.func qS) #[] #[]:=fun _=>rfl
  simp [execOp,resolve,Deferred.ofValue,e16,e33,e34,invoke,hent]
 refine wpOps_call (o:=B6) rfl hB6.2.2 hex6 ?_
 obtain ⟨c,t,frz,k1,k2,k3,k4,k5⟩:=hh.good.1.cells b _ _ q2 q3 (Nat.zero_le _)
 obtain ⟨rfl,_⟩:=k4 rfl
 have hcells: ∀(i:Nat) (v:Value),(ds.flatMap enc)[i]? =some v→c[i]? =some v:=fun i v hi=>by
  obtain ⟨u,hu,hv⟩:=k5 i v hi
  obtain ⟨x,_,hx⟩:=List.mem_flatMap.1 (List.mem_of_getElem? hi)
  obtain ⟨kk,nn,rfl⟩:=hint x v hx
  rw [hv.int,Nat.zero_add] at hu
  exact hu
 have hdl:ds.length≤1000000:=by
  have q:ds.length≤es.size:=by
   simpa using nodup_le hh.nd (k:=es.toList.map (·.key)) fun k hk=>by
    obtain ⟨e',he',_,hk'⟩:=(hh.mem k).1 hk
    exact List.mem_map.2 ⟨e',he',hk'⟩
  omega
 refine (hsort (cap:=cap) k1 hcells (by omega)).mono fun e w' ⟨he,l',c',r1,r2,r3,r4,r5,r6,r7,r8,r9,r10,r11⟩=>⟨_,he,?_⟩
 have hgg:w0.heap.size≤g:=by
  rcases hh.good.2.own b _ _ q2 rfl q3 with k|⟨b0,blk0,L0,k5,_⟩
  ·exact k
  ·cases k5
 have hgl:g<w.heap.size:=(Array.getElem?_eq_some_iff.1 k1).1
 have hlen':l'.length=ds.length:=r1.length_eq
 rw [hB6.2.1]
 have s17:17<(a.put (some 16) (.slice (some ⟨g,0,none⟩) ds.length cap)).tmps.size:=by simp [Act.put];omega
 generalize ha6:(a.put (some 16) (.slice (some ⟨g,0,none⟩) ds.length cap)).put (some 17) (.tuple #[])=a6
 have ha6_3:a6.tmps.getD 3 undef= .slice (some ⟨g,0,none⟩) ds.length cap:=by rw [←ha6,put_ne s17 (by omega),put_ne s16 (by omega)];exact q4
 have hd6:a6.defers=[]:=by rw [←ha6,put_def,put_def];exact hh.de
 have hs6:19≤a6.tmps.size:=by rw [←ha6];simp [Act.put];exact hs
 show Code.wp _ _ _ _ _
 refine wp_seq (wp_region ?_)
 show wpOps Pr #[A7,B7] _ [0,1] a6 w'
 refine wpOps_run (o:=A7) rfl hA7.2.2 (hmove hA7.1) ?_
 have e36:a6.eval (.tmp 3)= .slice (some ⟨g,0,none⟩) ds.length cap:=ha6_3
 rw [hA7.2.1,e36]
 have s18:18<a6.tmps.size:=by omega
 refine wpOps_run (o:=B7) rfl hB7.2.2 (hassign hB7.1) ?_
 have e18:(a6.put (some 18) (.slice (some ⟨g,0,none⟩) ds.length cap)).eval (.tmp 18)= .slice (some ⟨g,0,none⟩) ds.length cap:=put_same s18
 rw [hB7.2.1,e18]
 have s2:2<(a6.put (some 18) (.slice (some ⟨g,0,none⟩) ds.length cap)).tmps.size:=by simp [Act.put];omega
 show Code.wp _ _ _ _ _
 refine wp_ret ?_
 refine ⟨by rw [put_def,put_def];exact hd6, .slice (some ⟨g,0,none⟩) ds.length cap,?_,l',g,cap,c',t,by rw [hlen'],r2,?_,?_,hgg,r3,by rw [hlen'];exact q5,by rw [r4,k2];exact q6,r5,?_,?_,r8.trans hh.good.2.os,r9.trans hh.good.2.tape,r10.trans hh.good.2.output.1,Nat.le_trans hh.good.2.output.2 r11⟩
 ·have:=put_same (v:= .slice (some ⟨g,0,none⟩) ds.length cap) s2
  rw [Array.getD_eq_getD_getElem?] at this
  simp [results,hres,this]
 ·exact (r1.map (KV enc)).nodup_iff.2 hh.nd
 ·intro k
  rw [(r1.map (KV enc)).mem_iff,hh.mem k]
  constructor
  ·rintro ⟨e',he',_,hk⟩;exact ⟨e',he',hk⟩
  ·rintro ⟨e',he',hk⟩;exact ⟨e',he',all_seen es seen hl0 e' he',hk⟩
 ·intro r hr
  rw [r6 r (Nat.lt_of_lt_of_le hr hh.good.2.size) (show r≠g by omega),hh.good.2.frame r hr fun b' blk L h=>by cases h]
 ·exact Nat.le_trans hh.good.2.size r7
end
end Go.Am
