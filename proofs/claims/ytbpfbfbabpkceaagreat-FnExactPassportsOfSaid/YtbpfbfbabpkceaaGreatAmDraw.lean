/- A region whose order is open: the first operations only add to memory; those behind them stand behind all, but for writes that may overtake some that have nothing to do with them: every order comes to the text's. -/
import Derived.Test.YtbpfbfbabpkceaaGreatAmReg
set_option linter.unusedVariables false
set_option linter.unusedSimpArgs false
namespace Go.Am
open Go
theorem float_op {o:AOp} {ρ:Opd→Value} {H H1 M:AHeap} {v:Value} {d:Option Nat} (hf:floatA ⟨d,o,none⟩=true) (h:aOp o ρ H=some (v,H1)) (hn:M.n=H.n)
  (hl: ∀n x,o= .load n x→ ∀b,blkOf (ρ x)=some b→M.get b=H.get b):
  (H1=H∧aOp o ρ M=some (v,M))∨ ∃cs dd,H1=H.alloc cs∧aOp o ρ M=some (v,M.alloc cs)∧blkOf v=some H.n∧d=some dd∧flopd ⟨d,o,none⟩=some (.t dd):=by
 have hm: ∀{r:Option Value},(r.map fun v=>(v,H))=some (v,H1)→H1=H∧(r.map fun v=>(v,M))=some (v,M):=by
  intro r h
  obtain ⟨w,rfl,he⟩:=map_some_inj h
  cases he
  exact ⟨rfl,rfl⟩
 cases o with
 |store n a x=>simp [floatA] at hf
 |storeF n a x fl=>simp [floatA] at hf
 |append e b s x=>simp [floatA] at hf
 |appendF e b s x fl=>simp [floatA] at hf
 |callF g as fl=>simp [floatA] at hf
 |sliceArr l e x lo hi=>simp [floatA] at hf
 |strOf x=>simp [floatA] at hf
 |makeMap=>simp [floatA] at hf
 |mapPut qs x k=>simp [floatA] at hf
 |lenMap qs x=>simp [floatA] at hf
 |kR z x=>simp [floatA] at hf
 |call g as=>simp [floatA] at hf
 |callv g as=>simp [floatA] at hf
 |move x=>simp only [aOp,Option.some.injEq,Prod.mk.injEq] at h;obtain ⟨rfl,rfl⟩:=h;exact .inl ⟨rfl,rfl⟩
 |pick c a b=>
  simp only [aOp] at h⊢
  generalize ρ c=vc at h⊢
  cases vc<;>first|(cases h;done)|(cases h;exact .inl ⟨rfl,rfl⟩)
 |alloc z=>
  simp only [floatA,Option.isNone_none,Bool.true_and] at hf
  obtain ⟨dd,rfl⟩:=Option.isSome_iff_exists.1 hf
  simp only [aOp,Option.some.injEq,Prod.mk.injEq] at h
  obtain ⟨rfl,rfl⟩:=h
  exact .inr ⟨z,dd,rfl,by simp only [aOp,hn],rfl,rfl,rfl⟩
 |box x=>
  simp only [floatA,Option.isNone_none,Bool.true_and] at hf
  obtain ⟨dd,rfl⟩:=Option.isSome_iff_exists.1 hf
  simp only [aOp,Option.some.injEq,Prod.mk.injEq] at h
  obtain ⟨rfl,rfl⟩:=h
  exact .inr ⟨_,dd,rfl,by simp only [aOp,hn],rfl,rfl,rfl⟩
 |buildSlice e n z ps=>
  simp only [floatA,Option.isNone_none,Bool.true_and] at hf
  obtain ⟨dd,rfl⟩:=Option.isSome_iff_exists.1 hf
  simp only [aOp] at h
  split at h
  ·rename_i hk
   obtain ⟨cs,hc,he⟩:=map_some_inj h
   cases he
   exact .inr ⟨cs,dd,rfl,by simp only [aOp,if_pos hk,hc,hn];rfl,rfl,rfl,rfl⟩
  ·cases h
 |makeSlice e b z l c=>
  simp only [floatA,Option.isNone_none,Bool.true_and] at hf
  obtain ⟨dd,rfl⟩:=Option.isSome_iff_exists.1 hf
  simp only [aOp] at h⊢
  generalize ρ l=vl at h⊢
  generalize ρ c=vc at h⊢
  cases vl<;>first|(cases h;done)|skip
  cases vc<;>first|(cases h;done)|skip
  simp only at h⊢
  split at h
  ·rename_i hk
   cases h
   exact .inr ⟨_,dd,rfl,by simp only [if_pos hk,hn],rfl,rfl,rfl⟩
  ·cases h
 |load n x=>
  have hl':=hl n x rfl
  simp only [aOp] at h⊢
  generalize ρ x=vx at h hl'⊢
  cases vx<;>first|(cases h;done)|skip
  rename_i a
  cases a with
  |none=>cases h
  |some a=>
   obtain ⟨b,o,sp⟩:=a
   cases sp with
   |some s=>cases h
   |none=>
    simp only at h⊢
    rw [hl' b rfl]
    cases hb:H.get b with
    |none=>rw [hb] at h;cases h
    |some blk=>
     rw [hb] at h
     exact .inl (hm h)
 |build z ps=>
  simp only [aOp] at h⊢
  obtain ⟨cs,hc,he⟩:=map_some_inj h
  cases he
  exact .inl ⟨rfl,by rw [hc];rfl⟩
 |bin op x y=>exact .inl (hm h)
 |sbin op x y=>exact .inl (hm h)
 |eqb neg x y=>
  simp only [aOp] at h⊢
  generalize ρ x=vx at h⊢
  generalize ρ y=vy at h⊢
  cases vx<;>first|(cases h;done)|skip
  cases vy<;>first|(cases h;done)|(cases h;exact .inl ⟨rfl,rfl⟩)
 |eqa neg n x y=>
  simp only [aOp] at h⊢
  obtain ⟨cs,hc,he⟩:=map_some_inj h
  cases he
  exact .inl ⟨rfl,by rw [hc];rfl⟩
 |eqn neg x=>
  simp only [aOp] at h⊢
  generalize ρ x=vx at h⊢
  cases vx<;>first|(cases h;done)|(cases h;exact .inl ⟨rfl,rfl⟩)
 |not x=>
  simp only [aOp] at h⊢
  generalize ρ x=vx at h⊢
  cases vx<;>first|(cases h;done)|(cases h;exact .inl ⟨rfl,rfl⟩)
 |neg x=>
  simp only [aOp] at h⊢
  generalize ρ x=vx at h⊢
  cases vx<;>first|(cases h;done)|(cases h;exact .inl ⟨rfl,rfl⟩)
 |conv k x=>
  simp only [aOp] at h⊢
  generalize ρ x=vx at h⊢
  cases vx<;>first|(cases h;done)|(cases h;exact .inl ⟨rfl,rfl⟩)
 |slice e x lo hi=>
  simp only [aOp] at h⊢
  split at h
  ·split at h
   ·rename_i hk
    obtain ⟨q,hq,he⟩:=map_some_inj h
    cases he
    exact .inl ⟨rfl,by simp only [if_pos hk,hq];rfl⟩
   ·cases h
  ·obtain ⟨q,hq,he⟩:=map_some_inj h
   cases he
   exact .inl ⟨rfl,by simp only [hq];rfl⟩
  ·cases h
 |sliceStr x lo hi=>
  simp only [aOp] at h⊢
  split at h
  ·obtain ⟨q,hq,he⟩:=map_some_inj h
   cases he
   exact .inl ⟨rfl,by simp only [hq];rfl⟩
  ·cases h
 |fieldAddr off x=>
  simp only [aOp] at h⊢
  split at h
  ·cases h;exact .inl ⟨rfl,rfl⟩
  ·cases h
 |field n off x=>
  simp only [aOp] at h⊢
  split at h
  ·exact .inl (hm h)
  ·cases h
 |indexAddr arr e x i=>
  cases arr<;>simp only [aOp] at h⊢
  all_goals
   split at h
   ·split at h
    ·rename_i hk
     cases h
     exact .inl ⟨rfl,by simp only [if_pos hk]⟩
    ·cases h
   ·cases h
 |index l e n x i=>
  simp only [aOp] at h⊢
  split at h
  ·split at h
   ·rename_i hk
    obtain ⟨h1,h2⟩:=hm h
    exact .inl ⟨h1,by simp only [if_pos hk];exact h2⟩
   ·cases h
  ·cases h
 |indexStr x i=>
  simp only [aOp] at h⊢
  split at h
  ·split at h
   ·rename_i hk
    obtain ⟨w,hw,he⟩:=map_some_inj h
    cases he
    exact .inl ⟨rfl,by simp only [if_pos hk,hw];rfl⟩
   ·cases h
  ·cases h
 |extract x j=>
  simp only [aOp] at h⊢
  split at h
  ·exact .inl (hm h)
  ·cases h
 |len x=>
  simp only [aOp] at h⊢
  generalize ρ x=vx at h⊢
  cases vx<;>first|(cases h;done)|(cases h;exact .inl ⟨rfl,rfl⟩)
 |lenStr x=>
  simp only [aOp] at h⊢
  generalize ρ x=vx at h⊢
  cases vx<;>first|(cases h;done)|(cases h;exact .inl ⟨rfl,rfl⟩)
 |lenConst n=>simp only [aOp,Option.some.injEq,Prod.mk.injEq] at h;obtain ⟨rfl,rfl⟩:=h;exact .inl ⟨rfl,rfl⟩
 |max xs=>exact .inl (hm h)
 |min xs=>exact .inl (hm h)
 |nilCheck x=>
  simp only [aOp] at h⊢
  split at h
  ·cases h;exact .inl ⟨rfl,rfl⟩
  ·cases h
 |makeFunc f caps=>simp only [aOp,Option.some.injEq,Prod.mk.injEq] at h;obtain ⟨rfl,rfl⟩:=h;exact .inl ⟨rfl,rfl⟩
section
variable {Pr:Program} {μ φ:Fun} {nt m:Nat} {all:Array Oper} {as:List AOper} {f f':Fr} {H H':AHeap}
theorem chain_seq (as:List AOper): ∀(m:Nat) (f:Fr) (H:AHeap),SChain Pr μ φ (some m) as f H f' H'→
  ∃(F:Nat→Fr) (G:Nat→AHeap),F 0=f∧G 0=H∧F as.length=f'∧G as.length=H'∧ ∀(i:Nat) (ao:AOper),as[i]? =some ao→(SimOne Pr μ φ ao (F i) (G i) (F (i+1)) (G (i+1))∧Fact Pr μ φ ao (F i) (G i) (F (i+1)) (G (i+1)))∧(i<m→Ext (G i) (G (i+1))):=by
 induction as with
 |nil=>
  intro m f H h
  cases h
  exact ⟨fun _=>f',fun _=>H',rfl,rfl,rfl,rfl,fun i ao h=>by simp at h⟩
 |cons o as ih=>
  intro m f H h
  cases h with
  |cons ho hx hch=>
   rename_i f1 H1
   obtain ⟨F,G,h1,h2,h3,h4,h5⟩:=ih (m-1) f1 H1 hch
   refine ⟨fun i=>match i with|0=>f|i+1=>F i,fun i=>match i with|0=>H|i+1=>G i,rfl,rfl,h3,h4,fun i ao hi=>?_⟩
   cases i with
   |zero=>
    simp at hi
    subst hi
    show (SimOne Pr μ φ o f H (F 0) (G 0)∧Fact Pr μ φ o f H (F 0) (G 0))∧(0<m→Ext H (G 0))
    rw [h1,h2]
    exact ⟨ho,fun hm=>hx (m-1) (by congr 1;omega)⟩
   |succ i=>
    simp at hi
    obtain ⟨h6,h7⟩:=h5 i ao hi
    exact ⟨h6,fun hm=>h7 (by omega)⟩
theorem convO_dst {c:List Nat} {m:Nat} {a:AOper}:(convO c as m a).dst=a.dst∧(convO c as m a).guard=a.guard:=by
 unfold convO
 split
 ·split<;>exact ⟨rfl,rfl⟩
 ·split<;>exact ⟨rfl,rfl⟩
 ·split<;>exact ⟨rfl,rfl⟩
 ·exact ⟨rfl,rfl⟩
theorem convO_is {c:List Nat} {m:Nat} {a:AOper}:convO c as m a=a∨(∃n x v,a.op= .store n x v∧convO c as m a=⟨a.dst, .storeF n x v (flOf as c m),a.guard⟩)∨
  (∃e b s x,a.op= .append e b s x∧convO c as m a=⟨a.dst, .appendF e b s x (flOf as c m),a.guard⟩)∨(∃g xs,a.op= .call g xs∧convO c as m a=⟨a.dst, .callF g xs (flOf as c m),a.guard⟩):=by
 unfold convO
 split
 ·rename_i n x v ho
  split
  ·exact .inl rfl
  ·exact .inr (.inl ⟨n,x,v,ho,rfl⟩)
 ·rename_i e b s x ho
  split
  ·exact .inl rfl
  ·exact .inr (.inr (.inl ⟨e,b,s,x,ho,rfl⟩))
 ·rename_i g xs ho
  split
  ·exact .inl rfl
  ·exact .inr (.inr (.inr ⟨g,xs,ho,rfl⟩))
 ·exact .inl rfl
theorem conv_sim {c:List Nat} {m:Nat} {a:AOper} {f f1:Fr} {H H1:AHeap} (h:SimOne Pr μ φ (convO c as m a) f H f1 H1∧Fact Pr μ φ (convO c as m a) f H f1 H1):SimOne Pr μ φ a f H f1 H1∧Fact Pr μ φ a f H f1 H1:=by
 obtain ⟨hs,hf⟩:=h
 rcases @convO_is as c m a with h|⟨n,x,v,ho,hc⟩|⟨e,b,s,x,ho,hc⟩|⟨g,xs,ho,hc⟩
 ·rw [h] at hs hf
  exact ⟨hs,hf⟩
 ·rw [hc] at hf
  obtain ⟨h1,h2,_⟩:=hf
  cases hw:wantedA a.guard f with
  |true=>
   obtain ⟨w,h3,h4⟩:=h1 hw rfl
   have h5:=(storeF_store h3).1
   rw [←ho] at h5
   subst h4
   exact ⟨sim_op hw h5,⟨fun _ _=>⟨w,h5,rfl⟩,fun (hq:wantedA a.guard f=false)=>(by rw [hw] at hq;cases hq),fun g args fl ho'=>by rw [ho] at ho';cases ho'⟩⟩
  |false=>
   obtain ⟨rfl,rfl⟩:=h2 hw
   exact ⟨sim_skip hw,⟨fun (hq:wantedA a.guard f=true)=>(by rw [hw] at hq;cases hq),fun _=>⟨rfl,rfl⟩,fun g args fl ho'=>by rw [ho] at ho';cases ho'⟩⟩
 ·rw [hc] at hf
  obtain ⟨h1,h2,_⟩:=hf
  cases hw:wantedA a.guard f with
  |true=>
   obtain ⟨w,h3,h4⟩:=h1 hw rfl
   have h5:=(appendF_append h3).1
   rw [←ho] at h5
   subst h4
   exact ⟨sim_op hw h5,⟨fun _ _=>⟨w,h5,rfl⟩,fun (hq:wantedA a.guard f=false)=>(by rw [hw] at hq;cases hq),fun g args fl ho'=>by rw [ho] at ho';cases ho'⟩⟩
  |false=>
   obtain ⟨rfl,rfl⟩:=h2 hw
   exact ⟨sim_skip hw,⟨fun (hq:wantedA a.guard f=true)=>(by rw [hw] at hq;cases hq),fun _=>⟨rfl,rfl⟩,fun g args fl ho'=>by rw [ho] at ho';cases ho'⟩⟩
 ·rw [hc] at hf
  obtain ⟨_,h2,h3⟩:=hf
  have h4:=(h3 g xs _ rfl).1
  have e:(⟨a.dst, .call g xs,a.guard⟩:AOper)=a:=by rw [←ho]
  rw [e] at h4
  exact ⟨h4,⟨fun _ (hq:callA a.op=false)=>(by rw [ho] at hq;cases hq),h2,fun g args fl ho'=>by rw [ho] at ho';cases ho'⟩⟩
def passA:AOp→Bool
 | .store .. | .move _| .append .. | .call .. | .bin .. | .min _| .max _=>true
 | _=>false
structure DOk (all:Array Oper) (as:List AOper) (m i:Nat) (o:Oper):Prop where
 edges: ∀e∈o.after,Region.binds .any e=true→e.on<i
 seq:m≤i→ ∀j,m≤j→j<i→j∈(closL all.toList).getD i []
 bar:m≤i→(∀j,j<m→j∈(closL all.toList).getD i [])∨((∃d op,as[i]? =some ⟨d,op,none⟩∧passA op=true)∧ ∀j,j<m→j∈(closL all.toList).getD i []∨ ∃a,as[j]? =some a∧floatA a=true∧keptA as j i a=true)
 pairs: ∀(j:Nat) (oj:Oper),all[j]? =some oj→i≠j→(∀d e,o.dst=some d→oj.dst=some e→d≠e)∧
  ∀d,oj.dst=some d→d∈o.looksAt all→(j<i∧j∈(closL all.toList).getD i [])∨(i<j∧i∈(closL all.toList).getD j [])
theorem drawOk_some (h:drawOk all as m=true) {i:Nat} {o:Oper} (ho:all[i]? =some o):DOk all as m i o:=by
 have hi:i<all.size:=(Array.getElem?_eq_some_iff.1 ho).1
 unfold drawOk at h
 have h1:=List.all_eq_true.1 h i (List.mem_range.2 hi)
 simp only [ho,Bool.and_eq_true] at h1
 obtain ⟨⟨⟨h2,h3⟩,h4⟩,h5⟩:=h1
 rw [Bool.or_eq_true] at h3
 refine ⟨fun e he hb=>?_,fun hm j hmj hj=>?_,fun hm=>?_,fun j oj hoj hne=>?_⟩
 ·have:=List.all_eq_true.1 h2 e (by simpa using he)
  simpa [hb] using this
 ·rcases h3 with h3|h3
  ·have:=of_decide_eq_true h3
   omega
  ·rw [Bool.and_eq_true] at h3
   have:=List.all_eq_true.1 h3.1 j (List.mem_range.2 hj)
   rw [Bool.or_eq_true] at this
   rcases this with h|h
   ·have:=of_decide_eq_true h;omega
   ·simpa using h
 ·rcases h3 with h3|h3
  ·have:=of_decide_eq_true h3
   omega
  ·rw [Bool.and_eq_true,Bool.or_eq_true] at h3
   rcases h3.2 with h|h
   ·exact .inl fun j hj=>by simpa using List.all_eq_true.1 h j (List.mem_range.2 hj)
   ·rw [Bool.and_eq_true] at h
    obtain ⟨k1,k2⟩:=h
    refine .inr ⟨?_,fun j hj=>?_⟩
    ·cases ha:as[i]? with
     |none=>rw [ha] at k1;cases k1
     |some a=>
      rw [ha] at k1
      obtain ⟨d,op,g⟩:=a
      cases op<;>simp only at k1<;>first|(cases k1;done)|skip
      all_goals
       cases g with
       |some g=>simp at k1
       |none=>exact ⟨_,_,rfl,rfl⟩
    ·have:=List.all_eq_true.1 k2 j (List.mem_range.2 hj)
     rw [Bool.or_eq_true] at this
     rcases this with h|h
     ·exact .inl (by simpa using h)
     ·cases ha:as[j]? with
      |none=>rw [ha] at h;cases h
      |some a=>
       rw [ha] at h
       simp only [Bool.and_eq_true] at h
       exact .inr ⟨a,rfl,h.1,h.2⟩
 ·have hj:j<all.size:=(Array.getElem?_eq_some_iff.1 hoj).1
  have h6:=List.all_eq_true.1 h5 j (List.mem_range.2 hj)
  simp only [hoj,Bool.or_eq_true] at h6
  rcases h6 with h6|h6
  ·exact absurd (by simpa using h6) hne
  ·simp only [Bool.and_eq_true] at h6
   refine ⟨fun d e hd he=>?_,fun d hd hl=>?_⟩
   ·have:=h6.1
    rw [hd,he] at this
    simpa using this
   ·have h7:=h6.2
    rw [hd] at h7
    simp only [Bool.or_eq_true,Bool.and_eq_true,decide_eq_true_eq] at h7
    rcases h7 with (h7|h7)|h7
    ·simp at h7
     exact absurd hl h7
    ·exact .inl ⟨h7.1,by simpa using h7.2⟩
    ·exact .inr ⟨h7.1,by simpa using h7.2⟩
def Closed (all:Array Oper) (listed:Array Bool):Prop:= ∀(i:Nat) (o:Oper),all[i]? =some o→listed.getD i false=true→ ∀e∈o.after,Region.binds .any e=true→listed.getD e.on false=true
theorem closed_clos (hd: ∀(i:Nat) (o:Oper),all[i]? =some o→DOk all as m i o) {listed:Array Bool} (hs:listed.size=all.size) (hc:Closed all listed): ∀(i:Nat),listed.getD i false=true→ ∀j,j∈(closL all.toList).getD i []→listed.getD j false=true:=by
 intro i
 induction i using Nat.strongRecOn with
 | _ i ih=>
  intro hi j hj
  have hlt:i<all.size:=by
   rcases Nat.lt_or_ge i listed.size with h|h
   ·omega
   ·simp [Array.getElem?_eq_none h] at hi
  obtain ⟨o,ho⟩: ∃o,all[i]? =some o:=⟨_,Array.getElem?_eq_getElem hlt⟩
  obtain ⟨e,he,hb,hor⟩:=closL_get all.toList (by simpa using ho) hj
  have he':e∈o.after:=by simpa using he
  have hon:=hc i o ho hi e he' hb
  rcases hor with rfl|h
  ·exact hon
  ·exact ih e.on ((hd i o ho).edges e he' hb) hon j h
theorem ready_clos (hd: ∀(i:Nat) (o:Oper),all[i]? =some o→DOk all as m i o) {listed:Array Bool} (hs:listed.size=all.size) (hc:Closed all listed) {i:Nat} {o:Oper} (ho:all[i]? =some o) (hr: ∀e∈o.after,Region.binds .any e=true→listed.getD e.on false=true):
  ∀j,j∈(closL all.toList).getD i []→listed.getD j false=true:=by
 intro j hj
 obtain ⟨e,he,hb,hor⟩:=closL_get all.toList (by simpa using ho) hj
 have he':e∈o.after:=by simpa using he
 have hon:=hr e he' hb
 rcases hor with rfl|h
 ·exact hon
 ·exact closed_clos hd hs hc e.on hon j h
theorem Ext.refl (H:AHeap):Ext H H:=⟨Nat.le_refl _,fun _ _=>rfl⟩
theorem Ext.trans {H1 H2:AHeap} (h:Ext H H1) (k:Ext H1 H2):Ext H H2:=⟨Nat.le_trans h.n k.n,fun b hb=>(k.get b (Nat.lt_of_lt_of_le hb h.n)).trans (h.get b hb)⟩
theorem rep_false (n i:Nat): ¬(Array.replicate n false).getD i false=true:=by
 unfold Array.getD
 split
 ·simp
 ·simp
theorem append_keeps {e bytes:Nat} {sl x:Opd} {ρ:Opd→Value} {H H1:AHeap} {v:Value} {b:Nat} (h:aOp (.append e bytes sl x) ρ H=some (v,H1)) (hb:b<H.n) (hne: ∀b',blkOf (ρ sl)=some b'→b≠b'):H1.get b=H.get b:=by
 have hal: ∀(H:AHeap) cs,b<H.n→(H.alloc cs).get b=H.get b:=fun H cs hb=>by
  show (if b=H.n then _ else _)=_
  rw [if_neg (by omega)]
 simp only [aOp,aAppend] at h
 generalize ρ sl=vs at h hne
 generalize ρ x=vx at h
 split at h
 ·split at h
  ·cases h
  ·split at h
   ·cases h
   ·split at h
    ·split at h
     ·cases h;rfl
     ·split at h
      ·cases h;exact hal _ _ hb
      ·cases h
    ·rename_i b' l e'
     split at h
     ·cases h
     ·split at h
      ·split at h
       ·cases h
        rw [hal (H.kill b') _ hb]
        show (if b=b' then _ else _)=_
        rw [if_neg (hne b' rfl)]
       ·cases h
      ·cases h
    ·cases h
 ·cases h
theorem draw_ops (hch:SChain Pr μ φ (some m) (convL all as m) f H f' H') (htr:optL (trOper Pr μ φ nt all) all.toList=some as) (hok:drawOk all as m=true) (hm:m≤all.size) {β0:Ren} {a0:Act} {w0:World} (hR0:Rel φ β0 H w0) (hf0:FRel φ β0 nt f a0)
  (hfr0: ∀b,H.n≤b→b<H'.n→β0 b=none) (hd0:a0.defers=[]) (Q:Exit→Act→World→Prop) (hQ: ∀β' a' w',Good φ β0 H w0 β' H' w'→FRel φ β' nt f' a'→a'.defers=[]→Q .normal a' w'):
  wpAny Pr .any all Q all.size (Array.replicate all.size false) a0 w0:=by
 have hD: ∀(i:Nat) (o:Oper),all[i]? =some o→DOk all as m i o:=fun i o ho=>drawOk_some hok ho
 obtain ⟨F,G,hF0,hG0,hFn,hGn,hsteps'⟩:=chain_seq (convL all as m) m f H hch
 have hlen:as.length=all.size:=by simpa using optL_len htr
 have hlen2:(convL all as m).length=all.size:=by simpa [convL] using hlen
 rw [hlen2] at hFn hGn
 have hconv: ∀(i:Nat) (ao:AOper),as[i]? =some ao→(convL all as m)[i]? =some (if i<m then ao else convO ((closL all.toList).getD i []) as m ao):=fun i ao h=>by simp [convL,h]
 have hsteps: ∀(i:Nat) (ao:AOper),as[i]? =some ao→(SimOne Pr μ φ ao (F i) (G i) (F (i+1)) (G (i+1))∧Fact Pr μ φ ao (F i) (G i) (F (i+1)) (G (i+1)))∧(i<m→Ext (G i) (G (i+1))):=fun i ao h=>by
  obtain ⟨h1,h2⟩:=hsteps' i _ (hconv i ao h)
  by_cases hi:i<m
  ·rw [if_pos hi] at h1
   exact ⟨h1,h2⟩
  ·rw [if_neg hi] at h1
   exact ⟨conv_sim h1,h2⟩
 have hV: ∀i,∃v,∀(o:Oper),all[i]? =some o→ ∃ao,(trOper Pr μ φ nt all o=some ao∧as[i]? =some ao)∧ao.dst=o.dst∧(∀d,o.dst=some d→d<nt)∧(G i).n≤(G (i+1)).n∧(Fin (G i)→Fin (G (i+1)))∧F (i+1)=updO (F i) o.dst v∧(i<m→Ext (G i) (G (i+1)))∧
   ∀(β:Ren) (a:Act) (w:World),Rel φ β (G i) w→LRel φ β all o (F i) a→nt≤a.tmps.size→(∀b,(G i).n≤b→b<(G (i+1)).n→β b=none)→a.defers=[]→
   ∀(Q:Exit→Act→World→Prop) (K:Act→World→Prop),(∀β' v' w',Good φ β (G i) w β' (G (i+1)) w'→VR φ β' v v'→K (a.put o.dst v') w')→
    if Region.wanted o (yielded all a.tmps) then o.wp Pr a w K Q else K (a.put o.dst undef) w:=by
  intro i
  cases ho:all[i]? with
  |none=>exact ⟨undef,fun o h=>by cases h⟩
  |some o=>
   obtain ⟨ao,hao,htro⟩:=optL_at htr (i:=i) (a:=o) (by simpa using ho)
   obtain ⟨⟨⟨h1,h2,v,h3,h4⟩,_⟩,h5⟩:=hsteps i ao hao
   obtain ⟨_,_,hdst,hlt⟩:=trOper_some htro
   refine ⟨v,fun o' h=>?_⟩
   cases h
   exact ⟨ao,⟨htro,hao⟩,hdst,hlt,h1,h2,by rw [h3,hdst],h5,h4 nt all o htro⟩
 obtain ⟨V,hV⟩:=Classical.axiomOfChoice hV
 have hdst1: ∀(i j:Nat) (oi oj:Oper) (t:Nat),all[i]? =some oi→all[j]? =some oj→oi.dst=some t→oj.dst=some t→i=j:=by
  intro i j oi oj t hi hj h1 h2
  rcases Nat.decEq i j with h|h
  ·exact absurd rfl (((hD i oi hi).pairs j oj hj h).1 t t h1 h2)
  ·exact h
 have hFF: ∀i,i≤all.size→ ∀t,(∃(j:Nat) (oj:Oper),j<i∧all[j]? =some oj∧oj.dst=some t∧F i t=V j)∨((∀(j:Nat) (oj:Oper),j<i→all[j]? =some oj→oj.dst≠some t)∧F i t=f t):=by
  intro i
  induction i with
  |zero=>intro _ t;exact .inr ⟨fun j oj h=>by omega,by rw [hF0]⟩
  |succ i ih=>
   intro hi t
   have hoi:all[i]? =some all[i]:=Array.getElem?_eq_getElem (by omega)
   obtain ⟨ao,_,_,_,_,_,h6,_⟩:=hV i _ hoi
   by_cases hdt:all[i].dst=some t
   ·refine .inl ⟨i,all[i],by omega,hoi,hdt,?_⟩
    rw [h6,hdt]
    exact upd_same _ _ _
   ·have hFi:F (i+1) t=F i t:=by
     rw [h6]
     cases hdd:all[i].dst with
     |none=>rfl
     |some d=>
      refine upd_ne _ _ _ _ fun e=>hdt ?_
      rw [hdd,e]
    rcases ih (by omega) t with ⟨j,oj,h1,h2,h3,h4⟩|⟨h1,h2⟩
    ·exact .inl ⟨j,oj,by omega,h2,h3,by rw [hFi,h4]⟩
    ·refine .inr ⟨fun j oj hj hoj=>?_,by rw [hFi,h2]⟩
     rcases Nat.lt_or_ge j i with h|h
     ·exact h1 j oj h hoj
     ·obtain rfl:j=i:=by omega
      rw [hoi] at hoj
      cases hoj
      exact hdt
 have hGmono: ∀i,i≤all.size→ ∀j,j≤i→(G j).n≤(G i).n:=by
  intro i
  induction i with
  |zero=>
   intro _ j hj
   obtain rfl:j=0:=by omega
   exact Nat.le_refl _
  |succ i ih=>
   intro hi j hj
   have hoi:all[i]? =some all[i]:=Array.getElem?_eq_getElem (by omega)
   obtain ⟨ao,_,_,_,h4,_⟩:=hV i _ hoi
   rcases Nat.lt_or_ge j (i+1) with h|h
   ·exact Nat.le_trans (ih (by omega) j (by omega)) h4
   ·obtain rfl:j=i+1:=by omega
    exact Nat.le_refl _
 have hGfin: ∀i,i≤all.size→Fin (G i):=by
  intro i
  induction i with
  |zero=>intro _;rw [hG0];exact hR0.fin
  |succ i ih=>
   intro hi
   have hoi:all[i]? =some all[i]:=Array.getElem?_eq_getElem (by omega)
   obtain ⟨ao,_,_,_,_,h5,_⟩:=hV i _ hoi
   exact h5 (ih (by omega))
 have hGext: ∀i,i≤m→ ∀j,j≤i→Ext (G j) (G i):=by
  intro i
  induction i with
  |zero=>
   intro _ j hj
   obtain rfl:j=0:=by omega
   exact .refl _
  |succ i ih=>
   intro hi j hj
   have hoi:all[i]? =some all[i]:=Array.getElem?_eq_getElem (by omega)
   obtain ⟨ao,_,_,_,_,_,_,h7,_⟩:=hV i _ hoi
   rcases Nat.lt_or_ge j (i+1) with h|h
   ·exact (ih (by omega) j (by omega)).trans (h7 (by omega))
   ·obtain rfl:j=i+1:=by omega
    exact .refl _
 have hfin_lt: ∀i,i≤all.size→ ∀b blk,(G i).get b=some blk→b<(G i).n:=fun i hi b blk h=>by
  rcases Nat.lt_or_ge b (G i).n with h1|h1
  ·exact h1
  ·rw [hGfin i hi b h1] at h;cases h
 have htgt: ∀(i s:Nat),i<m→m≤s→s<all.size→i∉(closL all.toList).getD s []→ ∃a,as[i]? =some a∧floatA a=true∧keptA as i s a=true∧ ∀x b,flopd a=some x→b<(G s).n→blkOf (ev (F s) x)=some b→(G (s+1)).get b=(G s).get b:=by
  intro i s him hms hs hno
  have hos:all[s]? =some all[s]:=Array.getElem?_eq_getElem hs
  rcases (hD s _ hos).bar hms with h|⟨⟨d,op,has,hop⟩,h⟩
  ·exact absurd (h i him) hno
  ·rcases h i him with h|⟨a,ha,hfl,hk⟩
   ·exact absurd h hno
   ·refine ⟨a,ha,hfl,hk,fun y b hy hbn hb=>?_⟩
    obtain ⟨hst,_⟩:=hsteps' s _ (hconv s _ has)
    rw [if_neg (by omega)] at hst
    have hmem:y∈flOf as ((closL all.toList).getD s []) m:=by
     unfold flOf
     refine List.mem_filterMap.2 ⟨i,List.mem_range.2 him,?_⟩
     rw [if_neg (by simpa using hno),ha]
     exact hy
    have hall: ¬((List.range m).all fun j=>((closL all.toList).getD s []).contains j)=true:=fun hall=>hno (by simpa using List.all_eq_true.1 hall i (List.mem_range.2 him))
    have hpure: ∀{r:Value×AHeap},aOp op (ev (F s)) (G s)=some r→Ext (G s) r.2→ ∀{v:Value},some r=some (v,G (s+1))→(G (s+1)).get b=(G s).get b:=by
     intro r _ hx v he
     cases he
     exact hx.get b hbn
    cases op with
    |store n x v=>
     have hc:convO ((closL all.toList).getD s []) as m ⟨d, .store n x v,none⟩=⟨d, .storeF n x v (flOf as ((closL all.toList).getD s []) m),none⟩:=by
      unfold convO
      simp only
      rw [if_neg hall]
     obtain ⟨_,hfact,_⟩:=hst
     rw [hc] at hfact
     obtain ⟨w,h1,_⟩:=hfact rfl rfl
     obtain ⟨h2,h3⟩:=storeF_store h1
     have h4:=h3 y hmem
     simp only [aOp] at h2
     split at h2
     ·rename_i b' o hx
      split at h2
      ·rename_i blk hb' hk2
       split at h2
       ·simp only [Option.some.injEq,Prod.mk.injEq] at h2
        rw [hx] at h4
        simp only [flok,blkOf,Bool.not_eq_true',beq_eq_false_iff_ne] at h4
        replace h4:blkOf (ev (F s) y)≠some b':=h4
        rw [←h2.2]
        show (if b=b' then _ else _)=_
        rw [if_neg fun e=>h4 (by rw [hb,e])]
       ·cases h2
      ·cases h2
     ·cases h2
    |append e bytes sl x=>
     have hc:convO ((closL all.toList).getD s []) as m ⟨d, .append e bytes sl x,none⟩=⟨d, .appendF e bytes sl x (flOf as ((closL all.toList).getD s []) m),none⟩:=by
      unfold convO
      simp only
      rw [if_neg hall]
     obtain ⟨_,hfact,_⟩:=hst
     rw [hc] at hfact
     obtain ⟨w,h1,_⟩:=hfact rfl rfl
     obtain ⟨h2,h3⟩:=appendF_append h1
     have h4:=h3 y hmem
     exact append_keeps h2 hbn fun b' e=>by
      rw [flokS,e] at h4
      simp only [Bool.not_eq_true',beq_eq_false_iff_ne] at h4
      intro e2
      exact h4 (by rw [hb,e2])
    |call g xs=>
     have hc:convO ((closL all.toList).getD s []) as m ⟨d, .call g xs,none⟩=⟨d, .callF g xs (flOf as ((closL all.toList).getD s []) m),none⟩:=by
      unfold convO
      simp only
      rw [if_neg hall]
     obtain ⟨_,hfact⟩:=hst
     rw [hc] at hfact
     exact (hfact.2.2 g xs _ rfl).2 y hmem b hbn hb
    |move x=>
     obtain ⟨w,h1,_⟩:=(hsteps s _ has).1.2.1 rfl rfl
     simp only [aOp,Option.some.injEq,Prod.mk.injEq] at h1
     rw [←h1.2]
    |bin o x z=>
     obtain ⟨w,h1,_⟩:=(hsteps s _ has).1.2.1 rfl rfl
     simp only [aOp] at h1
     obtain ⟨_,_,h1⟩:=map_some_inj h1
     simp only [Prod.mk.injEq] at h1
     rw [←h1.2]
    |min xs=>
     obtain ⟨w,h1,_⟩:=(hsteps s _ has).1.2.1 rfl rfl
     simp only [aOp] at h1
     obtain ⟨_,_,h1⟩:=map_some_inj h1
     simp only [Prod.mk.injEq] at h1
     rw [←h1.2]
    |max xs=>
     obtain ⟨w,h1,_⟩:=(hsteps s _ has).1.2.1 rfl rfl
     simp only [aOp] at h1
     obtain ⟨_,_,h1⟩:=map_some_inj h1
     simp only [Prod.mk.injEq] at h1
     rw [←h1.2]
    | _=>cases hop
 have hFlate: ∀(s t j:Nat) (oj:Oper),s≤all.size→j<s→all[j]? =some oj→oj.dst=some t→F s t=V j:=by
  intro s t j oj hs hj hoj hdt
  rcases hFF s hs t with ⟨j',oj',h1,h2,h3,h4⟩|⟨h1,_⟩
  ·obtain rfl:=hdst1 j j' oj oj' t hoj h2 hdt h3
   exact h4
  ·exact absurd hdt (h1 j oj hj hoj)
 have has_dst: ∀(k:Nat) (ok:Oper) (a:AOper),all[k]? =some ok→as[k]? =some a→a.dst=ok.dst:=by
  intro k ok a hk ha
  obtain ⟨ao,⟨_,h1⟩,h2,_⟩:=hV k ok hk
  rw [ha] at h1
  cases h1
  exact h2
 have hFkeep: ∀(i s:Nat) (a:AOper) (n:Option Nat) (x:Opd),i<s→s≤all.size→as[i]? =some a→a.op= .load n x→keptA as i s a=true→ev (F s) x=ev (F i) x:=by
  intro i s a n x his hs ha ho hk
  cases x with
  |c v=>rfl
  |f g=>rfl
  |t t=>
   show F s t=F i t
   unfold keptA at hk
   rw [ho] at hk
   simp only at hk
   have hno: ∀(k:Nat) (ok:Oper),i≤k→k<s→all[k]? =some ok→ok.dst≠some t:=by
    intro k ok h1 h2 hok e
    have:=List.all_eq_true.1 hk k (List.mem_range.2 h2)
    rw [Bool.or_eq_true] at this
    rcases this with h|h
    ·have:=of_decide_eq_true h;omega
    ·cases hak:as[k]? with
     |none=>rw [List.getElem?_eq_none_iff] at hak;have:=(Array.getElem?_eq_some_iff.1 hok).1;omega
     |some ak=>
      rw [hak] at h
      have:=has_dst k ok ak hok hak
      rw [e] at this
      simp [this] at h
   rcases hFF s hs t with ⟨j,oj,h1,h2,h3,h4⟩|⟨h1,h2⟩
   ·rcases Nat.lt_or_ge j i with hji|hji
    ·rw [h4,hFlate i t j oj (by omega) hji h2 h3]
    ·exact absurd h3 (hno j oj hji h1 h2)
   ·rcases hFF i (by omega) t with ⟨j,oj,k1,k2,k3,k4⟩|⟨k1,k2⟩
    ·exact absurd k3 (h1 j oj (by omega) k2)
    ·rw [h2,k2]
 let M:Nat→Nat→AHeap:=fun q i=>⟨(G i).n,fun b=>if b<(G i).n then (G q).get b else none⟩
 have hMsim: ∀(q i:Nat) (o:Oper),m≤q→q≤all.size→i<m→all[i]? =some o→(∀s,m≤s→s<q→i∉(closL all.toList).getD s [])→
   ∀(ao:AOper),as[i]? =some ao→SimOne Pr μ φ ao (F i) (M q i) (F (i+1)) (M q (i+1)):=by
  intro q i o hmq hq him ho hnos ao hao
  have hGim:=hGext m (Nat.le_refl _) i (by omega)
  have hGi1m:=hGext m (Nat.le_refl _) (i+1) (by omega)
  have hi:i<all.size:=by omega
  by_cases hqm:q=m
  ·subst hqm
   have e1:M q i=G i:=by
    show (⟨(G i).n,fun b=>if b<(G i).n then (G q).get b else none⟩:AHeap)=G i
    have:(fun b=>if b<(G i).n then (G q).get b else none)=(G i).get:=by
     funext b
     by_cases h:b<(G i).n
     ·rw [if_pos h];exact hGim.get b h
     ·rw [if_neg h];exact (hGfin i (by omega) b (by omega)).symm
    rw [this]
   have e2:M q (i+1)=G (i+1):=by
    show (⟨(G (i+1)).n,fun b=>if b<(G (i+1)).n then (G q).get b else none⟩:AHeap)=G (i+1)
    have:(fun b=>if b<(G (i+1)).n then (G q).get b else none)=(G (i+1)).get:=by
     funext b
     by_cases h:b<(G (i+1)).n
     ·rw [if_pos h];exact hGi1m.get b h
     ·rw [if_neg h];exact (hGfin (i+1) (by omega) b (by omega)).symm
    rw [this]
   rw [e1,e2]
   exact (hsteps i ao hao).1.1
  ·obtain ⟨a,ha,hfl,_,_⟩:=htgt i m him (Nat.le_refl _) (by omega) (hnos m (Nat.le_refl _) (by omega))
   rw [hao] at ha
   cases ha
   have hsame: ∀b,b<(G m).n→(∀s,m≤s→s<q→ ∃x,flopd ao=some x∧blkOf (ev (F s) x)=some b)→ ∀q',m≤q'→q'≤q→(G q').get b=(G m).get b:=by
    intro b hbm hb q'
    induction q' with
    |zero=>
     intro h1 h2
     obtain rfl:m=0:=by omega
     rfl
    |succ s ih=>
     intro h1 h2
     rcases Nat.lt_or_ge s m with h|h
     ·obtain rfl:m=s+1:=by omega
      rfl
     ·rw [←ih h (by omega)]
      obtain ⟨a,ha,_,_,hkeep⟩:=htgt i s him h (by omega) (hnos s h (by omega))
      rw [hao] at ha
      cases ha
      obtain ⟨x,hx,hbx⟩:=hb s h (by omega)
      have:=hGmono s (by omega) m h
      exact hkeep x b hx (by omega) hbx
   obtain ⟨d,op,g⟩:=ao
   have hg:g=none:=by
    cases g with
    |none=>rfl
    |some g=>simp [floatA] at hfl
   subst hg
   obtain ⟨⟨_,hfact,_⟩,hext⟩:=hsteps i _ hao
   have hext:=hext him
   have hnc:callA op=false:=by
    cases op<;>first|rfl|simp [floatA] at hfl
   obtain ⟨v,hop,hF1⟩:=hfact rfl hnc
   have hkept: ∀s,m≤s→s<q→keptA as i s ⟨d,op,none⟩=true:=by
    intro s h1 h2
    obtain ⟨a,ha,_,hk,_⟩:=htgt i s him h1 (by omega) (hnos s h1 h2)
    rw [hao] at ha
    cases ha
    exact hk
   have hload: ∀n x,op= .load n x→ ∀b,blkOf (ev (F i) x)=some b→(M q i).get b=(G i).get b:=by
    intro n x ho' b hb
    have hbl:b<(G i).n:=by
     subst ho'
     simp only [aOp] at hop
     split at hop
     ·rename_i b' o' hx
      rw [hx] at hb
      simp only [blkOf,Option.some.injEq] at hb
      subst hb
      split at hop
      ·rename_i blk hgb
       exact hfin_lt i (by omega) _ _ hgb
      ·cases hop
     ·cases hop
    show (if b<(G i).n then (G q).get b else none)=_
    rw [if_pos hbl,hsame b (by have:=hGmono m hm i (by omega);omega) (fun s h1 h2=>⟨x,by rw [ho'];rfl,by rw [hFkeep i s _ n x (by omega) (by omega) hao ho' (hkept s h1 h2)];exact hb⟩) q hmq (Nat.le_refl _)]
    exact hGim.get b hbl
   rcases float_op (M:=M q i) hfl hop rfl hload with ⟨h1,h2⟩|⟨cs,dd,h1,h2,h3,h4,h5⟩
   ·have e:M q (i+1)=M q i:=by
     show (⟨(G (i+1)).n,fun b=>if b<(G (i+1)).n then (G q).get b else none⟩:AHeap)=⟨(G i).n,fun b=>if b<(G i).n then (G q).get b else none⟩
     rw [h1]
    rw [e,hF1]
    exact sim_op rfl h2
   ·have hn1:(G (i+1)).n=(G i).n+1:=by rw [h1];rfl
    have hget:(G q).get (G i).n=some ⟨cs,true⟩:=by
     rw [hsame (G i).n (by have:=hGmono m hm (i+1) (by omega);omega) (fun s k1 k2=>⟨.t dd,h5,?_⟩) q hmq (Nat.le_refl _)]
     ·rw [hGi1m.get _ (by omega),h1]
      simp [AHeap.alloc]
     ·show blkOf (F s dd)=_
      have hod:o.dst=some dd:=by
       have:=has_dst i o _ ho hao
       rw [←this];exact h4
      have hVi:F (i+1) dd=v:=by
       rw [hF1,h4]
       exact upd_same _ _ _
      rw [hFlate s dd i o (by omega) (by omega) ho hod,←hFlate (i+1) dd i o (by omega) (by omega) ho hod,hVi]
      exact h3
    have e:M q (i+1)=(M q i).alloc cs:=by
     show (⟨(G (i+1)).n,fun b=>if b<(G (i+1)).n then (G q).get b else none⟩:AHeap)=⟨(G i).n+1,fun b=>if b=(G i).n then some ⟨cs,true⟩ else if b<(G i).n then (G q).get b else none⟩
     rw [hn1]
     congr 1
     funext b
     by_cases hb:b=(G i).n
     ·subst hb;rw [if_pos (by omega),if_pos rfl,hget]
     ·rw [if_neg hb]
      by_cases hb2:b<(G i).n
      ·rw [if_pos (by omega),if_pos hb2]
      ·rw [if_neg (by omega),if_neg hb2]
    rw [e,hF1]
    exact sim_op rfl h2
 have hsz: ∀(listed:Array Bool),listed.size=all.size→ ∀i,listed.getD i false=true→i<all.size:=fun listed hs i hi=>by
  rcases Nat.lt_or_ge i listed.size with h|h
  ·omega
  ·simp [Array.getElem?_eq_none h] at hi
 let PA:Array Bool→Nat→Act→World→Prop:=fun listed q a w=> ∃β,nt≤a.tmps.size∧a.defers=[]∧
  (∀t,(∃(j:Nat) (oj:Oper),listed.getD j false=true∧all[j]? =some oj∧oj.dst=some t∧VR φ β (V j) (a.tmps.getD t undef))∨((∀(j:Nat) (oj:Oper),listed.getD j false=true→all[j]? =some oj→oj.dst≠some t)∧VR φ β (f t) (a.tmps.getD t undef)))∧
  Rel φ β (G q) w∧(∀b L,β b=some L→β0 b=some L∨ ∃j,listed.getD j false=true∧(G j).n≤b∧b<(G (j+1)).n)∧Frm β0 H w0 β (G q) w∧(∀b L,β b=some L→L.size<L.base→ ∀j,j≤all.size→b<(G j).n→b+1<(G j).n∧β (b+1)=none)
 let Inv:Array Bool→Act→World→Prop:=fun listed a w=>listed.size=all.size∧Closed all listed∧ ∃q,m≤q∧q≤all.size∧(∀i,m≤i→i<all.size→(listed.getD i false=true↔i<q))∧PA listed q a w
 have hend: ∀listed a w,Inv listed a w→(∀i,i<all.size→listed.getD i true=true)→Q .normal a w:=by
  rintro listed a w ⟨hs,hc,q,hmq,hq,hl,β,h1,h2,h3,h4,h5,h6,h7⟩ hall
  have hall': ∀i,i<all.size→listed.getD i false=true:=fun i hi=>by
   have:=hall i hi
   simpa [show i<listed.size by omega] using this
  have hqn:q=all.size:=by
   rcases Nat.lt_or_ge q all.size with h|h
   ·have:=(hl q hmq h).1 (hall' q h)
    omega
   ·omega
  subst hqn
  rw [hGn] at h4 h6
  refine hQ β a w ⟨h4,h6⟩ ⟨h1,fun t=>?_⟩ h2
  rw [←hFn]
  rcases h3 t with ⟨j,oj,k1,k2,k3,k4⟩|⟨k1,k2⟩
  ·rw [hFlate all.size t j oj (Nat.le_refl _) (hsz listed hs j k1) k2 k3]
   exact k4
  ·rcases hFF all.size (Nat.le_refl _) t with ⟨j,oj,q1,q2,q3,q4⟩|⟨q1,q2⟩
   ·exact absurd q3 (k1 j oj (hall' j q1) q2)
   ·rw [q2];exact k2
 have hstep: ∀listed a w (i:Nat) (o:Oper),Inv listed a w→all[i]? =some o→listed.getD i true=false→(∀e∈o.after,Region.binds .any e=true→listed.getD e.on false=true)→ ∀K:Act→World→Prop,(∀a' w',Inv (listed.setIfInBounds i true) a' w'→K a' w')→
   wpOp Pr all Q i K a w:=by
  rintro listed a w i o ⟨hs,hc,q,hmq,hq,hlq,β,k1,k2,k3,k4,k5,k6,k7⟩ ho hun hr K hK
  have hi:i<all.size:=(Array.getElem?_eq_some_iff.1 ho).1
  have hun': ¬listed.getD i false=true:=by
   have:listed.getD i false=listed.getD i true:=by simp [show i<listed.size by omega]
   rw [this,hun]
   simp
  obtain ⟨ao,⟨h1,hao⟩,h2,h3,h4,h5,h6,h7,hsim⟩:=hV i o ho
  have hclos:=ready_clos hD hs hc ho hr
  have hset: ∀j,(listed.setIfInBounds i true).getD j false=true↔(j=i∨listed.getD j false=true):=by
   intro j
   by_cases e:j=i
   ·subst e
    simp [show j<listed.size by omega]
   ·simp [Array.getElem?_setIfInBounds_ne (Ne.symm e),e]
  have hc':Closed all (listed.setIfInBounds i true):=by
   intro k ok hk hlk e he hb
   rw [hset]
   rcases (hset k).1 hlk with rfl|h
   ·rw [ho] at hk
    cases hk
    exact .inr (hr e he hb)
   ·exact .inr (hc k ok hk h e he hb)
  have hwpOp: ∀(K':Act→World→Prop),(if Region.wanted o (yielded all a.tmps) then o.wp Pr a w K' Q else K' (a.put o.dst undef) w)→wpOp Pr all Q i K' a w:=by
   intro K' hk
   unfold wpOp
   simp only [ho]
   split
   ·rename_i hw
    rw [if_pos hw] at hk
    exact .inl hk
   ·rename_i hw
    rw [if_neg hw] at hk
    exact hk
  have hlook:LRel φ β all o (F i) a:=by
   intro t ht
   rcases hFF i (by omega) t with ⟨j,oj,q1,q2,q3,q4⟩|⟨q1,q2⟩
   ·
    have hlj:listed.getD j false=true:=by
     rcases ((hD i o ho).pairs j oj q2 (by omega)).2 t q3 ht with ⟨r1,r2⟩|⟨r1,r2⟩
     ·exact hclos j r2
     ·omega
    rcases k3 t with ⟨j',oj',r1,r2,r3,r4⟩|⟨r1,r2⟩
    ·obtain rfl:=hdst1 j j' oj oj' t q2 r2 q3 r3
     rw [q4]
     exact r4
    ·exact absurd q3 (r1 j oj hlj q2)
   ·rw [q2]
    rcases k3 t with ⟨j',oj',r1,r2,r3,r4⟩|⟨r1,r2⟩
    ·exfalso
     have hji:i≠j':=fun e=>hun' (e▸r1)
     have hnl: ¬j'<i:=fun h=>q1 j' oj' h r2 r3
     rcases ((hD i o ho).pairs j' oj' r2 hji).2 t r3 ht with ⟨s1,s2⟩|⟨s1,s2⟩
     ·omega
     ·exact hun' (closed_clos hD hs hc j' r1 i s2)
    ·exact r2
  have hfresh: ∀b,(G i).n≤b→b<(G (i+1)).n→β b=none:=by
   intro b hb1 hb2
   cases hb:β b with
   |none=>rfl
   |some L=>
    rcases k5 b L hb with q|⟨j,q1,q2,q3⟩
    ·rw [hfr0 b (by have:=hGmono i (by omega) 0 (by omega);rw [hG0] at this;omega) (by have:=hGmono all.size (Nat.le_refl _) (i+1) (by omega);rw [hGn] at this;omega)] at q
     cases q
    ·have hjm:=hsz listed hs j q1
     have hji:j≠i:=fun e=>hun' (e▸q1)
     rcases Nat.lt_or_ge j i with h|h
     ·have:=hGmono i (by omega) (j+1) (by omega)
      omega
     ·have:=hGmono j (by omega) (i+1) (by omega)
      omega
  have hk7: ∀(β':Ren) (M1 M2:AHeap) (w':World),M1.n=(G i).n→M2.n=(G (i+1)).n→Good φ β M1 w β' M2 w'→ ∀b L,β' b=some L→L.size<L.base→ ∀j,j≤all.size→b<(G j).n→b+1<(G j).n∧β' (b+1)=none:=by
   intro β' M1 M2 w' e1 e2 hg b L hb hlt j hj hbj
   rcases hg.2.new b L hb with r|⟨r1,r2⟩
   ·obtain ⟨s1,s2⟩:=k7 b L r hlt j hj hbj
    refine ⟨s1,?_⟩
    cases hbb:β' (b+1) with
    |none=>rfl
    |some L1=>
     exfalso
     rcases hg.2.new (b+1) L1 hbb with t|⟨t1,t2⟩
     ·rw [s2] at t;cases t
     ·rw [e1] at t1
      rw [e2] at t2
      rcases Nat.lt_or_ge b (G i).n with h|h
      ·have:=(k7 b L r hlt i (by omega) h).1
       omega
      ·rw [hfresh b h (by omega)] at r
       cases r
   ·rw [e1] at r1
    obtain ⟨h9,h10⟩:=hg.1.mapn b L hb hlt r2
    rw [e2] at h9
    refine ⟨?_,h10⟩
    rcases Nat.lt_or_ge i j with h|h
    ·have:=hGmono j hj (i+1) (by omega)
     omega
    ·have:=hGmono i (by omega) j h
     omega
  have hframe: ∀(β':Ren) (v v':Value),(∀b L,β b=some L→β' b=some L)→(∀d,o.dst=some d→VR φ β' (V i) v')→ ∀t,(∃(j:Nat) (oj:Oper),(listed.setIfInBounds i true).getD j false=true∧all[j]? =some oj∧oj.dst=some t∧VR φ β' (V j) ((a.put o.dst v').tmps.getD t undef))∨((∀(j:Nat) (oj:Oper),(listed.setIfInBounds i true).getD j false=true→all[j]? =some oj→oj.dst≠some t)∧VR φ β' (f t) ((a.put o.dst v').tmps.getD t undef)):=by
   intro β' v v' hext hv t
   have hput:(a.put o.dst v').tmps.getD t undef=if o.dst=some t then v' else a.tmps.getD t undef:=by
    cases hod:o.dst with
    |none=>simp [Act.put]
    |some d=>
     rw [put_getD a d v' (Nat.lt_of_lt_of_le (h3 d hod) k1)]
     by_cases e:t=d
     ·subst e;simp
     ·rw [if_neg e,if_neg (fun h=>e (by cases h;rfl))]
   rw [hput]
   by_cases hdt:o.dst=some t
   ·rw [if_pos hdt]
    exact .inl ⟨i,o,(hset i).2 (.inl rfl),ho,hdt,hv t hdt⟩
   ·rw [if_neg hdt]
    rcases k3 t with ⟨j',oj',r1,r2,r3,r4⟩|⟨r1,r2⟩
    ·exact .inl ⟨j',oj',(hset j').2 (.inr r1),r2,r3,r4.mono hext⟩
    ·refine .inr ⟨fun j oj hj hoj=>?_,r2.mono hext⟩
     rcases (hset j).1 hj with rfl|h
     ·rw [ho] at hoj
      cases hoj
      exact hdt
     ·exact r1 j oj h hoj
  have hput_sz: ∀v',nt≤(a.put o.dst v').tmps.size:=fun v'=>by cases hod:o.dst<;>simp [Act.put]<;>exact k1
  by_cases hmi:m≤i
  ·
   have hiq:i=q:=by
    rcases Nat.lt_or_ge i q with h|h
    ·exact absurd ((hlq i hmi hi).2 h) hun'
    ·rcases Nat.lt_or_ge q i with h'|h'
     ·have:=(hlq q hmq (by omega)).1 (hclos q ((hD i o ho).seq hmi q hmq h'))
      omega
     ·omega
   subst hiq
   refine hwpOp K (hsim β a w k4 hlook k1 hfresh k2 Q K fun β' v' w' hg hv=>hK _ _ ⟨by simp [hs],hc',i+1,by omega,by omega,fun k hk1 hk2=>?_,β',hput_sz v',by rw [put_def];exact k2,hframe β' undef v' hg.2.ext (fun _ _=>hv),hg.1,?_,k6.trans hg.2,hk7 β' (G i) (G (i+1)) w' rfl rfl hg⟩)
   ·rw [hset,hlq k hk1 hk2]
    omega
   ·intro b L hb
    rcases hg.2.new b L hb with r|r
    ·rcases k5 b L r with r|⟨j,r1,r2,r3⟩
     ·exact .inl r
     ·exact .inr ⟨j,(hset j).2 (.inr r1),r2,r3⟩
    ·exact .inr ⟨i,(hset i).2 (.inl rfl),r.1,r.2⟩
  ·have him:i<m:=by omega
   have hnos: ∀s,m≤s→s<q→i∉(closL all.toList).getD s []:=fun s hs1 hs2 hmem=>by
    have hls:=(hlq s hs1 (by omega)).2 hs2
    exact hun' (closed_clos hD hs hc s hls i hmem)
   obtain ⟨_,_,v1,hF1,hsim'⟩:=hMsim q i o hmq hq him ho hnos ao hao
   have hvV: ∀d,o.dst=some d→v1=V i:=by
    intro d hd
    have e1:F (i+1) d=V i:=by rw [h6,hd];exact upd_same _ _ _
    have e2:F (i+1) d=v1:=by rw [hF1,h2,hd];exact upd_same _ _ _
    rw [←e1,e2]
   have hMn: ∀j,(M q j).n=(G j).n:=fun _=>rfl
   have hMget: ∀j b,b<(G j).n→(M q j).get b=(G q).get b:=fun j b hb=>if_pos hb
   have hMlt: ∀j b blk,(M q j).get b=some blk→b<(G j).n∧(G q).get b=some blk:=fun j b blk hb=>by
    rcases Nat.lt_or_ge b (G j).n with h|h
    ·exact ⟨h,by rw [←hMget j b h];exact hb⟩
    ·have:(M q j).get b=none:=if_neg (by omega)
     rw [this] at hb;cases hb
   have hGiq:(G (i+1)).n≤(G q).n:=hGmono q hq (i+1) (by omega)
   have hRi:Rel φ β (M q i) w:=by
    refine ⟨fun b blk L hb hL=>k4.cells b blk L (hMlt i b blk hb).2 hL,fun b b' blk blk' L L' hb hrw hb' hL hL' he=>k4.inj b b' blk blk' L L' (hMlt i b blk hb).2 hrw (hMlt i b' blk' hb').2 hL hL' he,fun b hb=>if_neg (by have:(G i).n≤b:=hb;omega),fun b L blk hL hlt hb=>?_,fun b L hL hlt hb=>k7 b L hL hlt i (by omega) hb⟩
    obtain ⟨s1,s2⟩:=hMlt i b blk hb
    obtain ⟨q1,q2,es,ck,q3,q4⟩:=k4.maps b L blk hL hlt s2
    have s3:=(k7 b L hL hlt i (by omega) s1).1
    exact ⟨q1,s3,es,ck,q3,fun gh hg h0=>q4 gh (hMlt i (b+1) gh hg).2 h0⟩
   refine hwpOp K (hsim' nt all o h1 β a w hRi hlook k1 hfresh k2 Q K fun β' v' w' hg hv=>hK _ _ ⟨by simp [hs],hc',q,hmq,hq,fun k hk1 hk2=>?_,β',hput_sz v',by rw [put_def];exact k2,hframe β' undef v' hg.2.ext (fun d hd=>by rw [←hvV d hd];exact hv),?_,?_,?_,hk7 β' (M q i) (M q (i+1)) w' rfl rfl hg⟩)
   ·rw [hset,←hlq k hk1 hk2]
    constructor
    ·rintro (h|h)
     ·omega
     ·exact h
    ·exact .inr
   ·
    have hold: ∀b L,β' b=some L→(G (i+1)).n≤b→β b=some L:=fun b L hb hge=>by
     rcases hg.2.new b L hb with r|r
     ·exact r
     ·have:b<(G (i+1)).n:=r.2
      omega
    have hnew: ∀b L b' blk' L',β' b=some L→β b=none→(G q).get b'=some blk'→β b'=some L'→(G (i+1)).n≤b'→L.g≠L'.g:=by
     intro b L b' blk' L' hb hb0 hb' hL' hge he
     rcases hg.2.newg b L hb hb0 with r|⟨b0,blk0,L0,q1,q2,q3,q4⟩
     ·have:=k4.lt hb' hL'
      omega
     ·have:=k4.inj b0 b' blk0 blk' L0 L' (hMlt i b0 blk0 q1).2 q2 hb' q3 hL' (q4.trans he)
      have hb0lt:=(hMlt i b0 blk0 q1).1
      omega
    refine ⟨fun b blk L hb hL hle=>?_,fun b b' blk blk' L L' hb hrw hb' hL hL' he=>?_,hGfin q hq,fun b L blk hL hlt hb=>?_,fun b L hL hlt hb=>hk7 β' (M q i) (M q (i+1)) w' rfl rfl hg b L hL hlt q hq hb⟩
    ·rcases Nat.lt_or_ge b (G (i+1)).n with h|h
     ·exact hg.1.cells b blk L (by rw [hMget (i+1) b h];exact hb) hL hle
     ·have hLo:=hold b L hL h
      obtain ⟨c,t,fr,q1,q2,q3,q4,q5⟩:=k4.cells b blk L hb hLo hle
      refine ⟨c,t,fr,?_,q2,q3,q4,fun k x hk=>?_⟩
      ·rw [hg.2.frame L.g (k4.lt hb hLo) (fun b0 blk0 L0 r1 r2 r3 r4=>?_)]
       ·exact q1
       ·have:=k4.inj b0 b blk0 blk L0 L (hMlt i b0 blk0 r1).2 r2 hb r3 hLo r4
        have hb0lt:=(hMlt i b0 blk0 r1).1
        omega
      ·obtain ⟨u,hu,hru⟩:=q5 k x hk
       exact ⟨u,hu,hru.mono hg.2.ext⟩
    ·rcases Nat.lt_or_ge b (G (i+1)).n with h|h<;>rcases Nat.lt_or_ge b' (G (i+1)).n with h'|h'
     ·exact hg.1.inj b b' blk blk' L L' (by rw [hMget (i+1) b h];exact hb) hrw (by rw [hMget (i+1) b' h'];exact hb') hL hL' he
     ·have hLo':=hold b' L' hL' h'
      cases hbb:β b with
      |some L1=>
       have:=hg.2.ext b L1 hbb
       rw [hL] at this
       cases this
       exact k4.inj b b' blk blk' L L' hb hrw hb' hbb hLo' he
      |none=>exact absurd he (hnew b L b' blk' L' hL hbb hb' hLo' h')
     ·have hLo:=hold b L hL h
      cases hbb:β b' with
      |some L1=>
       have:=hg.2.ext b' L1 hbb
       rw [hL'] at this
       cases this
       exact k4.inj b b' blk blk' L L' hb hrw hb' hLo hbb he
      |none=>exact absurd he.symm (hnew b' L' b blk L hL' hbb hb hLo h)
     ·exact k4.inj b b' blk blk' L L' hb hrw hb' (hold b L hL h) (hold b' L' hL' h') he
    ·have hbq:=hfin_lt q hq b blk hb
     rcases Nat.lt_or_ge b (G (i+1)).n with h|h
     ·obtain ⟨q1,q2,es,ck,q3,q4⟩:=hg.1.maps b L blk hL hlt (by rw [hMget (i+1) b h];exact hb)
      have q2':b+1<(G (i+1)).n:=q2
      exact ⟨q1,Nat.lt_of_lt_of_le q2' hGiq,es,ck,q3,fun gh hgg h0=>q4 gh (by rw [hMget (i+1) (b+1) q2'];exact hgg) h0⟩
     ·have hLo:=hold b L hL h
      obtain ⟨q1,q2,es,ck,q3,q4⟩:=k4.maps b L blk hLo hlt hb
      refine ⟨q1,q2,es,ck,?_,fun gh hgg h0=>q4 gh hgg ?_⟩
      ·rw [hg.2.frame L.g (k4.lt hb hLo) (fun b0 blk0 L0 r1 r2 r3 r4=>?_)]
       ·exact q3
       ·have:=k4.inj b0 b blk0 blk L0 L (hMlt i b0 blk0 r1).2 r2 hb r3 hLo r4
        have hb0lt:=(hMlt i b0 blk0 r1).1
        omega
      ·cases hbb:β (b+1) with
       |none=>rfl
       |some L1=>
        have:=hg.2.ext (b+1) L1 hbb
        rw [h0] at this
        cases this
   ·intro b L hb
    rcases hg.2.new b L hb with r|r
    ·rcases k5 b L r with r|⟨j,r1,r2,r3⟩
     ·exact .inl r
     ·exact .inr ⟨j,(hset j).2 (.inr r1),r2,r3⟩
    ·exact .inr ⟨i,(hset i).2 (.inl rfl),r.1,r.2⟩
   ·have hHn:H.n≤(G i).n:=by have:=hGmono i (by omega) 0 (by omega);rwa [hG0] at this
    have howned: ∀b0 blk0 L0,(M q i).get b0=some blk0→blk0.rw=true→β b0=some L0→w0.heap.size≤L0.g∨ ∃b1 blk1 L1,H.get b1=some blk1∧blk1.rw=true∧β0 b1=some L1∧L1.g=L0.g:=fun b0 blk0 L0 r1 r2 r3=>k6.own b0 blk0 L0 (hMlt i b0 blk0 r1).2 r2 r3
    have hnewown: ∀b L,β' b=some L→β b=none→w0.heap.size≤L.g∨ ∃b1 blk1 L1,H.get b1=some blk1∧blk1.rw=true∧β0 b1=some L1∧L1.g=L.g:=by
     intro b L hb hb0
     rcases hg.2.newg b L hb hb0 with r|⟨b0,blk0,L0,q1,q2,q3,q4⟩
     ·exact .inl (Nat.le_trans k6.size r)
     ·rcases howned b0 blk0 L0 q1 q2 q3 with r|⟨b1,blk1,L1,r1,r2,r3,r4⟩
      ·exact .inl (by omega)
      ·exact .inr ⟨b1,blk1,L1,r1,r2,r3,r4.trans q4⟩
    refine ⟨hg.2.os.trans k6.os,hg.2.tape.trans k6.tape,⟨hg.2.output.1.trans k6.output.1,Nat.le_trans k6.output.2 hg.2.output.2⟩,Nat.le_trans k6.size hg.2.size,fun r hr hn=>?_,fun b blk L hb hrw hL=>?_,fun b L hb=>hg.2.ext b L (k6.ext b L hb),fun b L hb=>?_,k6.n,fun b L hb h0=>?_⟩
    ·rw [hg.2.frame r (Nat.lt_of_lt_of_le hr k6.size) (fun b0 blk0 L0 r1 r2 r3 r4=>?_),k6.frame r hr hn]
     rcases howned b0 blk0 L0 r1 r2 r3 with r|⟨b1,blk1,L1,q1,q2,q3,q4⟩
     ·omega
     ·exact hn b1 blk1 L1 q1 q2 q3 (q4.trans r4)
    ·cases hbb:β b with
     |some L1=>
      have:=hg.2.ext b L1 hbb
      rw [hL] at this
      cases this
      exact k6.own b blk L hb hrw hbb
     |none=>exact hnewown b L hL hbb
    ·rcases hg.2.new b L hb with r|r
     ·exact k6.new b L r
     ·have r1:(G i).n≤b:=r.1
      have r2:b<(G (i+1)).n:=r.2
      exact .inr ⟨by omega,by omega⟩
    ·cases hbb:β b with
     |some L1=>
      have:=hg.2.ext b L1 hbb
      rw [hb] at this
      cases this
      exact k6.newg b L hbb h0
     |none=>exact hnewown b L hb hbb
 have hrun: ∀fuel listed a w,Inv listed a w→left_ all.size listed=fuel→wpAny Pr .any all Q fuel listed a w:=by
  intro fuel
  induction fuel with
  |zero=>
   intro listed a w hI hl
   have hall: ∀i,i<all.size→listed.getD i true=true:=fun i hi=>left_zero hl hi
   refine ⟨?_,hend listed a w hI hall⟩
   rw [List.eq_nil_iff_forall_not_mem]
   intro i hi
   obtain ⟨h1,o,ho,_⟩:=mem_ready.1 hi
   have:=hall i (Array.getElem?_eq_some_iff.1 ho).1
   rw [h1] at this
   cases this
  |succ fuel ih=>
   intro listed a w hI hl
   refine ⟨fun hnil=>hend listed a w hI fun i hi=>?_,fun i hi=>?_⟩
   ·
    have key: ∀i,i<all.size→listed.getD i true=true:=by
     intro i
     induction i using Nat.strongRecOn with
     | _ i ih2=>
      intro hi
      cases hq:listed.getD i true with
      |true=>rfl
      |false=>
       exfalso
       have hoi:all[i]? =some all[i]:=Array.getElem?_eq_getElem hi
       have hr:i∈Region.ready .any all listed:=mem_ready.2 ⟨hq,_,hoi,fun e he hb=>by
        have hon:=(hD i _ hoi).edges e he hb
        have:=ih2 e.on hon (by omega)
        simpa [show e.on<listed.size by rw [hI.1];omega] using this⟩
       rw [hnil] at hr
       cases hr
    exact key i hi
   ·obtain ⟨hun,o,ho,hr⟩:=mem_ready.1 hi
    have hilt:i<all.size:=(Array.getElem?_eq_some_iff.1 ho).1
    refine hstep listed a w i o hI ho hun hr _ fun a' w' hI'=>ih _ a' w' hI' ?_
    have:=left_set all.size listed (by rw [hI.1];exact Nat.le_refl _) hilt hun
    omega
 have hmn0: ∀b L,β0 b=some L→L.size<L.base→ ∀j,j≤all.size→b<(G j).n→b+1<(G j).n∧β0 (b+1)=none:=by
  intro b L hL hlt j hj hb
  have h1:=hGmono j hj 0 (by omega)
  rw [hG0] at h1
  have h2:=hGmono all.size (Nat.le_refl _) j hj
  rw [hGn] at h2
  rcases Nat.lt_or_ge b H.n with h|h
  ·obtain ⟨q1,q2⟩:=hR0.mapn b L hL hlt h
   exact ⟨by omega,q2⟩
  ·rw [hfr0 b h (by omega)] at hL
   cases hL
 refine hrun all.size _ a0 w0 ⟨by simp,fun i o ho hl=>?_,m,Nat.le_refl _,hm,fun i hi _=>⟨fun hl=>absurd hl (rep_false _ _),fun h=>by omega⟩,β0,hf0.size,hd0,fun t=> .inr ⟨fun j oj hl=>?_,hf0.val t⟩,?_,fun b L hb=> .inl hb,?_,?_⟩ ?_
 ·exact absurd hl (rep_false _ _)
 ·exact absurd hl (rep_false _ _)
 ·have hlt: ∀b blk L,(G m).get b=some blk→β0 b=some L→H.get b=some blk:=by
   intro b blk L hb hL
   have hbm:=hfin_lt m hm b blk hb
   rcases Nat.lt_or_ge b H.n with h|h
   ·have:=(hGext m (Nat.le_refl _) 0 (by omega)).get b (by rw [hG0];exact h)
    rw [hG0] at this
    rw [←this]
    exact hb
   ·have:=hGmono all.size (Nat.le_refl _) m hm
    rw [hGn] at this
    rw [hfr0 b h (by omega)] at hL
    cases hL
  exact ⟨fun b blk L hb hL hle=>hR0.cells b blk L (hlt b blk L hb hL) hL hle,fun b b' blk blk' L L' hb hrw hb' hL hL' he=>hR0.inj b b' blk blk' L L' (hlt b blk L hb hL) hrw (hlt b' blk' L' hb' hL') hL hL' he,hGfin m hm,fun b L blk hL hlm hb=>by
   obtain ⟨q1,q2,es,ck,q3,q4⟩:=hR0.maps b L blk hL hlm (hlt b blk L hb hL)
   have hn:H.n≤(G m).n:=by have:=hGmono m hm 0 (by omega);rwa [hG0] at this
   refine ⟨q1,by omega,es,ck,q3,fun gh hgg h0=>q4 gh ?_ h0⟩
   have:=(hGext m (Nat.le_refl _) 0 (by omega)).get (b+1) (by rw [hG0];exact q2)
   rw [hG0] at this
   rw [←this]
   exact hgg,fun b L hL hlm hb=>hmn0 b L hL hlm m hm hb⟩
 ·have hlt: ∀b blk L,(G m).get b=some blk→β0 b=some L→H.get b=some blk:=by
   intro b blk L hb hL
   have hbm:=hfin_lt m hm b blk hb
   rcases Nat.lt_or_ge b H.n with h|h
   ·have:=(hGext m (Nat.le_refl _) 0 (by omega)).get b (by rw [hG0];exact h)
    rw [hG0] at this
    rw [←this]
    exact hb
   ·have:=hGmono all.size (Nat.le_refl _) m hm
    rw [hGn] at this
    rw [hfr0 b h (by omega)] at hL
    cases hL
  have hn:H.n≤(G m).n:=by have:=hGmono m hm 0 (by omega);rwa [hG0] at this
  exact ⟨rfl,rfl,⟨rfl,Nat.le_refl _⟩,Nat.le_refl _,fun _ _ _=>rfl,fun b blk L hb hrw hL=> .inr ⟨b,blk,L,hlt b blk L hb hL,hrw,hL,rfl⟩,fun _ _ h=>h,fun _ _ h=> .inl h,hn,fun b L hb h0=>by rw [h0] at hb;cases hb⟩
 ·exact hmn0
 ·unfold left_
  rw [List.filter_eq_self.2,List.length_range]
  intro i hi
  simp [List.mem_range.1 hi,Array.getElem?_replicate]
end
end Go.Am
