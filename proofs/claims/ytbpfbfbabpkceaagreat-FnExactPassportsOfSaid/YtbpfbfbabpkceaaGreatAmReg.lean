/- A region's operations, in the text's order or in whatever order, carried over. -/
import Derived.Test.YtbpfbfbabpkceaaGreatAmCode
set_option linter.unusedVariables false
set_option linter.unusedSimpArgs false
namespace Go.Am
open Go
inductive SChain (Pr:Program) (μ φ:Fun):Option Nat→List AOper→Fr→AHeap→Fr→AHeap→Prop where
 |nil {d f H}:SChain Pr μ φ d [] f H f H
 |cons {d:Option Nat} {o rest f H f1 H1 f' H'}:SimOne Pr μ φ o f H f1 H1∧Fact Pr μ φ o f H f1 H1→(∀m,d=some (m+1)→Ext H H1)→SChain Pr μ φ (d.map (· -1)) rest f1 H1 f' H'→SChain Pr μ φ d (o::rest) f H f' H'
inductive Matched (Pr:Program) (μ φ:Fun) (nt:Nat) (all:Array Oper):List Nat→List AOper→Prop where
 |nil:Matched Pr μ φ nt all [] []
 |cons {j:Nat} {js:List Nat} {o:Oper} {ao:AOper} {as:List AOper}:all[j]? =some o→trOper Pr μ φ nt all o=some ao→Matched Pr μ φ nt all js as→Matched Pr μ φ nt all (j::js) (ao::as)
section
variable {Pr:Program} {μ φ:Fun} {nt:Nat} {all:Array Oper} {d:Option Nat} {as:List AOper} {f f':Fr} {H H':AHeap}
theorem matched_of: ∀(l:List Oper) (k:Nat) (as:List AOper),optL (trOper Pr μ φ nt all) l=some as→(∀(i:Nat) (o:Oper),l[i]? =some o→all[k+i]? =some o)→Matched Pr μ φ nt all (List.range' k l.length) as
 |[],k,as,h,_=>by simp [optL] at h;subst h;exact .nil
 |o::l,k,as,h,hk=>by
  simp only [optL] at h
  split at h
  ·rename_i b bs h1 h2
   cases h
   rw [List.length_cons,List.range'_succ]
   refine .cons (hk 0 o (by simp)) h1 (matched_of l (k+1) bs h2 fun i o' hi=>?_)
   have:=hk (i+1) o' (by simpa using hi)
   rwa [show k+(i+1)=k+1+i by omega] at this
  ·cases h
theorem matched_all (h:optL (trOper Pr μ φ nt all) all.toList=some as):Matched Pr μ φ nt all (List.range all.size) as:=by
 have:=matched_of all.toList 0 as h (fun i o hi=>by simpa using hi)
 rwa [Array.length_toList,←List.range_eq_range'] at this
theorem SChain.n (h:SChain Pr μ φ d as f H f' H'):H.n≤H'.n:=by
 induction h with
 |nil=>exact Nat.le_refl _
 |cons h _ _ ih=>exact Nat.le_trans h.1.1 ih
theorem SChain.fin (h:SChain Pr μ φ d as f H f' H') (hF:Fin H):Fin H':=by
 induction h with
 |nil=>exact hF
 |cons h _ _ ih=>exact ih (h.1.2.1 hF)
theorem seq_ops (h:SChain Pr μ φ d as f H f' H'): ∀(js:List Nat),Matched Pr μ φ nt all js as→ ∀(β:Ren) (a:Act) (w:World),Rel φ β H w→FRel φ β nt f a→(∀b,H.n≤b→b<H'.n→β b=none)→a.defers=[]→
  ∀(Q:Exit→Act→World→Prop),(∀β' a' w',Good φ β H w β' H' w'→FRel φ β' nt f' a'→a'.defers=[]→Q .normal a' w')→wpOps Pr all Q js a w:=by
 induction h with
 |nil=>
  intro js hm β a w hR hf hfr hd Q hQ
  cases hm
  exact hQ β a w (.refl hR) hf hd
 |cons ho _ hch ih=>
  rename_i d o rest f H f1 H1 f' H'
  intro js hm β a w hR hf hfr hd Q hQ
  cases hm with
  |cons hj htr hm=>
   rename_i j js' oo
   obtain ⟨⟨hn,hfin,v,rfl,hsim⟩,_⟩:=ho
   obtain ⟨_,_,hdst,hlt⟩:=trOper_some htr
   have hn':=hch.n
   have hk:=hsim nt all oo htr β a w hR (hf.looks all oo) hf.size (fun b h1 h2=>hfr b h1 (by omega)) hd Q (wpOps Pr all Q js') (fun β' v' w' hg hv=>by
    refine ih js' hm β' (a.put oo.dst v') w' hg.1 ?_ (fun b h1 h2=>?_) (by rw [put_def];exact hd) Q (fun β2 a2 w2 hg2 hf2 hd2=>hQ β2 a2 w2 (hg.trans hg2) hf2 hd2)
    ·have:=(hf.mono hg.2.ext).put (d:=oo.dst) hlt hv
     rwa [hdst]
    ·cases hb:β' b with
     |none=>rfl
     |some L=>
      rcases hg.2.new b L hb with h3|h3
      ·rw [hfr b (by omega) h2] at h3;cases h3
      ·omega)
   simp only [wpOps,hj]
   split
   ·rename_i hw
    rw [if_pos hw] at hk
    exact .inl hk
   ·rename_i hw
    rw [if_neg hw] at hk
    exact hk
theorem closL_len (l:List Oper):(closL l).length=l.length:=by
 have key: ∀(l:List Oper) (acc:List (List Nat)),(l.foldl (fun acc o=>acc++[o.after.toList.foldl (fun s e=>if Region.binds .any e then e.on::(acc.getD e.on []++s) else s) []]) acc).length=acc.length+l.length:=by
  intro l
  induction l with
  |nil=>intro acc;simp
  |cons o l ih=>intro acc;rw [List.foldl_cons,ih];simp;omega
 simpa [closL] using key l []
def closOne (c:List (List Nat)) (o:Oper):List Nat:=o.after.toList.foldl (fun s e=>if Region.binds .any e then e.on::(c.getD e.on []++s) else s) []
theorem mem_closOne {c:List (List Nat)} {o:Oper} {j:Nat} (h:j∈closOne c o): ∃e∈o.after.toList,Region.binds .any e=true∧(j=e.on∨j∈c.getD e.on []):=by
 have key: ∀(l:List Edge) (s:List Nat),j∈l.foldl (fun s e=>if Region.binds .any e then e.on::(c.getD e.on []++s) else s) s→j∈s∨ ∃e∈l,Region.binds .any e=true∧(j=e.on∨j∈c.getD e.on []):=by
  intro l
  induction l with
  |nil=>intro s h;exact .inl h
  |cons e l ih=>
   intro s h
   rw [List.foldl_cons] at h
   rcases ih _ h with h1|⟨e',he',h2⟩
   ·split at h1
    ·rename_i hb
     rcases List.mem_cons.1 h1 with h2|h2
     ·exact .inr ⟨e,by simp,hb, .inl h2⟩
     ·rcases List.mem_append.1 h2 with h3|h3
      ·exact .inr ⟨e,by simp,hb, .inr h3⟩
      ·exact .inl h3
    ·exact .inl h1
   ·exact .inr ⟨e',by simp [he'],h2⟩
 rcases key _ _ h with h|h
 ·cases h
 ·exact h
theorem closL_get (l:List Oper) {i:Nat} {o:Oper} (ho:l[i]? =some o) {j:Nat} (hj:j∈(closL l).getD i []): ∃e∈o.after.toList,Region.binds .any e=true∧(j=e.on∨j∈(closL l).getD e.on []):=by
 have key: ∀(l:List Oper) (acc:List (List Nat)) (i:Nat) (o:Oper),l[i]? =some o→
   ∃c:List (List Nat),(l.foldl (fun acc o=>acc++[closOne acc o]) acc).getD (acc.length+i) []=closOne c o∧(∀k x,x∈c.getD k []→x∈(l.foldl (fun acc o=>acc++[closOne acc o]) acc).getD k [])∧(∀k x,x∈acc.getD k []→x∈(l.foldl (fun acc o=>acc++[closOne acc o]) acc).getD k []):=by
  intro l
  have mono: ∀(l:List Oper) (acc:List (List Nat)) (k:Nat) (x:Nat),x∈acc.getD k []→x∈(l.foldl (fun acc o=>acc++[closOne acc o]) acc).getD k []:=by
   intro l
   induction l with
   |nil=>intro acc k x h;exact h
   |cons o l ih=>
    intro acc k x h
    rw [List.foldl_cons]
    refine ih _ k x ?_
    rcases Nat.lt_or_ge k acc.length with hk|hk
    ·rwa [List.getD_eq_getElem?_getD,List.getElem?_append_left hk,←List.getD_eq_getElem?_getD]
    ·rw [List.getD_eq_getElem?_getD,List.getElem?_eq_none hk] at h
     cases h
  have keep: ∀(l:List Oper) (acc:List (List Nat)) (k:Nat),k<acc.length→(l.foldl (fun acc o=>acc++[closOne acc o]) acc).getD k []=acc.getD k []:=by
   intro l
   induction l with
   |nil=>intro acc k h;rfl
   |cons o l ih=>
    intro acc k h
    rw [List.foldl_cons,ih _ k (by simp;omega)]
    rw [List.getD_eq_getElem?_getD,List.getElem?_append_left h,←List.getD_eq_getElem?_getD]
  induction l with
  |nil=>intro acc i o h;simp at h
  |cons p l ih=>
   intro acc i o h
   cases i with
   |zero=>
    simp at h
    subst h
    refine ⟨acc,?_,fun k x hx=>mono _ acc k x hx,fun k x hx=>mono _ acc k x hx⟩
    rw [List.foldl_cons,Nat.add_zero,keep _ _ _ (by simp),List.getD_eq_getElem?_getD,List.getElem?_append_right (Nat.le_refl _)]
    simp
   |succ i=>
    simp at h
    obtain ⟨c,h1,h2,h3⟩:=ih (acc++[closOne acc p]) i o h
    refine ⟨c,?_,?_,fun k x hx=>mono _ acc k x hx⟩
    ·rw [List.foldl_cons]
     rw [List.length_append,List.length_singleton] at h1
     rw [←h1]
     congr 1
     omega
    ·intro k x hx
     rw [List.foldl_cons]
     exact h2 k x hx
 obtain ⟨c,h1,h2,_⟩:=key l [] i o ho
 have h1':(closL l).getD i []=closOne c o:=by
  have e:closL l=l.foldl (fun acc o=>acc++[closOne acc o]) []:=rfl
  rw [e]
  simpa using h1
 rw [h1'] at hj
 obtain ⟨e,he,hb,hor⟩:=mem_closOne hj
 exact ⟨e,he,hb,hor.imp id (h2 e.on j)⟩
def left_ (n:Nat) (listed:Array Bool):Nat:=((List.range n).filter fun i=> !listed.getD i true).length
theorem left_set (n:Nat) (listed:Array Bool) (hs:n≤listed.size) {i:Nat} (hi:i<n) (h:listed.getD i true=false):left_ n (listed.setIfInBounds i true)+1=left_ n listed:=by
 have key: ∀n,n≤listed.size→(i<n→left_ n (listed.setIfInBounds i true)+1=left_ n listed)∧(¬i<n→left_ n (listed.setIfInBounds i true)=left_ n listed):=by
  intro n
  induction n with
  |zero=>intro _;exact ⟨fun h=>by omega,fun _=>rfl⟩
  |succ n ih=>
   intro hn
   obtain ⟨ih1,ih2⟩:=ih (by omega)
   unfold left_ at*
   rw [List.range_succ,List.filter_append,List.filter_append,List.length_append,List.length_append]
   by_cases e:i=n
   ·subst e
    have h1:(listed.setIfInBounds i true).getD i true=true:=by simp [show i<listed.size by omega]
    have ih2:=ih2 (by omega)
    refine ⟨fun _=>?_,fun hc=>by omega⟩
    rw [ih2]
    simp only [List.filter_cons,List.filter_nil,h1,h]
    simp
   ·have h1:(listed.setIfInBounds i true).getD n true=listed.getD n true:=by simp [Array.getElem?_setIfInBounds_ne e]
    simp only [List.filter_cons,List.filter_nil,h1]
    refine ⟨fun hc=>?_,fun hc=>?_⟩
    ·have:=ih1 (by omega)
     omega
    ·have:=ih2 (by omega)
     omega
 exact (key n hs).1 hi
theorem left_zero {n:Nat} {listed:Array Bool} (h:left_ n listed=0) {i:Nat} (hi:i<n):listed.getD i true=true:=by
 unfold left_ at h
 have h:=List.eq_nil_of_length_eq_zero h
 have:=List.filter_eq_nil_iff.1 h i (List.mem_range.2 hi)
 simpa using this
end
end Go.Am
