/- Arrays and structs of whole numbers, compared: the model goes through the type, the small machine through the cells. -/
import Derived.Test.YtbpfbfbabpkceaaGreatAmOp
import Derived.ChangeKeysEq
set_option linter.unusedVariables false
set_option linter.unusedSimpArgs false
namespace Go.Am
open Go
theorem eqCells_len: ∀{as bs:List Value} {r:Bool},eqCells as bs=some r→as.length=bs.length
 |[],[],_,_=>rfl
 |[],_::_,_,h=>by simp [eqCells] at h
 | _::_,[],_,h=>by simp [eqCells] at h
 |a::as,b::bs,r,h=>by
  simp only [eqCells] at h
  split at h
  ·obtain ⟨r2,h2,_⟩:=map_some_inj h
   simp [eqCells_len h2]
  ·cases h
theorem eqCells_split: ∀(n:Nat) {as bs:List Value} {r:Bool},eqCells as bs=some r→ ∃r1 r2,eqCells (as.take n) (bs.take n)=some r1∧eqCells (as.drop n) (bs.drop n)=some r2∧r=(r1&&r2)
 |0,as,bs,r,h=>⟨true,r,by simp [eqCells],by simpa using h,by simp⟩
 |n+1,[],[],r,h=>⟨true,true,by simp [eqCells],by simp [eqCells],by simp [eqCells] at h;simp [h]⟩
 |n+1,[],_::_,_,h=>by simp [eqCells] at h
 |n+1,_::_,[],_,h=>by simp [eqCells] at h
 |n+1,a::as,b::bs,r,h=>by
  simp only [eqCells] at h
  split at h
  ·rename_i c hc
   obtain ⟨r2,h2,rfl⟩:=map_some_inj h
   obtain ⟨r3,r4,h3,h4,rfl⟩:=eqCells_split n h2
   exact ⟨c&&r3,r4,by simp [eqCells,hc,h3],by simpa using h4,by simp [Bool.and_assoc]⟩
  ·cases h
section
variable {Pr:Program}
theorem seg_cut {cs:List Value} {o n k l:Nat} (h:k+l≤n):(((cs.drop o).take n).drop k).take l=(cs.drop (o+k)).take l:=by
 rw [List.drop_take,List.take_take,List.drop_drop,Nat.min_eq_left (by omega)]
def EqV (Pr:Program) (m:Nat) (t:TypeId):Prop:= ∀(s:Nat),szT Pr t=some s→ ∀(d:Nat) (w:World) (xs ys:Array Value) (o:Nat) (r:Bool),o+s≤xs.size→o+s≤ys.size→
 eqCells ((xs.toList.drop o).take s) ((ys.toList.drop o).take s)=some r→ ∃a b,(part t xs o).run Pr w= .ok a w∧(part t ys o).run Pr w= .ok b w∧(Op.equalIn (d+m) t a b).run Pr w= .ok r w
theorem items_ok {m:Nat} {e:TypeId} (IH:EqV Pr m e) {c:Nat} (hc:szT Pr e=some c) (d:Nat) (w:World) (xs ys:Array Value): ∀(l j:Nat) (r:Bool),(j+l)*c≤xs.size→(j+l)*c≤ys.size→
  eqCells ((xs.toList.drop (j*c)).take (l*c)) ((ys.toList.drop (j*c)).take (l*c))=some r→(Op.eqItems (d+m) e c xs ys (List.range' j l)).run Pr w= .ok r w
 |0,j,r,h1,h2,h=>by
  simp [eqCells] at h
  simp [Op.eqItems,h]
 |l+1,j,r,h1,h2,h=>by
  have hm:(j+(l+1))*c=j*c+(l+1)*c:=Nat.add_mul _ _ _
  have hl:(l+1)*c=l*c+c:=Nat.succ_mul _ _
  have hj:(j+1)*c=j*c+c:=Nat.succ_mul _ _
  obtain ⟨r1,r2,k1,k2,rfl⟩:=eqCells_split c h
  rw [List.take_take,List.take_take,Nat.min_eq_left (by omega)] at k1
  rw [List.drop_take,List.drop_take,List.drop_drop,List.drop_drop,←hj,show (l+1)*c-c=l*c by omega] at k2
  obtain ⟨a,b,p1,p2,p3⟩:=IH c hc d w xs ys (j*c) r1 (by omega) (by omega) k1
  have ih:=items_ok IH hc d w xs ys l (j+1) r2 (by rw [show j+1+l=j+(l+1) by omega];exact h1) (by rw [show j+1+l=j+(l+1) by omega];exact h2) k2
  rw [List.range'_succ]
  simp only [Op.eqItems,Sem.run_bind,p1,p2,p3,Result.andThen_ok]
  cases r1
  ·simp
  ·simpa using ih
theorem fields_ok {m:Nat} (d:Nat) (w:World) (xs ys:Array Value): ∀(fs:List Field) (o z:Nat) (r:Bool),(∀f∈fs,f.name≠ "_" ∧EqV Pr m f.type)→tileT Pr fs o=some z→z≤xs.size→z≤ys.size→
  eqCells ((xs.toList.drop o).take (z-o)) ((ys.toList.drop o).take (z-o))=some r→o≤z∧(Op.eqFields (d+m) xs ys fs).run Pr w= .ok r w
 |[],o,z,r,hf,ht,h1,h2,h=>by
  simp only [tileT,Option.some.injEq] at ht
  subst ht
  simp [eqCells] at h
  simp [Op.eqFields,h]
 |f::fs,o,z,r,hf,ht,h1,h2,h=>by
  simp only [tileT] at ht
  split at ht
  ·rename_i ho
   split at ht
   ·rename_i s hs
    obtain ⟨hn,IH⟩:=hf f (by simp)
    have hoz:o+s≤z:=by
     have key: ∀(fs:List Field) (o z:Nat),tileT Pr fs o=some z→o≤z:=by
      intro fs
      induction fs with
      |nil=>intro o z h;simp [tileT] at h;omega
      |cons f fs ih=>
       intro o z h
       simp only [tileT] at h
       split at h
       ·split at h
        ·have:=ih _ _ h;omega
        ·cases h
       ·cases h
     exact key _ _ _ ht
    obtain ⟨r1,r2,k1,k2,rfl⟩:=eqCells_split s h
    rw [List.take_take,List.take_take,Nat.min_eq_left (by omega)] at k1
    rw [List.drop_take,List.drop_take,List.drop_drop,List.drop_drop,show z-o-s=z-(o+s) by omega] at k2
    obtain ⟨a,b,p1,p2,p3⟩:=IH s hs d w xs ys o r1 (by omega) (by omega) k1
    obtain ⟨_,ih⟩:=fields_ok d w xs ys fs (o+s) z r2 (fun g hg=>hf g (by simp [hg])) ht h1 h2 k2
    refine ⟨by omega,?_⟩
    rw [←ho] at p1 p2
    simp only [Op.eqFields,ne_eq,hn,not_false_eq_true,if_true,Sem.run_bind,p1,p2,p3,Result.andThen_ok]
    cases r1
    ·simp
    ·simpa using ih
   ·cases ht
  ·cases ht
theorem part_agg {t:TypeId} {d:TypeDesc} {s:Nat} (hd:Pr.underlying t=some d) (ha:isAggD d=true) (hs:szT Pr t=some s) (xs:Array Value) (o:Nat) (w:World):(part t xs o).run Pr w= .ok (.agg (xs.extract o (o+s))) w:=by
 simp [part,isAgg_run hd,ha,sizeOf_run hs]
theorem eqTy_ok: ∀(m:Nat) (t:TypeId),eqTy Pr m t=true→EqV Pr m t
 |0,_,h=>by simp [eqTy] at h
 |m+1,t,h=>by
  intro s hs d w xs ys o r hx hy hc
  unfold eqTy at h
  have hex: ∀(cs:Array Value),(cs.extract o (o+s)).toList=(cs.toList.drop o).take s:=fun cs=>by rw [Array.toList_extract];simp [List.extract]
  split at h
  ·rename_i k hu
   rw [hs] at h
   obtain rfl:s=1:=by simpa using h
   have hxo:xs.toList[o]? =some xs[o]:=by simp [show o<xs.size by omega]
   have hyo:ys.toList[o]? =some ys[o]:=by simp [show o<ys.size by omega]
   have e1:(xs.toList.drop o).take 1=[xs[o]]:=by
    apply List.ext_getElem?
    intro i
    rw [List.getElem?_take,List.getElem?_drop]
    cases i with
    |zero=>simp
    |succ i=>simp
   have e2:(ys.toList.drop o).take 1=[ys[o]]:=by
    apply List.ext_getElem?
    intro i
    rw [List.getElem?_take,List.getElem?_drop]
    cases i with
    |zero=>simp
    |succ i=>simp
   rw [e1,e2] at hc
   simp only [eqCells] at hc
   split at hc
   ·rename_i c hcell
    simp only [Option.map_some,Option.some.injEq,Bool.and_true] at hc
    subst hc
    generalize hxv:xs[o]=xv at hcell hxo
    generalize hyv:ys[o]=yv at hcell hyo
    cases xv<;>cases yv<;>simp only [eqCell] at hcell<;>first|(cases hcell;done)|skip
    rename_i k1 a k2 b
    split at hcell
    ·rename_i hk
     subst hk
     cases hcell
     refine ⟨.int k1 a, .int k1 b,?_,?_,run_equalIn_int w (d+m) t k1 k a b hu⟩
     ·simp [part,isAgg_run hu,isAggD,show xs[o]? =some (.int k1 a) by simpa using hxo]
     ·simp [part,isAgg_run hu,isAggD,show ys[o]? =some (.int k1 b) by simpa using hyo]
    ·cases hcell
   ·cases hc
  ·rename_i n e hu
   rw [Bool.and_eq_true] at h
   obtain ⟨he,hz⟩:=h
   split at hz
   ·rename_i c z hce hte
    rw [hs] at hte
    cases hte
    obtain rfl:s=n*c:=by simpa using hz
    refine ⟨_,_,part_agg hu rfl hs xs o w,part_agg hu rfl hs ys o w,?_⟩
    obtain ⟨kd,hkd⟩: ∃kd,Pr.underlying e=some kd:=by
     cases m with
     |zero=>simp [eqTy] at he
     |succ m=>
      unfold eqTy at he
      cases hue:Pr.underlying e with
      |none=>simp [hue] at he
      |some kd=>exact ⟨kd,rfl⟩
    obtain ⟨i,hi⟩:=info_of_underlying hkd
    have hcell:Pr.cellsOf e=c:=by
     unfold szT at hce
     unfold Program.cellsOf
     rw [hce];rfl
    rw [show d+(m+1)=(d+m)+1 from rfl,run_equalIn_array w (d+m) _ _ hu hi,hcell,List.range_eq_range']
    refine items_ok (eqTy_ok m e he) hce d w _ _ n 0 r ?_ ?_ ?_
    ·simp;omega
    ·simp;omega
    ·rw [Nat.zero_mul,List.drop_zero,List.drop_zero,hex,hex,List.take_take,List.take_take,Nat.min_self]
     exact hc
   ·cases hz
  ·rename_i fs hu
   rw [Bool.and_eq_true,Bool.and_eq_true] at h
   obtain ⟨⟨hst,hall⟩,hz⟩:=h
   split at hz
   ·rename_i z y htile hte
    rw [hs] at hte
    cases hte
    obtain rfl:s=z:=by simpa using hz
    refine ⟨_,_,part_agg hu rfl hs xs o w,part_agg hu rfl hs ys o w,?_⟩
    have hfo:Pr.fieldsOf t=fs:=by simp [Program.fieldsOf,hu]
    rw [show d+(m+1)=(d+m)+1 from rfl,run_equalIn_struct w (d+m) t _ _ (by rw [hfo];exact hu) (by simpa using hst),hfo]
    refine (fields_ok d w _ _ fs.toList 0 s r (fun f hf=>?_) htile ?_ ?_ ?_).2
    ·have:=List.all_eq_true.1 hall f hf
     rw [Bool.and_eq_true] at this
     exact ⟨by simpa using this.1,eqTy_ok m f.type this.2⟩
    ·simp;omega
    ·simp;omega
    ·rw [List.drop_zero,List.drop_zero,hex,hex,List.take_take,List.take_take,Nat.sub_zero,Nat.min_self]
     exact hc
   ·cases hz
  ·cases h
theorem eqCells_rel {φ:Fun} {β:Ren}: ∀{as bs as' bs':List Value} {r:Bool},VRL φ β as as'→VRL φ β bs bs'→eqCells as bs=some r→eqCells as' bs'=some r
 |[],[],as',bs',r,ha,hb,h=>by
  have:as'=[]:=List.eq_nil_of_length_eq_zero ha.1.symm
  subst this
  have:bs'=[]:=List.eq_nil_of_length_eq_zero hb.1.symm
  subst this
  exact h
 |[],_::_,_,_,_,_,_,h=>by simp [eqCells] at h
 | _::_,[],_,_,_,_,_,h=>by simp [eqCells] at h
 |a::as,b::bs,as',bs',r,ha,hb,h=>by
  cases as' with
  |nil=>have:=ha.1;simp at this
  |cons a' as'=>
   cases bs' with
   |nil=>have:=hb.1;simp at this
   |cons b' bs'=>
    have ha0:=ha.2 0 a a' rfl rfl
    have hb0:=hb.2 0 b b' rfl rfl
    simp only [eqCells] at h⊢
    split at h
    ·rename_i c hc
     obtain ⟨r2,h2,h3⟩:=map_some_inj h
     have ih:=eqCells_rel (as':=as') (bs':=bs') ⟨by have:=ha.1;simpa using this,fun i c d h1 h2=>ha.2 (i+1) c d (by simpa using h1) (by simpa using h2)⟩ ⟨by have:=hb.1;simpa using this,fun i c d h1 h2=>hb.2 (i+1) c d (by simpa using h1) (by simpa using h2)⟩ h2
     have hc':eqCell a' b'=some c:=by
      cases a<;>cases b<;>simp only [eqCell] at hc<;>first|(cases hc;done)|skip
      rw [ha0.int,hb0.int]
      simpa [eqCell] using hc
     rw [hc',ih]
     simp [h3]
    ·cases h
theorem aEqa_agg {φ:Fun} {β:Ren} {n:Nat} {x y x' y':Value} {r:Bool} (hx:VR φ β x x') (hy:VR φ β y y') (h:aEqa n x y=some r): ∃ds es,x'= .agg ds∧y'= .agg es∧ds.size=n∧es.size=n∧eqCells ds.toList es.toList=some r:=by
 cases x<;>cases y<;>simp only [aEqa] at h<;>first|(cases h;done)|skip
 split at h
 ·rename_i hn
  obtain ⟨ds,rfl,h1⟩:=hx.agg_inv
  obtain ⟨es,rfl,h2⟩:=hy.agg_inv
  have hl:=eqCells_len h
  refine ⟨ds,es,rfl,rfl,?_,?_,eqCells_rel h1 h2 h⟩
  ·have:=h1.1;simp at this hn;omega
  ·have:=h2.1;simp at this hn hl;omega
 ·cases h
theorem s_eqa {t:TypeId} {s:Nat} {xs ys:Array Value} {xo yo:Operand} {r:Bool} (w:World) (he:eqTy Pr 8 t=true) (hg:Pr.eqGuardType Pr.depth t=false) (hs:szT Pr t=some s) (ha: ∃d,Pr.underlying t=some d∧isAggD d=true)
  (hx:xs.size=s) (hy:ys.size=s) (hc:eqCells xs.toList ys.toList=some r) (op:BinOp) (neg:Bool) (hop:op=(if neg then .neq else .eql)):
  ((do eqGuard op t xo yo (.agg xs) (.agg ys);binOp op t (.agg xs) (.agg ys):Sem Value).run Pr w)= .ok (.bool (if neg then !r else r)) w:=by
 obtain ⟨d,hd,hag⟩:=ha
 have key:=eqTy_ok 8 t he s hs 9992 w xs ys 0 r (by omega) (by omega) (by
  rw [List.drop_zero,List.drop_zero,List.take_of_length_le (by simp;omega),List.take_of_length_le (by simp;omega)]
  exact hc)
 obtain ⟨a,b,h1,h2,h3⟩:=key
 rw [part_agg hd hag hs] at h1 h2
 have ex:xs.extract 0 (0+s)=xs:=by rw [Nat.zero_add,←hx];exact Array.extract_size
 have ey:ys.extract 0 (0+s)=ys:=by rw [Nat.zero_add,←hy];exact Array.extract_size
 rw [ex] at h1
 rw [ey] at h2
 cases h1
 cases h2
 subst hop
 rw [Sem.run_bind,run_eqGuard_agg _ _ _ _ _ _ _ hg]
 cases neg
 ·simp only [Bool.false_eq_true,if_false,Result.andThen_ok]
  rw [run_eql_struct,h3];rfl
 ·simp only [if_true,Result.andThen_ok]
  rw [run_neq_struct,h3];rfl
end
end Go.Am
