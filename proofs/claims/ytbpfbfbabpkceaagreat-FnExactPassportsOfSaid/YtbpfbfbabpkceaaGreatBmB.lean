/- Arguments that are arrays and structs. -/
import Derived.Test.YtbpfbfbabpkceaaGreatDpG1
import Derived.Test.YtbpfbfbabpkceaaGreatBmB0
import Derived.WideShapes
set_option linter.unusedVariables false
set_option linter.unusedSimpArgs false
namespace Go.Bm
open Go Go.Am
section
variable {P:Program} {W:World} {r:Reach} {b0:Nat} {t:TypeId} {v:Value}
theorem aeo {ts:List TypeId} {m:Nat} (hu: ∃d,P.underlying t=some d∧isAggD d=true) (hc:P.cellTypes P.depth t=some ts) (hm:P.cellsOf t=m) (hl:ts.length=m) (h:Value.okWide P W r b0 t v):
  ∃cs:List Value,v=aggL cs∧cs.length=m∧ ∀i,i<m→ ∃u w,ts[i]? =some u∧cs[i]? =some w∧Cell.okWide P W r b0 u w:=by
 obtain ⟨d,hd,ha⟩:=hu
 have key: ∃cs,v= .agg cs∧cs.size=P.cellsOf t∧Row.okWide P W r b0 t cs:=by
  unfold Value.okWide at h
  cases d<;>simp only [isAggD,Bool.false_eq_true] at ha<;>simpa [hd] using h
 obtain ⟨⟨cs⟩,rfl,hs,ts',h1,h2,h3⟩:=key
 rw [hc] at h1
 cases h1
 have hs':cs.length=m:=by simpa [hm] using hs
 refine ⟨cs,rfl,hs',fun i hi=>?_⟩
 obtain ⟨u,hu,hok⟩:=h3 i (cs[i]'(by omega)) (by simp [show i<cs.length by omega])
 rw [Nat.mod_eq_of_lt (by omega)] at hu
 exact ⟨u,_,hu,List.getElem?_eq_getElem _,hok⟩
theorem ok_int {u:TypeId} {k:IntKind} {w:Value} (hu:P.underlying u=some (.int k)) (h:Cell.okWide P W r b0 u w): ∃n,w= .int k n∧k.has n:=by
 unfold Cell.okWide at h
 rw [hu] at h
 cases w<;>simp only [Cell.ok,hu] at h
 obtain ⟨rfl,h⟩:=h
 exact ⟨_,rfl,h⟩
theorem UY {n:Int} (h:IntKind.u8.has n):0≤n∧n≤255:=by
 have h1:IntKind.u8.min=0:=by decide
 have h2:IntKind.u8.max=255:=by decide
 unfold IntKind.has at h
 rw [h1,h2] at h
 exact h
theorem aep {n:Int} (h:IntKind.i64.has n): -9223372036854775808≤n∧n≤9223372036854775807:=by
 have h1:IntKind.i64.min= -9223372036854775808:=by decide
 have h2:IntKind.i64.max=9223372036854775807:=by decide
 unfold IntKind.has at h
 rw [h1,h2] at h
 exact h
def DT:Value→Nat
 | .int _ n=>n.toNat
 | _=>0
def yu:Value→Int
 | .int _ n=>n
 | _=>0
theorem UZ {cs:List Value} {o m:Nat} (hl:o+m≤cs.length) (h: ∀i,i<m→ ∃n,cs[o+i]? =some (.int .u8 n)∧IntKind.u8.has n):
  ∃p:List Nat,By m p∧(cs.drop o).take m=p.map N8:=by
 refine ⟨((cs.drop o).take m).map DT,⟨by simp;omega,fun i=>?_⟩,?_⟩
 ·rcases Nat.lt_or_ge i m with hi|hi
  ·obtain ⟨n,h1,h2⟩:=h i hi
   have e:nl (((cs.drop o).take m).map DT) i=n.toNat:=by
    simp [nl,List.getD,List.getElem?_take,hi,h1,DT]
   rw [e]
   have h2':=UY h2
   omega
  ·rw [GX (by simp;omega)];omega
 ·apply List.ext_getElem?
  intro i
  rw [List.getElem?_map,List.getElem?_map]
  rcases Nat.lt_or_ge i m with hi|hi
  ·obtain ⟨n,h1,h2⟩:=h i hi
   have h2':=UY h2
   have e:((cs.drop o).take m)[i]? =some (.int .u8 n):=by rw [List.getElem?_take,if_pos hi,List.getElem?_drop,h1]
   rw [e]
   simp only [Option.map_some,DT,N8,Int.toNat_of_nonneg h2'.1]
  ·rw [List.getElem?_eq_none (by simp;omega)];rfl
theorem ag0 {t64 t8:TypeId} (hu: ∃d,P.underlying t=some d∧isAggD d=true) (hc:P.cellTypes P.depth t=some (t64::List.replicate 32 t8)) (hm:P.cellsOf t=33) (h64:P.underlying t64=some (.int .i64)) (h8:P.underlying t8=some (.int .u8)) (h:Value.okWide P W r b0 t v):
  ∃(n:Int) (b w:List Nat),v=DV n b w∧By 16 b∧By 16 w∧ -9223372036854775808≤n∧n<9223372036854775808:=by
 obtain ⟨cs,rfl,hl,hall⟩:=aeo hu hc hm (by simp) h
 obtain ⟨u,w,h1,h2,h3⟩:=hall 0 (by omega)
 simp only [List.getElem?_cons_zero,Option.some.injEq] at h1
 subst h1
 obtain ⟨n,rfl,hn⟩:=ok_int h64 h3
 have hb: ∀i,i<32→ ∃m,cs[1+i]? =some (.int .u8 m)∧IntKind.u8.has m:=fun i hi=>by
  obtain ⟨u,w,h1,h2,h3⟩:=hall (1+i) (by omega)
  rw [Nat.add_comm,List.getElem?_cons_succ,List.getElem?_replicate,if_pos hi] at h1
  cases h1
  obtain ⟨m,rfl,hm⟩:=ok_int h8 h3
  exact ⟨m,h2,hm⟩
 obtain ⟨b,hb1,hb2⟩:=UZ (cs:=cs) (o:=1) (m:=16) (by omega) fun i hi=>hb i (by omega)
 obtain ⟨w,hw1,hw2⟩:=UZ (cs:=cs) (o:=17) (m:=16) (by omega) fun i hi=>by have:=hb (16+i) (by omega);rwa [show 1+(16+i)=17+i by omega] at this
 have hn':=aep hn
 refine ⟨n,b,w,?_,hb1,hw1,by omega,by omega⟩
 congr 2
 cases cs with
 |nil=>simp at hl
 |cons c cs=>
  simp only [List.getElem?_cons_zero,Option.some.injEq] at h2
  subst h2
  simp only [DC]
  congr 1
  rw [←hb2,←hw2]
  simp only [List.drop_succ_cons,List.drop_zero]
  simp only [List.length_cons] at hl
  rw [List.take_of_length_le (l:=cs.drop 16) (by simp;omega)]
  exact (List.take_append_drop 16 cs).symm
end
end Go.Bm
