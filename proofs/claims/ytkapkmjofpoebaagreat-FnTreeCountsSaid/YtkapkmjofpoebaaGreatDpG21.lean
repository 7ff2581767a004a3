/- DpWb -/
import Derived.Test.YtkapkmjofpoebaaGreatDpG16
import Derived.Test.YtkapkmjofpoebaaGreatDpG18
import Derived.Test.YtkapkmjofpoebaaGreatDpG19
set_option linter.unusedVariables false
set_option linter.unusedSimpArgs false
set_option linter.unusedSectionVars false
namespace Go.Bm
open Go Go.Am
def vW (s:List UInt8):Nat:=(iZ (dY s) (eX s) (s.length/2-1)).2
def oK (s:List UInt8):Nat:=s.length/2/vW s
def Gj (b w:List Nat):Nat→List UInt8×Nat
 |0=>(wd b w 0,1)
 |k+1=>match Gj b w k,wd b w (k+1) with
  |(best,many),s=>if s=best then (best,many+1) else if Op.bytesLess s best=true then (s,1) else (best,many)
theorem aaD {b w:List Nat}: ∀k,iZ b w k=Gj b w k
 |0=>rfl
 |k+1=>by
  rw [iZ,Gj,←aaD k]
  simp only [La,zy,decide_eq_true_eq]
def quL:Nat→List Nat
 |1=>[1]
 |2=>[1,1]
 |3=>[3,1,1]
 |4=>[2,4,4,2,1,1]
 |5=>[5,5,5,5,5,5,5,5,1,1]
 |6=>[3,6,6,6,6,3,6,6,6,3,2,6,6,6,3,6,6,6,6,6,6,3,6,2,3,6,1,1]
 |7=>[7,7,7,7,7,7,7,7,7,7,7,7,7,7,7,7,7,7,7,7,7,7,7,7,7,7,7,7,7,7,7,7,7,7,7,7,7,7,7,7,7,7,7,7,7,7,7,7,7,7,7,7,7,7,7,7,7,7,7,7,7,1,1]
 |8=>[4,8,8,8,8,8,8,4,8,8,8,8,8,4,8,8,8,8,8,8,8,8,8,8,8,8,8,8,8,8,4,8,8,8,8,8,8,8,8,8,8,8,8,8,8,8,8,8,4,8,8,8,8,8,8,8,8,8,8,8,8,8,8,4,8,8,8,8,8,8,8,8,8,8,8,8,8,8,8,8,8,8,8,4,8,8,8,8,8,8,8,8,8,8,8,8,8,4,8,8,8,8,8,8,8,8,8,8,8,8,4,8,8,8,8,8,8,8,8,8,8,2,8,8,8,8,8,8,8,8,8,8,8,8,8,8,8,8,8,8,4,8,8,8,8,8,4,8,8,8,4,8,8,8,4,8,8,8,8,8,8,8,8,8,8,8,8,8,8,4,8,8,8,8,8,4,8,8,8,8,8,8,2,8,8,8,4,8,1,1]
 | _=>[]
theorem amq:[1,2,3,4,5,6,7,8].all (fun n=>decide ((DL n).map (fun s=>s.length/2/(Gj (dY s) (eX s) (s.length/2-1)).2)=quL n))=true:=by decide+kernel
def G7 (t u:List Nat):List (List Nat×List Nat)→List Nat→Nat
 |(a,b)::l,q::r=>if a=t∧b=u then q+G7 t u l r else G7 t u l r
 | _,_=>0
theorem aaC {t u:List Nat} {f:List UInt8→List Nat×List Nat} {g:List UInt8→Nat}: ∀l:List (List UInt8),G7 t u (l.map f) (l.map g)=((l.filter fun s=>decide ((f s).1=t)&&decide ((f s).2=u)).map g).sum
 |[]=>rfl
 |s::l=>by
  rw [List.map_cons,List.map_cons,List.filter_cons,G7,aaC l]
  by_cases h:(f s).1=t∧(f s).2=u
  ·rw [if_pos h,if_pos (by simp [h.1,h.2]),List.map_cons,List.sum_cons]
  ·rw [if_neg h,if_neg (by simpa using h)]
theorem amo:[1,2,3,4,5,6,7,8].all (fun n=>(zo n n n).all fun t=>(zo n n n).all fun u=>decide ((G7 t u (tys n) (quL n):Int)=(qo (gY t) (gY u)).1))=true:=by decide+kernel
theorem aaz: ∀{k n m:Nat} {r:List Nat},n≤k→r.sum=n→(∀x∈r,1≤x)→(∀x,r.head? =some x→x≤m)→r.Pairwise (fun a b=>b≤a)→r∈zo k n m
 |0,n,m,r,hk,hs,h1,_,_=>by
  cases r with
  |nil=>simp [zo]
  |cons x r=>have:=h1 x (by simp);rw [List.sum_cons] at hs;omega
 |k+1,n,m,r,hk,hs,h1,hm,hp=>by
  cases r with
  |nil=>
   obtain rfl:n=0:=by simpa using hs.symm
   simp [zo]
  |cons x r=>
   have hx:=h1 x (by simp)
   have hxm:=hm x rfl
   rw [List.sum_cons] at hs
   rw [zo,if_neg (by omega),List.mem_flatMap]
   rw [List.pairwise_cons] at hp
   refine ⟨x-1,by rw [List.mem_range];omega,?_⟩
   rw [Nat.sub_add_cancel hx,List.mem_map]
   refine ⟨r,aaz (by omega) (by omega) (fun y hy=>h1 y (by simp [hy])) (fun y hy=>hp.1 y ?_) hp.2,rfl⟩
   cases r with
   |nil=>simp at hy
   |cons a l=>simp at hy;simp [hy]
end Go.Bm
