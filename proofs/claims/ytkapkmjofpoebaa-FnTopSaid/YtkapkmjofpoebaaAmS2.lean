/- Rules for arrays and structs. -/
import Derived.Test.YtkapkmjofpoebaaAmS
set_option linter.unusedVariables false
set_option linter.unusedSimpArgs false
namespace Go.Am
open Go
def Iz (n e:Nat):Value→Value→Option Value
 | .pointer (some ⟨b,o,none⟩), .int _ i=>if 0≤i∧i<n then some (P b (o+i.toNat*e)) else none
 | _,_=>none
theorem aiQ {n e b o:Nat} {k:IntKind} {i:Int}:Iz n e (P b o) (.int k i)=if 0≤i∧i<n then some (P b (o+i.toNat*e)) else none:=rfl
def TV (off:Nat):Value→Option Value
 | .pointer (some ⟨b,o,none⟩)=>some (P b (o+off))
 | _=>none
theorem aiR {off b o:Nat}:TV off (P b o)=some (P b (o+off)):=rfl
def Ic (n:Option Nat) (off:Nat):Value→Option Value
 | .agg cs=>aY n cs.toList off
 | _=>none
theorem TM {n:Option Nat} {off:Nat} {cs:List Value}:Ic n off (bJ cs)=aY n cs off:=rfl
def uN (len e:Nat) (n:Option Nat):Value→Value→Option Value
 | .agg cs, .int _ i=>if 0≤i∧i<len then aY n cs.toList (i.toNat*e) else none
 | _,_=>none
theorem aej {len e:Nat} {n:Option Nat} {cs:List Value} {k:IntKind} {i:Int}:uN len e n (bJ cs) (.int k i)=if 0≤i∧i<len then aY n cs (i.toNat*e) else none:=rfl
def TW:Value→Option Value
 | .pointer (some a)=>some (.pointer (some a))
 | _=>none
theorem aiS {a:Addr}:TW (.pointer (some a))=some (.pointer (some a)):=rfl
section
variable {d:Option Nat} {t:Option Nat} {r:List bT} {K:Fr→aA→Prop} {f:Fr} {H:aA}
theorem H7 {z:List Value}:opsT d (⟨t, .alloc z,none⟩::r) K f H=opsT (dn d) r K (dF f t (P H.n 0)) (H.alloc z):=by
 rw [kS (by simp) (by simp) (by simp) (by simp) (by simp)];rfl
theorem H8 {x:aB}:opsT d (⟨t, .box x,none⟩::r) K f H=opsT (dn d) r K (dF f t (P H.n 0)) (H.alloc (dL (ev f x))):=by
 rw [kS (by simp) (by simp) (by simp) (by simp) (by simp)];rfl
theorem H9 {z:List Value} {p:List (Nat×Nat×aB)}:opsT d (⟨t, .build z p,none⟩::r) K f H=dH ((bK z (p.map fun p=>(p.1,p.2.1,ev f p.2.2))).map bJ) (dK d t r K f H):=
 dS (by simp) (by simp) (by simp) (by simp) (by simp) (by simp only [aJ];rw [Option.map_map];rfl)
theorem Ht {n e:Nat} {x i:aB}:opsT d (⟨t, .indexAddr (some n) e x i,none⟩::r) K f H=dH (Iz n e (ev f x) (ev f i)) (dK d t r K f H):=
 dS (by simp) (by simp) (by simp) (by simp) (by simp) (by
  simp only [aJ]
  generalize ev f x=vx
  generalize ev f i=vi
  cases vx<;>try rfl
  rename_i a
  cases a<;>try rfl
  rename_i a
  obtain ⟨b,o,sp⟩:=a
  cases sp<;>cases vi<;>try rfl
  simp only [intOf,Iz]
  split<;>rfl)
theorem Ia {o:Nat} {x:aB}:opsT d (⟨t, .fieldAddr o x,none⟩::r) K f H=dH (TV o (ev f x)) (dK d t r K f H):=
 dS (by simp) (by simp) (by simp) (by simp) (by simp) (by
  simp only [aJ]
  generalize ev f x=vx
  cases vx<;>try rfl
  rename_i a
  cases a<;>try rfl
  rename_i a
  obtain ⟨b,o,sp⟩:=a
  cases sp<;>rfl)
theorem Ib {n:Option Nat} {o:Nat} {x:aB}:opsT d (⟨t, .field n o x,none⟩::r) K f H=dH (Ic n o (ev f x)) (dK d t r K f H):=
 dS (by simp) (by simp) (by simp) (by simp) (by simp) (by simp only [aJ];cases ev f x<;>rfl)
theorem Ie {l e:Nat} {n:Option Nat} {x i:aB}:opsT d (⟨t, .index l e n x i,none⟩::r) K f H=dH (uN l e n (ev f x) (ev f i)) (dK d t r K f H):=
 dS (by simp) (by simp) (by simp) (by simp) (by simp) (by
  simp only [aJ]
  generalize ev f x=vx
  generalize ev f i=vi
  cases vx<;>cases vi<;>try rfl
  simp only [intOf,uN]
  split<;>rfl)
theorem Ig {x:aB}:opsT d (⟨t, .nilCheck x,none⟩::r) K f H=dH (TW (ev f x)) (dK d t r K f H):=
 dS (by simp) (by simp) (by simp) (by simp) (by simp) (by
  simp only [aJ]
  generalize ev f x=vx
  cases vx<;>try rfl
  rename_i a
  cases a<;>rfl)
theorem Ho {n:Nat}:opsT d (⟨t, .lenConst n,none⟩::r) K f H=opsT (dn d) r K (dF f t (.int .i64 n)) H:=by
 rw [kS (by simp) (by simp) (by simp) (by simp) (by simp)];rfl
theorem aee {g:aB} {as:List aB} {cap:Nat} {caps:Array Value} (hg:ev f g= .func (.func cap) #[] caps):opsT d (⟨t, .jF g as,none⟩::r) K f H=oq cap (as.map (ev f)++caps.toList) H (CU d t r K f H):=by
 rw [opsT]
 simp only [fV,if_true,hg,true_and]
 rfl
end
end Go.Am
