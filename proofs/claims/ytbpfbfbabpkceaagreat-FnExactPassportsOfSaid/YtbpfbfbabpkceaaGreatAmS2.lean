/- Rules for arrays and structs. -/
import Derived.Test.YtbpfbfbabpkceaaGreatAmS
set_option linter.unusedVariables false
set_option linter.unusedSimpArgs false
namespace Go.Am
open Go
def Ic (n e:Nat):Value→Value→Option Value
 | .pointer (some ⟨b,o,none⟩), .int _ i=>if 0≤i∧i<n then some (P b (o+i.toNat*e)) else none
 | _,_=>none
theorem agN {n e b o:Nat} {k:IntKind} {i:Int}:Ic n e (P b o) (.int k i)=if 0≤i∧i<n then some (P b (o+i.toNat*e)) else none:=rfl
def Uu (off:Nat):Value→Option Value
 | .pointer (some ⟨b,o,none⟩)=>some (P b (o+off))
 | _=>none
theorem agO {off b o:Nat}:Uu off (P b o)=some (P b (o+off)):=rfl
def Hu (n:Option Nat) (off:Nat):Value→Option Value
 | .agg cs=>getN n cs.toList off
 | _=>none
theorem Ul {n:Option Nat} {off:Nat} {cs:List Value}:Hu n off (aggL cs)=getN n cs off:=rfl
def wC (len e:Nat) (n:Option Nat):Value→Value→Option Value
 | .agg cs, .int _ i=>if 0≤i∧i<len then getN n cs.toList (i.toNat*e) else none
 | _,_=>none
theorem adS {len e:Nat} {n:Option Nat} {cs:List Value} {k:IntKind} {i:Int}:wC len e n (aggL cs) (.int k i)=if 0≤i∧i<len then getN n cs (i.toNat*e) else none:=rfl
def Uw:Value→Option Value
 | .pointer (some a)=>some (.pointer (some a))
 | _=>none
theorem agP {a:Addr}:Uw (.pointer (some a))=some (.pointer (some a)):=rfl
section
variable {d:Option Nat} {t:Option Nat} {r:List AOper} {K:Fr→AHeap→Prop} {f:Fr} {H:AHeap}
theorem Hl {z:List Value}:opsT d (⟨t, .alloc z,none⟩::r) K f H=opsT (dn d) r K (updO f t (P H.n 0)) (H.alloc z):=by
 rw [jW (by simp) (by simp) (by simp) (by simp) (by simp)];rfl
theorem Ho {x:Opd}:opsT d (⟨t, .box x,none⟩::r) K f H=opsT (dn d) r K (updO f t (P H.n 0)) (H.alloc (cellsL (ev f x))):=by
 rw [jW (by simp) (by simp) (by simp) (by simp) (by simp)];rfl
theorem Hq {z:List Value} {p:List (Nat×Nat×Opd)}:opsT d (⟨t, .build z p,none⟩::r) K f H=bJ ((fillL z (p.map fun p=>(p.1,p.2.1,ev f p.2.2))).map aggL) (bQ d t r K f H):=
 dB (by simp) (by simp) (by simp) (by simp) (by simp) (by simp only [aOp];rw [Option.map_map];rfl)
theorem G9 {n e:Nat} {x i:Opd}:opsT d (⟨t, .indexAddr (some n) e x i,none⟩::r) K f H=bJ (Ic n e (ev f x) (ev f i)) (bQ d t r K f H):=
 dB (by simp) (by simp) (by simp) (by simp) (by simp) (by
  simp only [aOp]
  generalize ev f x=vx
  generalize ev f i=vi
  cases vx<;>try rfl
  rename_i a
  cases a<;>try rfl
  rename_i a
  obtain ⟨b,o,sp⟩:=a
  cases sp<;>cases vi<;>try rfl
  simp only [intOf,Ic]
  split<;>rfl)
theorem Hr {o:Nat} {x:Opd}:opsT d (⟨t, .fieldAddr o x,none⟩::r) K f H=bJ (Uu o (ev f x)) (bQ d t r K f H):=
 dB (by simp) (by simp) (by simp) (by simp) (by simp) (by
  simp only [aOp]
  generalize ev f x=vx
  cases vx<;>try rfl
  rename_i a
  cases a<;>try rfl
  rename_i a
  obtain ⟨b,o,sp⟩:=a
  cases sp<;>rfl)
theorem Ht {n:Option Nat} {o:Nat} {x:Opd}:opsT d (⟨t, .field n o x,none⟩::r) K f H=bJ (Hu n o (ev f x)) (bQ d t r K f H):=
 dB (by simp) (by simp) (by simp) (by simp) (by simp) (by simp only [aOp];cases ev f x<;>rfl)
theorem Hw {l e:Nat} {n:Option Nat} {x i:Opd}:opsT d (⟨t, .index l e n x i,none⟩::r) K f H=bJ (wC l e n (ev f x) (ev f i)) (bQ d t r K f H):=
 dB (by simp) (by simp) (by simp) (by simp) (by simp) (by
  simp only [aOp]
  generalize ev f x=vx
  generalize ev f i=vi
  cases vx<;>cases vi<;>try rfl
  simp only [intOf,wC]
  split<;>rfl)
theorem Hy {x:Opd}:opsT d (⟨t, .nilCheck x,none⟩::r) K f H=bJ (Uw (ev f x)) (bQ d t r K f H):=
 dB (by simp) (by simp) (by simp) (by simp) (by simp) (by
  simp only [aOp]
  generalize ev f x=vx
  cases vx<;>try rfl
  rename_i a
  cases a<;>rfl)
theorem G8 {n:Nat}:opsT d (⟨t, .lenConst n,none⟩::r) K f H=opsT (dn d) r K (updO f t (.int .i64 n)) H:=by
 rw [jW (by simp) (by simp) (by simp) (by simp) (by simp)];rfl
theorem adP {g:Opd} {as:List Opd} {cap:Nat} {caps:Array Value} (hg:ev f g= .func (.func cap) #[] caps):opsT d (⟨t, .callv g as,none⟩::r) K f H=mW cap (as.map (ev f)++caps.toList) H (Au d t r K f H):=by
 rw [opsT]
 simp only [wantedA,if_true,hg,true_and]
 rfl
end
end Go.Am
