/- Rules for arrays and structs. -/
import Derived.Test.YtkapkmjofpoebaaGreatAmS
set_option linter.unusedVariables false
set_option linter.unusedSimpArgs false
namespace Go.Am
open Go
def OW (n e:Nat):Value→Value→Option Value
 | .pointer (some ⟨b,o,none⟩), .int _ i=>if 0≤i∧i<n then some (P b (o+i.toNat*e)) else none
 | _,_=>none
theorem JW {n e b o:Nat} {k:IntKind} {i:Int}:OW n e (P b o) (.int k i)=if 0≤i∧i<n then some (P b (o+i.toNat*e)) else none:=rfl
def Zv (off:Nat):Value→Option Value
 | .pointer (some ⟨b,o,none⟩)=>some (P b (o+off))
 | _=>none
theorem ap6 {off b o:Nat}:Zv off (P b o)=some (P b (o+off)):=rfl
def Ot (n:Option Nat) (off:Nat):Value→Option Value
 | .agg cs=>bV n cs.toList off
 | _=>none
theorem Zk {n:Option Nat} {off:Nat} {cs:List Value}:Ot n off (eY cs)=bV n cs off:=rfl
def Cj (len e:Nat) (n:Option Nat):Value→Value→Option Value
 | .agg cs, .int _ i=>if 0≤i∧i<len then bV n cs.toList (i.toNat*e) else none
 | _,_=>none
theorem ak3 {len e:Nat} {n:Option Nat} {cs:List Value} {k:IntKind} {i:Int}:Cj len e n (eY cs) (.int k i)=if 0≤i∧i<len then bV n cs (i.toNat*e) else none:=rfl
def Zw:Value→Option Value
 | .pointer (some a)=>some (.pointer (some a))
 | _=>none
theorem ap7 {a:Addr}:Zw (.pointer (some a))=some (.pointer (some a)):=rfl
section
variable {d:Option Nat} {t:Option Nat} {r:List cO} {K:Fr→aA→Prop} {f:Fr} {H:aA}
theorem JI {z:List Value}:opsT d (⟨t, .alloc z,none⟩::r) K f H=opsT (dn d) r K (dR f t (P H.n 0)) (H.alloc z):=by
 rw [oO (by simp) (by simp) (by simp) (by simp) (by simp)];rfl
theorem Om {x:aN}:opsT d (⟨t, .box x,none⟩::r) K f H=opsT (dn d) r K (dR f t (P H.n 0)) (H.alloc (iq (ev f x))):=by
 rw [oO (by simp) (by simp) (by simp) (by simp) (by simp)];rfl
theorem JJ {z:List Value} {p:List (Nat×Nat×aN)}:opsT d (⟨t, .build z p,none⟩::r) K f H=dV ((dG z (p.map fun p=>(p.1,p.2.1,ev f p.2.2))).map eY) (eH d t r K f H):=
 fE (by simp) (by simp) (by simp) (by simp) (by simp) (by simp only [aS];rw [Option.map_map];rfl)
theorem Ad {n e:Nat} {x i:aN}:opsT d (⟨t, .indexAddr (some n) e x i,none⟩::r) K f H=dV (OW n e (ev f x) (ev f i)) (eH d t r K f H):=
 fE (by simp) (by simp) (by simp) (by simp) (by simp) (by
  simp only [aS]
  generalize ev f x=vx
  generalize ev f i=vi
  cases vx<;>try rfl
  rename_i a
  cases a<;>try rfl
  rename_i a
  obtain ⟨b,o,sp⟩:=a
  cases sp<;>cases vi<;>try rfl
  simp only [intOf,OW]
  split<;>rfl)
theorem Oo {o:Nat} {x:aN}:opsT d (⟨t, .fieldAddr o x,none⟩::r) K f H=dV (Zv o (ev f x)) (eH d t r K f H):=
 fE (by simp) (by simp) (by simp) (by simp) (by simp) (by
  simp only [aS]
  generalize ev f x=vx
  cases vx<;>try rfl
  rename_i a
  cases a<;>try rfl
  rename_i a
  obtain ⟨b,o,sp⟩:=a
  cases sp<;>rfl)
theorem Oq {n:Option Nat} {o:Nat} {x:aN}:opsT d (⟨t, .field n o x,none⟩::r) K f H=dV (Ot n o (ev f x)) (eH d t r K f H):=
 fE (by simp) (by simp) (by simp) (by simp) (by simp) (by simp only [aS];cases ev f x<;>rfl)
theorem Ou {l e:Nat} {n:Option Nat} {x i:aN}:opsT d (⟨t, .index l e n x i,none⟩::r) K f H=dV (Cj l e n (ev f x) (ev f i)) (eH d t r K f H):=
 fE (by simp) (by simp) (by simp) (by simp) (by simp) (by
  simp only [aS]
  generalize ev f x=vx
  generalize ev f i=vi
  cases vx<;>cases vi<;>try rfl
  simp only [intOf,Cj]
  split<;>rfl)
theorem Ov {x:aN}:opsT d (⟨t, .nilCheck x,none⟩::r) K f H=dV (Zw (ev f x)) (eH d t r K f H):=
 fE (by simp) (by simp) (by simp) (by simp) (by simp) (by
  simp only [aS]
  generalize ev f x=vx
  cases vx<;>try rfl
  rename_i a
  cases a<;>rfl)
theorem Oh {n:Nat}:opsT d (⟨t, .lenConst n,none⟩::r) K f H=opsT (dn d) r K (dR f t (.int .i64 n)) H:=by
 rw [oO (by simp) (by simp) (by simp) (by simp) (by simp)];rfl
theorem akZ {g:aN} {as:List aN} {cap:Nat} {caps:Array Value} (hg:ev f g= .func (.func cap) #[] caps):opsT d (⟨t, .kV g as,none⟩::r) K f H=kP cap (as.map (ev f)++caps.toList) H (Iw d t r K f H):=by
 rw [opsT]
 simp only [iQ,if_true,hg,true_and]
 rfl
end
end Go.Am
