/- DpTa, DpTf, DpTg, DpK, DpL, DpM, DpN -/
import Derived.Test.YtkapkmjofpoebaaGreatBmS
import Derived.Test.YtkapkmjofpoebaaGreatDpG0
set_option linter.unusedVariables false
set_option linter.unusedSimpArgs false
namespace Go.Bm
open Go Go.Am
theorem anH {b w:List Nat} {n:Nat} (hb:Perm b n) (hw:Perm w n):Perm (nV b w n) n:=by
 have hn:=hb.1
 refine ⟨hb.1,fun i _=>⟨fun h=>by rw [FY (by omega),if_neg (by omega)],fun h=>?_⟩⟩
 have hi:i<n:=by omega
 rw [FY (by omega),if_pos hi]
 have h1:=hw.lt (hb.lt hi)
 refine ⟨by omega,fun j hj e=>?_⟩
 rw [FY (by omega),if_pos (by omega)] at e
 have:=hb.inj (by omega) hi (hw.inj (hb.lt (by omega)) (hb.lt hi) e)
 omega
theorem GZ {b w:List Nat} {n:Nat} (hb:Perm b n) (hw:Perm w n):Perm (uT b w n) n:=(anH hb hw).back
def Tree (n:Nat) (b w:List Nat):Prop:=(aP (uT b w n) n).length=1∧(aP b n).length+(aP w n).length=n+1
instance (n:Nat) (b w:List Nat):Decidable (Tree n b w):=by unfold Tree;infer_instance
def jI (p:List Nat) (n x:Nat):Nat:=(aP p n).findIdx fun c=>c.contains x
theorem qp {p:List Nat} {n x:Nat} (hp:Perm p n) (hx:x<n):jI p n x<(aP p n).length:=by
 obtain ⟨c,hc,hxc⟩:=zh hp hx
 exact List.findIdx_lt_length_of_exists ⟨c,hc,by simpa using hxc⟩
theorem zK {p:List Nat} {n x:Nat} (hp:Perm p n) (hx:x<n):x∈(aP p n)[jI p n x]'(qp hp hx):=by
 have h2:((aP p n)[jI p n x]'(qp hp hx)).contains x=true:=List.findIdx_getElem (w:=qp hp hx)
 simpa using h2
theorem anI {p:List Nat} {n:Nat} (hp:Perm p n):(aP p n).flatten.Nodup:=(rX.all rfl hp (Nat.le_refl n)).jX
theorem ab5: ∀{cs:List (List Nat)} {i j x:Nat} (hi:i<cs.length) (hj:j<cs.length),cs.flatten.Nodup→x∈cs[i]→x∈cs[j]→i=j
 |c::cs,0,0,x,_,_,_,_,_=>rfl
 |c::cs,0,j+1,x,_,hj,hn,h1,h2=>by
  rw [List.flatten_cons,List.nodup_append] at hn
  exact absurd rfl (hn.2.2 x h1 x (List.mem_flatten.2 ⟨_,List.getElem_mem (by simpa using hj),h2⟩))
 |c::cs,i+1,0,x,hi,_,hn,h1,h2=>by
  rw [List.flatten_cons,List.nodup_append] at hn
  exact absurd rfl (hn.2.2 x h2 x (List.mem_flatten.2 ⟨_,List.getElem_mem (by simpa using hi),h1⟩))
 |c::cs,i+1,j+1,x,hi,hj,hn,h1,h2=>by
  rw [List.flatten_cons,List.nodup_append] at hn
  rw [ab5 (cs:=cs) (by simpa using hi) (by simpa using hj) hn.2.1 h1 h2]
theorem DI {p:List Nat} {n x i:Nat} (hp:Perm p n) (hx:x<n) (hi:i<(aP p n).length) (h:x∈(aP p n)[i]):jI p n x=i:=
 ab5 (qp hp hx) hi (anI hp) (zK hp hx) h
theorem wC {p:List Nat} {n x:Nat} (hp:Perm p n) (hx:x<n):jI p n (nl p x)=jI p n x:=
 DI hp (hp.lt hx) (qp hp hx) ((oJ hp (List.getElem_mem _)).fwd (zK hp hx))
theorem GI {p:List Nat} {n i:Nat} (hp:Perm p n) (hi:i<(aP p n).length): ∃x,x<n∧jI p n x=i:=by
 have hc:=oJ hp (List.getElem_mem hi)
 have hm:nl (aP p n)[i] 0∈(aP p n)[i]:=iM hc.ne
 exact ⟨_,hc.lt _ hm,DI hp (hc.lt _ hm) hi hm⟩
def merge (f:Nat→Nat) (e:Nat×Nat):Nat→Nat:=fun x=>if f x=f e.1 then f e.2 else f x
def pieces (es:List (Nat×Nat)):Nat→Nat:=es.foldl merge id
theorem ab6: ∀(es:List (Nat×Nat)) (f:Nat→Nat) (V m:Nat) (S:List Nat),S.Nodup→m+es.length≤S.length→(∀a∈S,∃x,x<V∧f x=a)→
  ∃S':List Nat,S'.Nodup∧m≤S'.length∧ ∀a∈S',∃x,x<V∧(es.foldl merge f) x=a
 |[],f,V,m,S,h1,h2,h3=>⟨S,h1,by simpa using h2,h3⟩
 |e::es,f,V,m,S,h1,h2,h3=>by
  have hl:=List.length_erase (a:=f e.1) (l:=S)
  refine ab6 es (merge f e) V m (S.erase (f e.1)) (h1.erase _) ?_ fun a ha=>?_
  ·simp only [List.length_cons] at h2
   split at hl<;>omega
  ·obtain ⟨x,hx,hxa⟩:=h3 a (List.mem_of_mem_erase ha)
   refine ⟨x,hx,?_⟩
   have hne:a≠f e.1:=fun h=>by
    subst h
    exact (List.Nodup.not_mem_erase h1) ha
   rw [merge,if_neg (by rw [hxa];exact hne),hxa]
theorem ab7: ∀(es:List (Nat×Nat)) (f:Nat→Nat) (x y:Nat),f x=f y→(es.foldl merge f) x=(es.foldl merge f) y
 |[],f,x,y,h=>h
 |e::es,f,x,y,h=>ab7 es (merge f e) x y (by simp only [merge,h])
theorem ab8: ∀(es:List (Nat×Nat)) (f:Nat→Nat) (e:Nat×Nat),e∈es→(es.foldl merge f) e.1=(es.foldl merge f) e.2
 |e'::es,f,e,h=>by
  rcases List.mem_cons.1 h with rfl|h
  ·exact ab7 es _ _ _ (by
    simp only [merge,if_true]
    split
    ·rfl
    ·rfl)
  ·exact ab8 es (merge f e') e h
section
variable {b w:List Nat} {n:Nat}
def ends (b w:List Nat) (n:Nat) (c:Bool) (x:Nat):Nat:=if c then (aP b n).length+jI w n x else jI b n x
def others (b w:List Nat) (n y:Nat):List (Nat×Nat):=((List.range n).filter fun z=>z !=y).map fun z=>(ends b w n false z,ends b w n true z)
def lab (b w:List Nat) (n y:Nat):Nat→Nat:=pieces (others b w n y)
theorem Ba {y z:Nat} (hz:z<n) (h:z≠y) (c c':Bool):lab b w n y (ends b w n c z)=lab b w n y (ends b w n c' z):=by
 have key:lab b w n y (ends b w n false z)=lab b w n y (ends b w n true z):=
  ab8 _ id (ends b w n false z,ends b w n true z) (List.mem_map.2 ⟨z,List.mem_filter.2 ⟨List.mem_range.2 hz,by simpa using h⟩,rfl⟩)
 cases c<;>cases c'<;>first|rfl|exact key|exact key.symm
theorem anJ {y:Nat} (hy:y<n):((List.range n).filter fun z=>z !=y).length+1=n:=by
 have h1:((List.range n).filter fun z=>z !=y)=(List.range n).erase y:=(List.Nodup.erase_eq_filter List.nodup_range y).symm
 rw [h1,List.length_erase_of_mem (List.mem_range.2 hy),List.length_range]
 omega
theorem Tree.apart (hd:bC n b w) (ht:Tree n b w) {y:Nat} (hy:y<n):lab b w n y (ends b w n false y)≠lab b w n y (ends b w n true y):=by
 intro he
 obtain ⟨hb,hw,_⟩:=id hd
 have hall: ∀z,z<n→lab b w n y (ends b w n false z)=lab b w n y (ends b w n true z):=fun z hz=>by
  by_cases e:z=y
  ·rw [e];exact he
  ·exact Ba hz e _ _
 have hone:=hd.ind (fun z=>lab b w n y (ends b w n false z)=lab b w n y (ends b w n false 0))
  (fun z hz hS=>by
   have e:ends b w n false (nl b z)=ends b w n false z:=by simp only [ends];exact wC hb hz
   rw [e];exact hS)
  (fun z hz hS=>by
   have e:ends b w n true (nl w z)=ends b w n true z:=by simp only [ends,if_true];rw [wC hw hz]
   rw [hall _ (hw.lt hz),e,←hall z hz];exact hS) rfl
 obtain ⟨S,h1,h2,h3⟩:=ab6 (others b w n y) id (n+1) 2 (List.range (n+1)) List.nodup_range (by
  have:=anJ hy
  rw [others,List.length_map,List.length_range]
  omega) (fun a ha=>⟨a,List.mem_range.1 ha,rfl⟩)
 have ab9: ∀v,v<n+1→lab b w n y v=lab b w n y (ends b w n false 0):=fun v hv=>by
  have ht2:=ht.2
  rcases Nat.lt_or_ge v (aP b n).length with h|h
  ·obtain ⟨x,hx,rfl⟩:=GI hb h
   exact hone x hx
  ·obtain ⟨x,hx,hxv⟩:=GI hw (show v-(aP b n).length<(aP w n).length by omega)
   have e:v=ends b w n true x:=by simp only [ends,if_true];omega
   rw [e,←hall x hx]
   exact hone x hx
 match S,h1,h2,h3 with
 |[],_,h2,_=>simp at h2
 |[_],_,h2,_=>simp at h2
 |a::a'::_,h1,_,h3=>
  obtain ⟨x,hx,hxa⟩:=h3 a (by simp)
  obtain ⟨x',hx',anK⟩:=h3 a' (by simp)
  have e1:lab b w n y x=a:=hxa
  have e2:lab b w n y x'=a':=anK
  have:a=a':=by rw [←e1,←e2,ab9 x hx,ab9 x' hx']
  simp only [List.nodup_cons,List.mem_cons] at h1
  exact h1.1 (.inl this)
theorem Tree.apart' (hd:bC n b w) (ht:Tree n b w) {y:Nat} (hy:y<n) (c:Bool):lab b w n y (ends b w n c y)≠lab b w n y (ends b w n (!c) y):=by
 cases c
 ·exact ht.apart hd hy
 ·exact (ht.apart hd hy).symm
theorem bC.indx (h:bC n b w) {x:Nat} (hx:x<n) (S:Nat→Prop) (s1: ∀z,z<n→S z→S (nl b z)) (s2: ∀z,z<n→S z→S (nl w z)) (s0:S x): ∀z,z<n→S z:=by
 have key:=h.ind (fun z=>S z↔S 0)
  (fun z hz hS=>by rw [←hS];exact ⟨Ky h.1 s1 hz,s1 z hz⟩)
  (fun z hz hS=>by rw [←hS];exact ⟨Ky h.2.1 s2 hz,s2 z hz⟩) Iff.rfl
 exact fun z hz=>(key z hz).2 ((key x hx).1 s0)
def behind (b w:List Nat) (n:Nat) (c:Bool) (x:Nat):List Nat:=(List.range n).filter fun z=>z !=x&&lab b w n x (ends b w n false z)==lab b w n x (ends b w n c x)
theorem zM {c:Bool} {x z:Nat}:z∈behind b w n c x↔z<n∧z≠x∧lab b w n x (ends b w n false z)=lab b w n x (ends b w n c x):=by
 simp [behind]
theorem LW {c:Bool} {x:Nat}:(behind b w n c x).Nodup:=List.Pairwise.filter _ List.nodup_range
theorem qQ (hd:bC n b w) (ht:Tree n b w) {c:Bool} {x y:Nat} (hx:x<n) (hy:y<n) (hxy:y≠x) (hc:ends b w n c y=ends b w n c x):
  (behind b w n (!c) y).length<(behind b w n c x).length:=by
 obtain ⟨hb,hw,_⟩:=id hd
 have hap:=ht.apart' hd hy c
 have hA: ∀z,z<n→z≠y→lab b w n y (ends b w n false z)=lab b w n y (ends b w n (!c) y)→z≠x:=fun z hz hzy h e=>by
  subst e
  rw [Ba hz hzy false c,←hc] at h
  exact hap h
 have hyx: ∀c',lab b w n x (ends b w n c' y)=lab b w n x (ends b w n c x):=fun c'=>by rw [Ba hy hxy c' c,hc]
 have hsub:=hd.indx hx (fun z=> ¬((z≠y∧lab b w n y (ends b w n false z)=lab b w n y (ends b w n (!c) y))∧ ¬lab b w n x (ends b w n false z)=lab b w n x (ends b w n c x)))
  (fun z hz hS hB=>by
   obtain ⟨⟨h1,h2⟩,h3⟩:=hB
   have e:ends b w n false (nl b z)=ends b w n false z:=by simp only [ends];exact wC hb hz
   rw [e] at h2 h3
   refine hS ⟨⟨fun hzy=>?_,h2⟩,h3⟩
   subst hzy
   exact h3 (hyx _))
  (fun z hz hS hB=>by
   obtain ⟨⟨h1,h2⟩,h3⟩:=hB
   have e:ends b w n true (nl w z)=ends b w n true z:=by simp only [ends,if_true];rw [wC hw hz]
   have anL:=hA _ (hw.lt hz) h1 h2
   rw [Ba (hw.lt hz) h1 false true,e] at h2
   rw [Ba (hw.lt hz) anL false true,e] at h3
   by_cases hzy:z=y
   ·subst hzy
    exact h3 (hyx _)
   ·rw [Ba hz hzy true false] at h2
    have hzx:=hA z hz hzy h2
    rw [Ba hz hzx true false] at h3
    exact hS ⟨⟨hzy,h2⟩,h3⟩)
  (fun hB=>hA x hx hB.1.1 hB.1.2 rfl)
 have:=List.Nodup.length_le_of_subset (l₁:=y::behind b w n (!c) y) (l₂:=behind b w n c x) (List.nodup_cons.2 ⟨fun h=>(zM.1 h).2.1 rfl,LW⟩) (fun z hz=>by
  rw [zM]
  rcases List.mem_cons.1 hz with rfl|hz
  ·exact ⟨hy,hxy,hyx _⟩
  ·obtain ⟨h1,h2,h3⟩:=zM.1 hz
   refine ⟨h1,hA z h1 h2 h3,?_⟩
   have:=hsub z h1
   exact Classical.byContradiction fun hn=>this ⟨⟨h2,h3⟩,hn⟩)
 rw [List.length_cons] at this
 omega
def rng (p:List Nat) (x:Nat):Nat→Nat→List Nat
 |0,_=>[]
 |k+1,y=>if y=x then [] else y::rng p x k (nl p y)
def ring (p:List Nat) (x:Nat):List Nat:=rng p x 16 (nl p x)
theorem acd {p:List Nat} (hp:Perm p n) {x:Nat}: ∀{k y:Nat},y<n→jI p n y=jI p n x→ ∀z∈rng p x k y,z<n∧z≠x∧jI p n z=jI p n x
 |0,_,_,_,z,hz=>by simp [rng] at hz
 |k+1,y,hy,hv,z,hz=>by
  simp only [rng] at hz
  split at hz
  ·simp at hz
  ·rename_i hyx
   rcases List.mem_cons.1 hz with rfl|hz
   ·exact ⟨hy,hyx,hv⟩
   ·exact acd hp (hp.lt hy) (by rw [wC hp hy,hv]) z hz
theorem Bc {p:List Nat} (hp:Perm p n) {x:Nat} (hx:x<n): ∀z∈ring p x,z<n∧z≠x∧jI p n z=jI p n x:=
 acd hp (hp.lt hx) (wC hp hx)
abbrev pc (b w:List Nat) (c:Bool):List Nat:=if c then w else b
def jo (ts:List (List UInt8)):List UInt8:=ts.flatMap fun t=>40::(t++[41])
theorem LC {ts:List (List UInt8)} {t:List UInt8}:jo (ts++[t])=jo ts++(40::(t++[41])):=by simp [jo]
theorem LX {M:Nat}: ∀{ts:List (List UInt8)},(∀t∈ts,t.length+2≤M)→(jo ts).length≤ts.length*M
 |[],_=>by simp [jo]
 |t::ts,h=>by
  have ih:=LX (ts:=ts) fun t ht=>h t (by simp [ht])
  have h1:=h t (by simp)
  have e:jo (t::ts)=(40::(t++[41]))++jo ts:=by simp [jo]
  rw [e]
  simp only [List.length_cons,List.length_append,List.length_nil,Nat.succ_mul]
  omega
theorem GK {d r:List (List UInt8)} {t:List UInt8}:(jo d).length+t.length+2≤(jo (d++t::r)).length:=by
 have e:jo (d++t::r)=jo d++((40::(t++[41]))++jo r):=by simp [jo]
 rw [e]
 simp only [List.length_append,List.length_cons,List.length_nil]
 omega
def lG (b w:List Nat):Nat→Bool→Nat→Option (List UInt8)
 |0,_,_=>none
 |k+1,c,x=>((ring (pc b w c) x).mapM (lG b w k (!c))).map jo
theorem mapM_some {α β:Type} {f:α→Option β}: ∀{l:List α},(∀y∈l,∃s,f y=some s)→ ∃ts,l.mapM f=some ts
 |[],_=>⟨[],rfl⟩
 |a::l,h=>by
  obtain ⟨s,hs⟩:=h a (by simp)
  obtain ⟨ts,hts⟩:=mapM_some (l:=l) fun y hy=>h y (by simp [hy])
  exact ⟨s::ts,by simp [hs,hts]⟩
theorem anM (hd:bC n b w) (ht:Tree n b w): ∀(r k:Nat) (c:Bool) (x:Nat),x<n→(behind b w n c x).length≤r→r<k→ ∃s,lG b w k c x=some s:=by
 intro r
 induction r with
 |zero=>
  intro k c x hx hr hk
  obtain ⟨k,rfl⟩: ∃j,k=j+1:=⟨k-1,by omega⟩
  have hring:ring (pc b w c) x=[]:=by
   apply List.eq_nil_iff_forall_not_mem.2
   intro y hy
   have hp:Perm (pc b w c) n:=by cases c;exact hd.1;exact hd.2.1
   obtain ⟨h1,h2,h3⟩:=Bc hp hx y hy
   have:=qQ hd ht (c:=c) hx h1 h2 (by cases c<;>simp only [ends,pc] at h3⊢ <;>simpa using h3)
   omega
  rw [lG,hring]
  exact ⟨_,rfl⟩
 |succ r ih=>
  intro k c x hx hr hk
  obtain ⟨k,rfl⟩: ∃j,k=j+1:=⟨k-1,by omega⟩
  obtain ⟨ts,hts⟩:=mapM_some (f:=lG b w k (!c)) (l:=ring (pc b w c) x) fun y hy=>by
   have hp:Perm (pc b w c) n:=by cases c;exact hd.1;exact hd.2.1
   obtain ⟨h1,h2,h3⟩:=Bc hp hx y hy
   have:=qQ hd ht (c:=c) hx h1 h2 (by cases c<;>simp only [ends,pc] at h3⊢ <;>simpa using h3)
   exact ih k (!c) y h1 (by omega) (by omega)
  exact ⟨jo ts,by rw [lG,hts];rfl⟩
theorem QJ {c:Bool} {x:Nat}:(behind b w n c x).length≤n:=xB LW fun z hz=>(zM.1 hz).1
theorem QK {p:List Nat} {x:Nat}: ∀{k y:Nat},(rng p x k y).length≤k
 |0,_=>by simp [rng]
 |k+1,y=>by
  simp only [rng]
  split
  ·simp
  ·have:= @QK p x k (nl p y)
   simp
   omega
theorem mapM_mem {α β:Type} {f:α→Option β}: ∀{l:List α} {ts:List β},l.mapM f=some ts→ts.length=l.length∧ ∀t∈ts,∃y∈l,f y=some t
 |[],ts,h=>by
  have:ts=[]:=by simpa using h.symm
  subst this
  simp
 |a::l,ts,h=>by
  rw [List.mapM_cons] at h
  simp only [Option.pure_def,Option.bind_eq_bind,Option.bind_eq_some_iff,Option.some.injEq] at h
  obtain ⟨s,hs,ts',hts,rfl⟩:=h
  obtain ⟨h1,h2⟩:=mapM_mem hts
  refine ⟨by simp [h1],fun t ht=>?_⟩
  rcases List.mem_cons.1 ht with rfl|ht
  ·exact ⟨a,by simp,hs⟩
  ·obtain ⟨y,hy,he⟩:=h2 t ht
   exact ⟨y,by simp [hy],he⟩
theorem ace (hd:bC n b w) (ht:Tree n b w): ∀(r k:Nat) (c:Bool) (x:Nat) (s:List UInt8),x<n→(behind b w n c x).length≤r→lG b w k c x=some s→s.length+3≤4*16^r:=by
 intro r
 induction r with
 |zero=>
  intro k c x s hx hr hs
  cases k with
  |zero=>simp [lG] at hs
  |succ k=>
   have hring:ring (pc b w c) x=[]:=by
    apply List.eq_nil_iff_forall_not_mem.2
    intro y hy
    have hp:Perm (pc b w c) n:=by cases c;exact hd.1;exact hd.2.1
    obtain ⟨h1,h2,h3⟩:=Bc hp hx y hy
    have:=qQ hd ht (c:=c) hx h1 h2 (by cases c<;>simp only [ends,pc] at h3⊢ <;>simpa using h3)
    omega
   rw [lG,hring] at hs
   have:s=[]:=by simpa [jo] using hs.symm
   subst this
   simp
 |succ r ih=>
  intro k c x s hx hr hs
  cases k with
  |zero=>simp [lG] at hs
  |succ k=>
   rw [lG,Option.map_eq_some_iff] at hs
   obtain ⟨ts,hts,rfl⟩:=hs
   obtain ⟨h1,h2⟩:=mapM_mem hts
   have hl:= @QK (pc b w c) x 16 (nl (pc b w c) x)
   have hM:=LX (M:=4*16^r-1) (ts:=ts) fun t ht'=>by
    obtain ⟨y,hy,he⟩:=h2 t ht'
    have hp:Perm (pc b w c) n:=by cases c;exact hd.1;exact hd.2.1
    obtain ⟨g1,g2,g3⟩:=Bc hp hx y hy
    have:=qQ hd ht (c:=c) hx g1 g2 (by cases c<;>simp only [ends,pc] at g3⊢ <;>simpa using g3)
    have:=ih k (!c) y t g1 (by omega) he
    omega
   have h3:ts.length≤16:=by rw [h1];exact hl
   have h4:ts.length*(4*16^r-1)≤16*(4*16^r-1):=Nat.mul_le_mul_right _ h3
   have h5:0<16^r:=Nat.pos_of_ne_zero (by simp)
   rw [Nat.pow_succ]
   omega
theorem anN (hd:bC n b w) (ht:Tree n b w) {c:Bool} {x y:Nat} (hx:x<n) (hy:y<n) (hxy:y≠x) (hc:ends b w n c y=ends b w n c x):(behind b w n (!c) y).length+2≤n:=by
 have h1:=qQ hd ht hx hy hxy hc
 have h2:(behind b w n c x).length+1≤n:=by
  have:=xB (n:=n) (l:=x::behind b w n c x) (List.nodup_cons.2 ⟨fun h=>(zM.1 h).2.1 rfl,LW⟩) fun z hz=>by
   rcases List.mem_cons.1 hz with rfl|hz
   ·exact hx
   ·exact (zM.1 hz).1
  rw [List.length_cons] at this
  exact this
 omega
def wordAt (b w:List Nat) (x:Nat):Option (List UInt8):=((x::ring b x).mapM (lG b w 17 true)).map jo
theorem amY (hd:bC n b w) (ht:Tree n b w) {x:Nat} (hx:x<n): ∃s,wordAt b w x=some s:=by
 have hn:=hd.1.1
 obtain ⟨ts,hts⟩:=mapM_some (f:=lG b w 17 true) (l:=x::ring b x) fun y hy=>by
  have hy:y<n:=by
   rcases List.mem_cons.1 hy with rfl|hy
   ·exact hx
   ·exact (Bc hd.1 hx y hy).1
  exact anM hd ht n 17 true y hy QJ (by omega)
 exact ⟨jo ts,by rw [wordAt,hts];rfl⟩
theorem amZ (hd:bC n b w) (ht:Tree n b w) {x:Nat} (hx:x<n) {s:List UInt8} (hs:wordAt b w x=some s):s.length≤9000000000000000000:=by
 have hn:=hd.1.1
 rw [wordAt,Option.map_eq_some_iff] at hs
 obtain ⟨ts,hts,rfl⟩:=hs
 obtain ⟨h1,h2⟩:=mapM_mem hts
 have hl:(ring b x).length≤16:=QK
 rw [List.length_cons] at h1
 have hb0:(behind b w n true x).length+1≤n:=by
  have:=xB (n:=n) (l:=x::behind b w n true x) (List.nodup_cons.2 ⟨fun h=>(zM.1 h).2.1 rfl,LW⟩) fun z hz=>by
   rcases List.mem_cons.1 hz with rfl|hz
   ·exact hx
   ·exact (zM.1 hz).1
  rw [List.length_cons] at this
  exact this
 have p14:4*16^14=288230376151711744:=by decide
 have p15:4*16^15=4611686018427387904:=by decide
 by_cases hr:ring b x=[]
 ·rw [hr,List.length_nil] at h1
  have hM:=LX (M:=4611686018427387904) (ts:=ts) fun t ht'=>by
   obtain ⟨y,hy,he⟩:=h2 t ht'
   rw [hr,List.mem_singleton] at hy
   subst hy
   have:=ace hd ht 15 17 true y t hx (by omega) he
   omega
  rw [h1] at hM
  omega
 ·have hM:=LX (M:=288230376151711744) (ts:=ts) fun t ht'=>by
   obtain ⟨y,hy,he⟩:=h2 t ht'
   have key: ∀z,z<n→ ∀z',z'<n→z≠z'→ends b w n false z=ends b w n false z'→(behind b w n true z).length≤14:=fun z hz z' hz' hne he=>by
    have:=anN hd ht (c:=false) hz' hz hne he
    have e:(!false)=true:=rfl
    rw [e] at this
    omega
   have hyn:y<n∧(behind b w n true y).length≤14:=by
    obtain ⟨z,rest,hzr⟩:=List.exists_cons_of_ne_nil hr
    have hz:z∈ring b x:=by rw [hzr];simp
    obtain ⟨g1,g2,g3⟩:=Bc hd.1 hx z hz
    rcases List.mem_cons.1 hy with rfl|hy
    ·exact ⟨hx,key y hx z g1 g2.symm (by simp only [ends];exact g3.symm)⟩
    ·obtain ⟨k1,k2,k3⟩:=Bc hd.1 hx y hy
     exact ⟨k1,key y k1 x hx k2 (by simp only [ends];exact k3)⟩
   have:=ace hd ht 14 17 true y t hyn.1 hyn.2 he
   omega
  have h4:ts.length*288230376151711744≤17*288230376151711744:=Nat.mul_le_mul_right _ (by omega)
  omega
def it (p:List Nat) (x:Nat):Nat→Nat
 |0=>nl p x
 |i+1=>nl p (it p x i)
theorem xK {p:List Nat} (hp:Perm p n) {x:Nat} (hx:x<n): ∀i,it p x i<n
 |0=>hp.lt hx
 |i+1=>hp.lt (xK hp hx i)
theorem acf {p c:List Nat} (h:xw p n c) {m:Nat} (hm:m<c.length):nl p (nl c m)=nl c ((m+1)%c.length):=by
 by_cases e:m+1<c.length
 ·rw [h.step m e,Nat.mod_eq_of_lt e]
 ·obtain rfl:m=c.length-1:=by omega
  rw [h.last,Nat.sub_add_cancel h.ne,Nat.mod_self]
theorem LM {p c:List Nat} (h:xw p n c) {j:Nat} (hj:j<c.length): ∀i,it p (nl c j) i=nl c ((j+1+i)%c.length)
 |0=>acf h hj
 |i+1=>by
  rw [it,LM h hj i,acf h (Nat.mod_lt _ h.ne),Nat.mod_add_mod]
  congr 1
theorem Lu {p:List Nat} (hp:Perm p n) {x:Nat} (hx:x<n): ∃P,P<16∧it p x P=x:=by
 have hn:=hp.1
 obtain ⟨c,hc,hxc⟩:=zh hp hx
 have hi:=oJ hp hc
 have hl:=Ku hp hc
 obtain ⟨j,hj,rfl⟩:=uU hxc
 refine ⟨c.length-1,by omega,?_⟩
 rw [LM hi hj,show j+1+(c.length-1)=j+c.length by omega,Nat.add_mod_right,Nat.mod_eq_of_lt hj]
end
def bs (l:List UInt8):ByteArray:=⟨l.toArray⟩
theorem Dn {l:List UInt8}:(bs l).size=l.length:=by simp [bs,ByteArray.size]
theorem acg {a b:List UInt8}:bs a++bs b=bs (a++b):=by
 apply ByteArray.ext
 simp [bs]
theorem abh:(⟨#[40]⟩:ByteArray)=bs [40]:=rfl
theorem abj:(⟨#[41]⟩:ByteArray)=bs [41]:=rfl
theorem Dt {a b:List UInt8} (h:a.length+b.length≤9223372036854775807):jB .add (.string (bs a)) (.string (bs b))=some (.string (bs (a++b))):=by
 simp only [jB,Dn]
 rw [if_pos h,acg]
end Go.Bm
namespace Go.Bm
open Go Go.Am
section
variable {n:Nat} {b w:List Nat}
def Nb (b w:List Nat) (n:Nat) (c:Bool) (x y:Nat):Prop:=y<n∧y≠x∧ends b w n c y=ends b w n c x
instance (c:Bool) (x y:Nat):Decidable (Nb b w n c x y):=by unfold Nb;infer_instance
theorem Nb.symm {c:Bool} {x y:Nat} (hx:x<n) (h:Nb b w n c x y):Nb b w n c y x:=⟨hx,h.2.1.symm,h.2.2.symm⟩
def xQ (b w:List Nat) (n:Nat) (c:Bool) (x:Nat):List Nat:=(List.range n).filter fun y=>decide (Nb b w n c x y)
theorem zI {c:Bool} {x y:Nat}:y∈xQ b w n c x↔Nb b w n c x y:=by
 simp only [xQ,List.mem_filter,List.mem_range,decide_eq_true_eq]
 exact ⟨fun h=>h.2,fun h=>⟨h.1,h⟩⟩
def mx (f:Nat→Nat) (l:List Nat):Nat:=l.foldr (fun y m=>max (f y+1) m) 0
theorem Qw {f:Nat→Nat}: ∀{l:List Nat} {y:Nat},y∈l→f y+1≤mx f l
 |a::l,y,h=>by
  simp only [mx,List.foldr_cons]
  rcases List.mem_cons.1 h with rfl|h
  ·omega
  ·have:=Qw (f:=f) h
   simp only [mx] at this
   omega
theorem GH {f:Nat→Nat}: ∀{l:List Nat},(l=[]∧mx f l=0)∨ ∃y∈l,mx f l=f y+1
 |[]=> .inl ⟨rfl,rfl⟩
 |a::l=>by
  refine .inr ?_
  simp only [mx,List.foldr_cons]
  rcases GH (f:=f) (l:=l) with ⟨rfl,h⟩|⟨y,hy,h⟩
  ·exact ⟨a,by simp,by simp⟩
  ·simp only [mx] at h
   rw [h]
   rcases Nat.le_total (f a+1) (f y+1) with h1|h1
   ·exact ⟨y,by simp [hy],by omega⟩
   ·exact ⟨a,by simp,by omega⟩
theorem ach {f g:Nat→Nat}: ∀{l:List Nat},(∀y∈l,f y=g y)→mx f l=mx g l
 |[],_=>rfl
 |a::l,h=>by
  have ih:=ach (l:=l) fun y hy=>h y (by simp [hy])
  simp only [mx,List.foldr_cons] at ih⊢
  rw [ih,h a (by simp)]
def hg (b w:List Nat) (n:Nat):Nat→Bool→Nat→Nat
 |0,_,_=>0
 |k+1,c,x=>mx (hg b w n k (!c)) (xQ b w n c x)
theorem aci (hd:bC n b w) (ht:Tree n b w): ∀(r k:Nat) (c:Bool) (x:Nat),x<n→(behind b w n c x).length≤r→r≤k→hg b w n k c x=hg b w n (k+1) c x
 |0,k,c,x,hx,hr,hk=>by
  have:xQ b w n c x=[]:=List.eq_nil_iff_forall_not_mem.2 fun y hy=>by
   obtain ⟨h1,h2,h3⟩:=zI.1 hy
   have:=qQ hd ht hx h1 h2 h3
   omega
  cases k<;>simp only [hg,this]<;>rfl
 |r+1,0,c,x,hx,hr,hk=>by omega
 |r+1,k+1,c,x,hx,hr,hk=>by
  rw [hg,hg]
  refine ach fun y hy=>?_
  obtain ⟨h1,h2,h3⟩:=zI.1 hy
  have:=qQ hd ht hx h1 h2 h3
  exact aci hd ht r k (!c) y h1 (by omega) (by omega)
def hgt (b w:List Nat) (n:Nat) (c:Bool) (x:Nat):Nat:=hg b w n n c x
theorem Ll (hd:bC n b w) (ht:Tree n b w) {c:Bool} {x:Nat} (hx:x<n):hgt b w n c x=mx (hgt b w n (!c)) (xQ b w n c x):=by
 rw [hgt,aci hd ht n n c x hx QJ (Nat.le_refl n)]
 rfl
theorem DJ (hd:bC n b w) (ht:Tree n b w) {c:Bool} {x y:Nat} (hx:x<n) (h:Nb b w n c x y):hgt b w n (!c) y+1≤hgt b w n c x:=by
 rw [Ll hd ht (c:=c) hx]
 exact Qw (zI.2 h)
theorem anO (hd:bC n b w) (ht:Tree n b w): ∀(r:Nat) (c:Bool) (x:Nat),x<n→(behind b w n c x).length≤r→hgt b w n c x≤r:=by
 intro r
 induction r with
 |zero=>
  intro c x hx hr
  rw [Ll hd ht hx]
  rcases GH (f:=hgt b w n (!c)) (l:=xQ b w n c x) with ⟨_,h⟩|⟨y,hy,h⟩
  ·omega
  ·obtain ⟨h1,h2,h3⟩:=zI.1 hy
   have:=qQ hd ht hx h1 h2 h3
   omega
 |succ r ih=>
  intro c x hx hr
  rw [Ll hd ht hx]
  rcases GH (f:=hgt b w n (!c)) (l:=xQ b w n c x) with ⟨_,h⟩|⟨y,hy,h⟩
  ·omega
  ·obtain ⟨h1,h2,h3⟩:=zI.1 hy
   have:=qQ hd ht hx h1 h2 h3
   have:=ih (!c) y h1 (by omega)
   omega
theorem zH (hd:bC n b w) (ht:Tree n b w) {c:Bool} {x:Nat} (hx:x<n):hgt b w n c x≤n:=anO hd ht n c x hx QJ
inductive Rc (b w:List Nat) (n:Nat) (c:Bool) (x:Nat):Bool→Nat→Nat→Prop where
 |one {y}:Nb b w n c x y→Rc b w n c x (!c) y 1
 |more {c' y d z}:Rc b w n c x c' y d→Nb b w n c' y z→Rc b w n c x (!c') z (d+1)
theorem Rc.lt {c c':Bool} {x y d:Nat} (h:Rc b w n c x c' y d):y<n:=by
 cases h with
 |one h=>exact h.1
 |more _ h=>exact h.1
theorem Rc.far (hd:bC n b w) (ht:Tree n b w) {c c':Bool} {x y d:Nat} (hx:x<n) (h:Rc b w n c x c' y d):
  hgt b w n c' y+d≤hgt b w n c x∧hgt b w n (!c) x+d≤hgt b w n (!c') y:=by
 induction h with
 |one h=>
  have h1:=DJ hd ht hx h
  have h2:=DJ hd ht h.1 (h.symm hx)
  simp only [Bool.not_not]
  omega
 | @more c' y d z h1 h2 ih=>
  have h3:=DJ hd ht h1.lt h2
  have h4:=DJ hd ht h2.1 (h2.symm h1.lt)
  simp only [Bool.not_not]
  omega
theorem Rc.pos {c c':Bool} {x y d:Nat} (h:Rc b w n c x c' y d):0<d:=by
 cases h<;>omega
theorem Rc.turn {c':Bool} {x y z:Nat} (hx:x<n) (hz:z<n) (c0:Bool) (he:ends b w n c0 z=ends b w n c0 y) (h:y=x∨ ∃c d,Rc b w n c x c' y d):
  z=x∨ ∃c c' d,Rc b w n c x c' z d:=by
 by_cases hzx:z=x
 ·exact .inl hzx
 refine .inr ?_
 rcases h with rfl|⟨c,d,h⟩
 ·exact ⟨c0,_,_, .one ⟨hz,hzx,he⟩⟩
 ·by_cases hzy:z=y
  ·subst hzy
   exact ⟨_,_,_,h⟩
  by_cases hc:c'=c0
  ·subst hc
   exact ⟨c,_,_,h.more ⟨hz,hzy,he⟩⟩
  ·cases h with
   |one h1=>
    have:c0=c:=by cases c<;>cases c0<;>simp_all
    subst this
    exact ⟨_,_,_, .one ⟨hz,hzx,he.trans h1.2.2⟩⟩
   | @more c2 y2 d2 _ h1 h2=>
    have:c0=c2:=by cases c2<;>cases c0<;>simp_all
    subst this
    by_cases hz2:z=y2
    ·subst hz2
     exact ⟨_,_,_,h1⟩
    ·exact ⟨_,_,_,h1.more ⟨hz,hz2,he.trans h2.2.2⟩⟩
theorem Rc.all (hd:bC n b w) {x:Nat} (hx:x<n): ∀z,z<n→z=x∨ ∃c c' d,Rc b w n c x c' z d:=by
 obtain ⟨hb,hw,_⟩:=id hd
 refine hd.indx hx _ (fun z hz h=>?_) (fun z hz h=>?_) (.inl rfl)
 ·have e:ends b w n false (nl b z)=ends b w n false z:=by simp only [ends];exact wC hb hz
  rcases h with h|⟨c,c',d,h⟩
  ·exact Rc.turn (c':=false) hx (hb.lt hz) false e (.inl h)
  ·exact Rc.turn hx (hb.lt hz) false e (.inr ⟨c,d,h⟩)
 ·have e:ends b w n true (nl w z)=ends b w n true z:=by simp only [ends,if_true];rw [wC hw hz]
  rcases h with h|⟨c,c',d,h⟩
  ·exact Rc.turn (c':=false) hx (hw.lt hz) true e (.inl h)
  ·exact Rc.turn hx (hw.lt hz) true e (.inr ⟨c,d,h⟩)
def Mid (b w:List Nat) (n:Nat) (c:Bool) (x:Nat) (k:Nat):Prop:=
 x<n∧((k=2*hgt b w n c x+1∧hgt b w n (!c) x=hgt b w n c x)∨(k=2*hgt b w n c x∧hgt b w n c x=hgt b w n (!c) x+1))
theorem Mid.uniq (hd:bC n b w) (ht:Tree n b w) {c c':Bool} {x x' k k':Nat} (h:Mid b w n c x k) (h':Mid b w n c' x' k'):
  k=k'∧(k%2=1→x=x')∧(k%2=0→ends b w n c x=ends b w n c' x'∧c=c'):=by
 obtain ⟨hx,h⟩:=h
 obtain ⟨hx',h'⟩:=h'
 rcases Rc.all hd hx x' hx' with rfl|⟨a,a',d,hr⟩
 ·by_cases e:c=c'
  ·subst e
   exact ⟨by omega,fun _=>rfl,fun _=>⟨rfl,rfl⟩⟩
  ·obtain rfl:c'= !c:=by cases c<;>cases c'<;>simp_all
   rw [Bool.not_not] at h'
   exact ⟨by omega,fun _=>rfl,fun _=>by omega⟩
 ·have hd0:=hr.pos
  obtain ⟨f1,f2⟩:=hr.far hd ht hx
  have hA:(hgt b w n a x=hgt b w n c x∧hgt b w n (!a) x=hgt b w n (!c) x∧a=c)∨(hgt b w n a x=hgt b w n (!c) x∧hgt b w n (!a) x=hgt b w n c x∧a= !c):=by
   cases a<;>cases c<;>simp
  have hB:(hgt b w n a' x'=hgt b w n c' x'∧hgt b w n (!a') x'=hgt b w n (!c') x'∧a'=c')∨(hgt b w n a' x'=hgt b w n (!c') x'∧hgt b w n (!a') x'=hgt b w n c' x'∧a'= !c'):=by
   cases a'<;>cases c'<;>simp
  have key:d=1∧a=c∧a'= !c'∧k=k'∧k%2=0:=by
   rcases hA with ⟨g1,g2,g3⟩|⟨g1,g2,g3⟩<;>rcases hB with ⟨g4,g5,g6⟩|⟨g4,g5,g6⟩<;>rcases h with h|h<;>rcases h' with h'|h'<;>
    first|exact ⟨by omega,g3,g6,by omega,by omega⟩|(exfalso;omega)
  obtain ⟨rfl,rfl,k2,k3,k4⟩:=key
  refine ⟨k3,fun _=>by omega,fun _=>?_⟩
  cases hr with
  |one h1=>
   have:a=c':=by cases a<;>cases c'<;>simp_all
   subst this
   exact ⟨h1.2.2.symm,rfl⟩
  |more h1 h2=>have:=h1.pos;omega
def Lg (b w:List Nat) (n:Nat):Bool→Nat→List Nat→Prop
 |c,x,[]=>hgt b w n c x=0
 |c,x,y::l=>Nb b w n c x y∧hgt b w n c x=hgt b w n (!c) y+1∧Lg b w n (!c) y l
theorem Lg.len: ∀{c:Bool} {x:Nat} {l:List Nat},Lg b w n c x l→l.length=hgt b w n c x
 |c,x,[],h=>by rw [Lg] at h;rw [h];rfl
 |c,x,y::l,h=>by
  rw [Lg] at h
  rw [List.length_cons,h.2.2.len,h.2.1]
def Lm (b w:List Nat) (n:Nat) (c:Bool) (v:Nat):List Nat→Prop
 |[]=>False
 |y::l=>y<n∧ends b w n c y=v∧Lg b w n (!c) y l∧ ∀z,z<n→ends b w n c z=v→hgt b w n (!c) z≤hgt b w n (!c) y
def sn (b w:List Nat) (n:Nat):Bool→Nat→List Nat→List Nat
 |c,x,[]=>[ends b w n c x]
 |c,x,y::l=>ends b w n c x::sn b w n (!c) y l
theorem AX: ∀{c:Bool} {x:Nat} {l:List Nat},(sn b w n c x l).length=l.length+1
 |c,x,[]=>rfl
 |c,x,y::l=>by rw [sn,List.length_cons,AX,List.length_cons]
def Back (b w:List Nat) (n:Nat):Bool→Nat→Nat→List Nat→Prop
 |c,x,d,[]=>x<n∧hgt b w n c x=d∧ ∀z,z<n→ends b w n (!c) z=ends b w n (!c) x→hgt b w n c z≤d
 |c,x,d,y::g=>x<n∧hgt b w n c x=d∧Nb b w n (!c) x y∧Back b w n (!c) y (d+1) g
theorem Back.mid (hd:bC n b w) (ht:Tree n b w): ∀(g:List Nat) (c:Bool) (x d:Nat) (pre l:List Nat) (cu:Bool),Back b w n c x d g→Lg b w n (!c) x l→pre.length=d→d≤l.length→(c=(cu^^decide (d%2=1)))→
  ∃pre' x' l' c',pre++x::l=pre'++x'::l'∧c'=(cu^^decide (pre'.length%2=1))∧Mid b w n (!c') x' (pre++x::l).length∧(l'.length=pre'.length∨l'.length=pre'.length+1)
 |g,c,x,d,pre,l,cu,hB,hL,hp,hdl,hc=>by
  have hll:=hL.len
  have hxd:x<n∧hgt b w n c x=d:=by cases g<;>rw [Back] at hB<;>exact ⟨hB.1,hB.2.1⟩
  by_cases hm:l.length≤d+1
  ·refine ⟨pre,x,l,c,rfl,by rw [hp];exact hc,⟨hxd.1,?_⟩,by omega⟩
   rw [Bool.not_not,List.length_append,List.length_cons]
   omega
  ·match l,hL,hll,hdl,hm with
   |[],_,_,_,hm=>exact absurd (Nat.zero_le _) hm
   |y'::l,hL,hll,hdl,hm=>
    rw [Lg] at hL
    obtain ⟨h1,h2,h3⟩:=hL
    rw [List.length_cons] at hll hdl hm
    match g,hB with
    |[],hB=>
     rw [Back] at hB
     have h5:=hB.2.2 y' h1.1 h1.2.2
     rw [Bool.not_not] at h2
     omega
    |y::g,hB=>
     rw [Back] at hB
     obtain ⟨_,_,h5,h6⟩:=hB
     have hyy:y'=y:=Classical.byContradiction fun hne=>by
      have hy:hgt b w n (!c) y=d+1:=by cases g<;>rw [Back] at h6<;>exact h6.2.1
      have h7:=DJ hd ht h5.1 (c:= !c) (y:=y') ⟨h1.1,hne,h1.2.2.trans h5.2.2.symm⟩
      omega
     subst hyy
     have:=Back.mid hd ht g (!c) y' (d+1) (pre++[x]) l cu h6 h3 (by simp [hp]) (by omega) (by
      rw [hc]
      rcases Nat.mod_two_eq_zero_or_one d with e|e<;>cases cu<;>simp [e]<;>omega)
     rw [List.append_assoc] at this
     exact this
termination_by g=>g.length
theorem Back.of: ∀{l:List Nat} {c:Bool} {x:Nat} {g:List Nat},Lg b w n c x l→Back b w n c x l.length g→
  ∃x' g',Back b w n (c^^decide (l.length%2=1)) x' 0 g'∧(sn b w n c x l).getD l.length 0=ends b w n (c^^decide (l.length%2=1)) x'∧(x::l).getD l.length 0=x'
 |[],c,x,g,hL,hB=>⟨x,g,by simpa using hB,by simp [sn],rfl⟩
 |y::l,c,x,g,hL,hB=>by
  rw [Lg] at hL
  obtain ⟨h1,h2,h3⟩:=hL
  have hx:x<n:=by cases g<;>rw [Back] at hB<;>exact hB.1
  obtain ⟨x',g',k1,k2,k3⟩:=Back.of (l:=l) (c:= !c) (x:=y) (g:=x::g) h3 (by
   rw [Back,Bool.not_not]
   exact ⟨h1.1,h3.len.symm,h1.symm hx,by simpa using hB⟩)
  have e:((!c)^^decide (l.length%2=1))=(c^^decide ((y::l).length%2=1)):=by
   rw [List.length_cons]
   rcases Nat.mod_two_eq_zero_or_one l.length with e|e<;>cases c<;>simp [e]<;>omega
  rw [e] at k1 k2
  exact ⟨x',g',k1,by simpa [sn] using k2,by simpa using k3⟩
theorem sweep (hd:bC n b w) (ht:Tree n b w) {c0:Bool} {v u:Nat} {f0:Nat} {f:List Nat} (h0:Lm b w n c0 v (f0::f)) {e:List Nat} {cu:Bool}
  (Dp:cu=((!c0)^^decide (f.length%2=1))) (hu:u=(sn b w n (!c0) f0 f).getD f.length 0) (he:Lm b w n cu u e):
  ∃pre x l c,e=pre++x::l∧c=(cu^^decide (pre.length%2=1))∧Mid b w n (!c) x e.length∧(l.length=pre.length∨l.length=pre.length+1):=by
 obtain ⟨h1,h2,h3,h4⟩:=h0
 obtain ⟨x',g',k1,k2,k3⟩:=Back.of (g:=[]) h3 (by
  rw [Back]
  refine ⟨h1,h3.len.symm,fun z hz hez=>?_⟩
  rw [Bool.not_not] at hez
  rw [h3.len]
  exact h4 z hz (hez.trans h2))
 rw [←Dp] at k1 k2
 rw [←hu] at k2
 match e,he with
 |y::l,he=>
  obtain ⟨g1,g2,g3,g4⟩:=he
  have hxn:x'<n:=by cases g'<;>rw [Back] at k1<;>exact k1.1
  have hx0:hgt b w n cu x'=0:=by cases g'<;>rw [Back] at k1<;>exact k1.2.1
  have hyx:y=x':=Classical.byContradiction fun hne=>by
   have:=DJ hd ht hxn (c:=cu) (y:=y) ⟨g1,hne,by rw [g2,k2]⟩
   omega
  subst hyx
  have:=Back.mid hd ht g' cu y 0 [] l cu k1 g3 rfl (by omega) (by simp)
  simpa using this
end
end Go.Bm
namespace Go.Bm
open Go Go.Am
section
variable {n:Nat} {b w:List Nat}
def aW (b w:List Nat) (n:Nat):List (List Nat):=aP b n++aP w n
theorem abu (hd:bC n b w) {v:Nat} (hv:v<(aW b w n).length): ∃c,(∃x,x<n∧ends b w n c x=v)∧ ∀y,y<n→(y∈(aW b w n)[v]↔ends b w n c y=v):=by
 obtain ⟨hb,hw,_⟩:=id hd
 have hv':v<(aP b n).length+(aP w n).length:=by rw [←List.length_append];exact hv
 by_cases h:v<(aP b n).length
 ·have e:(aW b w n)[v]=(aP b n)[v]:=List.getElem_append_left h
  obtain ⟨x,hx,hxv⟩:=GI hb h
  refine ⟨false,⟨x,hx,by simp [ends,hxv]⟩,fun y hy=>?_⟩
  rw [e]
  simp only [ends,Bool.false_eq_true,if_false]
  refine ⟨fun hm=>DI hb hy h hm,fun hm=>?_⟩
  subst hm
  exact zK hb hy
 ·have hvw:v-(aP b n).length<(aP w n).length:=by omega
  have e:(aW b w n)[v]=(aP w n)[v-(aP b n).length]:=List.getElem_append_right (by omega)
  obtain ⟨x,hx,hxv⟩:=GI hw hvw
  refine ⟨true,⟨x,hx,by simp only [ends,if_true,hxv];omega⟩,fun y hy=>?_⟩
  rw [e]
  simp only [ends,if_true]
  refine ⟨fun hm=>by rw [DI hw hy hvw hm];omega,fun hm=>?_⟩
  have:jI w n y=v-(aP b n).length:=by omega
  simp only [←this]
  exact zK hw hy
theorem xP (hd:bC n b w) {v y:Nat} (hv:v<(aW b w n).length) (h:y∈(aW b w n)[v]):y<n:=by
 obtain ⟨hb,hw,_⟩:=id hd
 have:(aW b w n)[v]∈aP b n++aP w n:=List.getElem_mem hv
 rcases List.mem_append.1 this with h1|h1
 ·exact (oJ hb h1).lt _ h
 ·exact (oJ hw h1).lt _ h
theorem G5 (hd:bC n b w) {v:Nat} (hv:v<(aW b w n).length):((aW b w n)[v]).Nodup:=by
 obtain ⟨hb,hw,_⟩:=id hd
 have:(aW b w n)[v]∈aP b n++aP w n:=List.getElem_mem hv
 rcases List.mem_append.1 this with h1|h1
 ·exact (oJ hb h1).jX
 ·exact (oJ hw h1).jX
theorem o7 (hd:bC n b w) {c:Bool} {x:Nat} (hx:x<n):ends b w n c x<(aW b w n).length:=by
 obtain ⟨hb,hw,_⟩:=id hd
 rw [aW,List.length_append]
 cases c
 ·have:=qp hb hx
  simp only [ends,Bool.false_eq_true,if_false]
  omega
 ·have:=qp hw hx
  simp only [ends,if_true]
  omega
theorem AY (hd:bC n b w) {c:Bool} {x y:Nat} (hx:x<n) (hy:y<n):y∈(aW b w n)[ends b w n c x]'(o7 hd hx)↔ends b w n c y=ends b w n c x:=by
 obtain ⟨hb,hw,_⟩:=id hd
 cases c
 ·have hv:=qp hb hx
  have e0:ends b w n false x=jI b n x:=by simp [ends]
  have e1:ends b w n false y=jI b n y:=by simp [ends]
  rw [e1]
  have e:(aW b w n)[ends b w n false x]'(o7 hd hx)=(aP b n)[jI b n x]:=by
   simp only [e0]
   exact List.getElem_append_left hv
  rw [e,e0]
  refine ⟨fun hm=>DI hb hy hv hm,fun hm=>?_⟩
  simp only [←hm]
  exact zK hb hy
 ·have hv:=qp hw hx
  have e0:ends b w n true x=(aP b n).length+jI w n x:=by simp [ends]
  have e1:ends b w n true y=(aP b n).length+jI w n y:=by simp [ends]
  have e:(aW b w n)[ends b w n true x]'(o7 hd hx)=(aP w n)[jI w n x]:=by
   simp only [e0,aW]
   rw [List.getElem_append_right (by omega)]
   simp only [Nat.add_sub_cancel_left]
  rw [e,e0,e1]
  refine ⟨fun hm=>by rw [DI hw hy hv hm],fun hm=>?_⟩
  have:jI w n y=jI w n x:=by omega
  simp only [←this]
  exact zK hw hy
theorem leaf (hd:bC n b w) (ht:Tree n b w) (O:Nat→Prop):(∃x,x<n∧O x)→ ∃c x,x<n∧O x∧ ∀y,y<n→O y→ends b w n c y=ends b w n c x→y=x:=by
 rintro ⟨x0,hx0,ho0⟩
 have key: ∀(r:Nat) (c:Bool) (x:Nat),x<n→O x→(behind b w n c x).length≤r→ ∃c x,x<n∧O x∧ ∀y,y<n→O y→ends b w n c y=ends b w n c x→y=x:=by
  intro r
  induction r with
  |zero=>
   intro c x hx ho hr
   refine ⟨c,x,hx,ho,fun y hy hoy he=>Classical.byContradiction fun hne=>?_⟩
   have:=qQ hd ht hx hy hne he
   omega
  |succ r ih=>
   intro c x hx ho hr
   by_cases h: ∃y,y<n∧O y∧ends b w n c y=ends b w n c x∧y≠x
   ·obtain ⟨y,hy,hoy,he,hne⟩:=h
    have:=qQ hd ht hx hy hne he
    exact ih (!c) y hy hoy (by omega)
   ·exact ⟨c,x,hx,ho,fun y hy hoy he=>Classical.byContradiction fun hne=>h ⟨y,hy,hoy,he,hne⟩⟩
 exact key _ false x0 hx0 ho0 (Nat.le_refl _)
def dL (o:List Int) (l:List Nat):Int:=(l.map (el o)).sum
structure Good (b w:List Nat) (n:Nat) (s:List Int) (W:List Int):Prop where
 len:W.length=n
 pos: ∀x,x<n→1≤el W x
 sum: ∀v (hv:v<(aW b w n).length),dL W (aW b w n)[v]=el s v
theorem LK {o o':List Int} (h:o.length=o'.length) (h2: ∀x,x<o.length→el o x=el o' x):o=o':=by
 refine List.ext_getElem h fun i h3 h4=>?_
 have:=h2 i h3
 simpa [el,List.getD,h3,h4] using this
theorem LJ {o o':List Int}: ∀{l:List Nat} {x:Nat},l.Nodup→x∈l→(∀y∈l,y≠x→el o y=el o' y)→dL o l-dL o' l=el o x-el o' x
 |a::l,x,hn,hx,h=>by
  rw [List.nodup_cons] at hn
  simp only [dL,List.map_cons,List.sum_cons]
  by_cases e:a=x
  ·subst e
   have:l.map (el o)=l.map (el o'):=List.map_congr_left fun y hy=>h y (by simp [hy]) (fun e=>hn.1 (e▸hy))
   rw [this]
   omega
  ·have hx':x∈l:=by
    rcases List.mem_cons.1 hx with h|h
    ·exact absurd h.symm e
    ·exact h
   have ih:=LJ (o:=o) (o':=o') hn.2 hx' fun y hy=>h y (by simp [hy])
   have:=h a (by simp) e
   simp only [dL] at ih
   omega
theorem abv {o o':List Int} {l:List Nat} (h: ∀y∈l,el o y=el o' y):dL o l=dL o' l:=by
 simp only [dL]
 rw [List.map_congr_left h]
theorem Good.uniq (hd:bC n b w) (ht:Tree n b w) {s W W':List Int} (h:Good b w n s W) (h':Good b w n s W'):W=W':=by
 refine LK (by rw [h.len,h'.len]) fun x hx=>Classical.byContradiction fun hne=>?_
 obtain ⟨c,x,hx,ho,hu⟩:=leaf hd ht (fun x=>el W x≠el W' x) ⟨x,by rw [h.len] at hx;exact hx,hne⟩
 have hv:=o7 hd (c:=c) hx
 have h1:=LJ (o:=W) (o':=W') (G5 hd hv) ((AY hd hx hx).2 rfl) fun y hy hyx=>Classical.byContradiction fun hne=>by
  have hyn:=xP hd hv hy
  exact hyx (hu y hyn hne ((AY hd hx hyn).1 hy))
 rw [h.sum _ hv,h'.sum _ hv] at h1
 omega
structure Part (b w:List Nat) (n:Nat) (s:List Int) (o:List Int):Prop where
 len:o.length=n
 nn: ∀x,x<n→0≤el o x
 good: ∀W,Good b w n s W→ ∀x,x<n→el o x≠0→el o x=el W x
def opens (o:List Int) (l:List Nat):List Nat:=l.filter fun x=>el o x==0
theorem rM {o:List Int} {l:List Nat} {x:Nat}:x∈opens o l↔x∈l∧el o x=0:=by simp [opens]
theorem Part.zero {s:List Int}:Part b w n s (List.replicate n 0):=by
 have h: ∀x,x<n→el (List.replicate n (0:Int)) x=0:=fun x hx=>by simp [el,List.getD,hx]
 exact ⟨by simp,fun x hx=>by rw [h x hx];exact Int.le_refl _,fun W _ x hx hne=>absurd (h x hx) hne⟩
theorem Part.one (hd:bC n b w) {s o W:List Int} (hp:Part b w n s o) (hW:Good b w n s W) {v x:Nat} (hv:v<(aW b w n).length) (h:opens o (aW b w n)[v]=[x]):
  el W x=el s v-dL o (aW b w n)[v]:=by
 have hx:x∈opens o (aW b w n)[v]:=by rw [h];simp
 obtain ⟨hx1,hx2⟩:=rM.1 hx
 have h1:=LJ (o:=W) (o':=o) (G5 hd hv) hx1 fun y hy hyx=>by
  have hyn:=xP hd hv hy
  refine (hp.good W hW y hyn fun h0=>?_).symm
  have:y∈opens o (aW b w n)[v]:=rM.2 ⟨hy,h0⟩
  rw [h,List.mem_singleton] at this
  exact hyx this
 rw [hW.sum v hv,hx2] at h1
 omega
theorem Part.none (hd:bC n b w) {s o W:List Int} (hp:Part b w n s o) (hW:Good b w n s W) {v:Nat} (hv:v<(aW b w n).length) (h:opens o (aW b w n)[v]=[]):
  el s v-dL o (aW b w n)[v]=0:=by
 have:dL o (aW b w n)[v]=dL W (aW b w n)[v]:=abv fun y hy=>hp.good W hW y (xP hd hv hy) fun h0=>by
  have:y∈opens o (aW b w n)[v]:=rM.2 ⟨hy,h0⟩
  rw [h] at this
  cases this
 rw [this,hW.sum v hv]
 omega
theorem at_set {o:List Int} {x y:Nat} {r:Int} (hx:x<o.length):el (o.set x r) y=if y=x then r else el o y:=by
 simp only [el,List.getD,List.getElem?_set]
 by_cases e:y=x
 ·subst e;simp [hx]
 ·rw [if_neg (Ne.symm e),if_neg e]
theorem Part.set (hd:bC n b w) {s o:List Int} (hp:Part b w n s o) {v x:Nat} (hv:v<(aW b w n).length) (h:opens o (aW b w n)[v]=[x])
  (hr:1≤el s v-dL o (aW b w n)[v]):Part b w n s (o.set x (el s v-dL o (aW b w n)[v])):=by
 have hx:x∈opens o (aW b w n)[v]:=by rw [h];simp
 have hxn:=xP hd hv (rM.1 hx).1
 refine ⟨by rw [List.length_set];exact hp.len,fun y hy=>?_,fun W hW y hy hne=>?_⟩
 ·rw [at_set (by rw [hp.len];exact hxn)]
  split
  ·omega
  ·exact hp.nn y hy
 ·rw [at_set (by rw [hp.len];exact hxn)] at hne⊢
  split
  ·rename_i e
   subst e
   exact (hp.one hd hW hv h).symm
  ·rename_i e
   rw [if_neg e] at hne
   exact hp.good W hW y hy hne
def left (o:List Int) (n:Nat):Nat:=(opens o (List.range n)).length
theorem NU {o:List Int} {x:Nat} {r:Int} (hn:o.length=n) (hx:x<n) (h0:el o x=0) (hr:r≠0):left (o.set x r) n+1=left o n:=by
 have e:opens (o.set x r) (List.range n)=(opens o (List.range n)).erase x:=by
  have hnd:(opens o (List.range n)).Nodup:=List.Pairwise.filter _ List.nodup_range
  rw [List.Nodup.erase_eq_filter hnd,opens,opens,List.filter_filter]
  refine List.filter_congr fun y hy=>?_
  rw [at_set (by omega)]
  by_cases e:y=x
  ·subst e;simp [hr]
  ·simp [e]
 rw [left,left,e,List.length_erase_of_mem (rM.2 ⟨by simpa using hx,h0⟩)]
 have:0<(opens o (List.range n)).length:=List.length_pos_of_mem (rM.2 ⟨by simpa using hx,h0⟩)
 omega
theorem Jy {o:List Int} (h:left o n=0): ∀x,x<n→el o x≠0:=fun x hx h0=>by
 have:x∈opens o (List.range n):=rM.2 ⟨by simpa using hx,h0⟩
 rw [List.eq_nil_of_length_eq_zero h] at this
 cases this
theorem left_le {o:List Int}:left o n≤n:=by
 have:=List.length_filter_le (fun x=>el o x==0) (List.range n)
 rw [List.length_range] at this
 exact this
theorem aaI (hd:bC n b w) (ht:Tree n b w) {o:List Int} (h:left o n≠0): ∃v,∃hv:v<(aW b w n).length,∃x,opens o (aW b w n)[v]=[x]:=by
 obtain ⟨x0,hx0⟩: ∃x,x∈opens o (List.range n):=List.exists_mem_of_ne_nil _ fun e=>h (by rw [left,e];rfl)
 obtain ⟨c,x,hx,ho,hu⟩:=leaf hd ht (fun x=>el o x=0) ⟨x0,by simpa using (rM.1 hx0).1,(rM.1 hx0).2⟩
 have hv:=o7 hd (c:=c) hx
 refine ⟨_,hv,x,?_⟩
 have sG:(opens o (aW b w n)[ends b w n c x]).Nodup:=List.Pairwise.filter _ (G5 hd hv)
 have hmem:x∈opens o (aW b w n)[ends b w n c x]:=rM.2 ⟨(AY hd hx hx).2 rfl,ho⟩
 have hall: ∀y∈opens o (aW b w n)[ends b w n c x],y=x:=fun y hy=>by
  obtain ⟨h1,h2⟩:=rM.1 hy
  have hyn:=xP hd hv h1
  exact hu y hyn h2 ((AY hd hx hyn).1 h1)
 match opens o (aW b w n)[ends b w n c x],sG,hmem,hall with
 |[a],_,hm,_=>rw [List.mem_singleton] at hm;rw [hm]
 |a::a'::l,hn,_,ha=>
  rw [ha a (by simp),ha a' (by simp)] at hn
  simp at hn
theorem Part.full {s o:List Int} (hp:Part b w n s o) (h0:left o n=0) (hs: ∀v (hv:v<(aW b w n).length),dL o (aW b w n)[v]=el s v):Good b w n s o:=
 ⟨hp.len,fun x hx=>by have:=hp.nn x hx;have:=Jy h0 x hx;omega,hs⟩
theorem Part.bad (hd:bC n b w) {s o W:List Int} (hp:Part b w n s o) (h0:left o n=0) (hW:Good b w n s W):o=W:=
 LK (by rw [hp.len,hW.len]) fun x hx=>by
  rw [hp.len] at hx
  exact hp.good W hW x hx (Jy h0 x hx)
def QL (b w:List Nat) (n:Nat) (s:List Int):Option (List Int)→Prop
 |some o=>Good b w n s o
 |none=> ∀W,¬Good b w n s W
theorem QL.uniq (hd:bC n b w) (ht:Tree n b w) {s:List Int} {r r':Option (List Int)} (h:QL b w n s r) (h':QL b w n s r'):r=r':=by
 cases r with
 |none=>
  cases r' with
  |none=>rfl
  |some o=>exact absurd h' (h o)
 |some o=>
  cases r' with
  |none=>exact absurd h (h' o)
  |some o'=>rw [Good.uniq hd ht h h']
end
end Go.Bm
namespace Go.Bm
open Go Go.Am
theorem acj {p:List Int} {i j:Nat} {x:Int}:el (p.set i x) j=if j=i∧i<p.length then x else el p j:=by
 unfold el
 simp only [List.getD]
 by_cases h:i=j
 ·subst h
  by_cases hi:i<p.length
  ·simp [hi]
  ·simp [List.getElem?_eq_none (by omega:p.length≤i),hi]
 ·rw [List.getElem?_set_ne h,if_neg (fun e=>h e.1.symm)]
def swp (p:List Int) (i j:Nat):List Int:=(p.set i (el p j)).set j (el p i)
theorem acn {p:List Int} {i j:Nat}:(swp p i j).length=p.length:=by simp [swp]
theorem qy {p:List Int} {i j k:Nat} (hi:i<p.length) (hj:j<p.length):el (swp p i j) k=if k=j then el p i else if k=i then el p j else el p k:=by
 unfold swp
 rw [acj,acj]
 by_cases h:k=j
 ·rw [if_pos ⟨h,by simpa using hj⟩,if_pos h]
 ·rw [if_neg (fun e=>h e.1),if_neg h]
  by_cases h2:k=i
  ·rw [if_pos ⟨h2,hi⟩,if_pos h2]
  ·rw [if_neg (fun e=>h2 e.1),if_neg h2]
theorem anP {p:List Int} {i j:Nat} (hi:i<p.length) (hj:j<p.length):(swp p i j).Perm p:=by
 rw [List.perm_iff_count]
 intro a
 unfold swp
 rw [List.count_set (by simpa using hj),List.count_set hi]
 have e1:p[i]=el p i:=by simp [el,List.getD,hi]
 have e2:p[j]=el p j:=by simp [el,List.getD,hj]
 have e3:(p.set i (el p j))[j]'(by simpa using hj)=el p j:=by
  rw [List.getElem_set]
  split
  ·rfl
  ·exact e2
 rw [e3,e1]
 have c1:(el p i==a)=true→0<p.count a:=fun h=>by
  rw [List.count_pos_iff,←beq_iff_eq.1 h,←e1];exact List.getElem_mem hi
 by_cases h1:(el p i==a)=true<;>by_cases h2:(el p j==a)=true<;>simp only [h1,h2,if_true,if_false,Bool.false_eq_true]<;>first|omega|(have:=c1 h1;omega)
structure Sg (a b:Nat) (p q:List Int):Prop where
 len:q.length=p.length
 out: ∀i,i<a∨b≤i→el q i=el p i
 src: ∀i,a≤i→i<b→ ∃j,a≤j∧j<b∧el q i=el p j
 perm:q.Perm p
theorem Sg.refl {a b:Nat} {p:List Int}:Sg a b p p:=⟨rfl,fun _ _=>rfl,fun i h1 h2=>⟨i,h1,h2,rfl⟩, .refl _⟩
theorem Sg.trans {a b:Nat} {p q r:List Int} (h:Sg a b p q) (k:Sg a b q r):Sg a b p r:=⟨k.len.trans h.len,fun i hi=>(k.out i hi).trans (h.out i hi),fun i h1 h2=>by
 obtain ⟨j,j1,j2,j3⟩:=k.src i h1 h2
 obtain ⟨l,l1,l2,l3⟩:=h.src j j1 j2
 exact ⟨l,l1,l2,j3.trans l3⟩,k.perm.trans h.perm⟩
theorem Sg.mono {a b a' b':Nat} {p q:List Int} (h:Sg a b p q) (ha:a'≤a) (hb:b≤b'):Sg a' b' p q:=⟨h.len,fun i hi=>h.out i (by omega),fun i h1 h2=>by
 by_cases hi:a≤i∧i<b
 ·obtain ⟨j,j1,j2,j3⟩:=h.src i hi.1 hi.2
  exact ⟨j,by omega,by omega,j3⟩
 ·exact ⟨i,h1,h2,h.out i (by omega)⟩,h.perm⟩
theorem Sg.swp {a b i j:Nat} {p:List Int} (h1:a≤i) (h2:i<b) (h3:a≤j) (h4:j<b) (hb:b≤p.length):Sg a b p (swp p i j):=⟨acn,fun k hk=>by
 rw [qy (by omega) (by omega),if_neg (by omega),if_neg (by omega)],fun k k1 k2=>by
 rw [qy (by omega) (by omega)]
 split
 ·exact ⟨i,h1,h2,rfl⟩
 ·split
  ·exact ⟨j,h3,h4,rfl⟩
  ·exact ⟨k,k1,k2,rfl⟩,anP (by omega) (by omega)⟩
def rO (a b:Nat) (p:List Int):Prop:= ∀i j,a≤i→i≤j→j<b→el p i≤el p j
theorem rO.one {a:Nat} {p:List Int}:rO a (a+1) p:=fun i j h1 h2 h3=>by
 obtain rfl:i=j:=by omega
 exact Int.le_refl _
theorem anQ {x:Bool} {a:Int} {H:BH} {K:Value→BH→Prop} (hK:K (.bool false) H):aJ x afB [I a] H K:=by
 refine dw (by simp only [RH]) ?_
 refine bf aht ?_;simp only [yM,aG]
 refine aB ?_
 refine aB ?_
 refine aU ?_
 exact ⟨NN.bool,by simpa using hK⟩
theorem wE {x:Bool} {a b:Int} {H:BH} {K:Value→BH→Prop} (hK:K (.bool (decide (a<b))) H):aJ x afx [I a,I b] H K:=by
 refine dw (by simp only [RH]) ?_
 refine bf ahp ?_;simp only [yL,aG]
 refine aB ?_
 refine dB fun Kr hKr=>?_
 refine anQ ?_
 refine aO ?_
 refine aI hKr ?_
 refine aU ?_
 exact ⟨NN.bool,hK⟩
theorem A8 {k:Nat} {a:aj} {Q:Ex→Fr→BH→Prop} {f:Fr} {H:BH} (h:T k (.seq a .skip) Q f H):T k a Q f H:=by
 intro ρ Z fA HA hk h1 h2
 obtain ⟨ex,iF,HA',h3,h4⟩:=h ρ Z fA HA hk h1 h2
 refine ⟨ex,iF,HA',?_,h4⟩
 cases h3 with
 |gq ha hb=>cases hb;exact ha
 |fG ha _=>exact ha
theorem ane {p:List Int} {a b:Nat} {K:Value→BH→Prop} (hp:p.length≤1000) (hb:b≤p.length) (ha:a≤b) (hK: ∀q,Sg a b p q→rO a b q→K (.tuple ⟨[]⟩) [some (q.map I)]):
  aJ false afs [S 0 0 p.length 1,I a,I b] [some (p.map I)] K:=by
 refine bf ahk ?_;simp only [kY,aG]
 refine aB ?_
 refine A8 ?_
 refine bM (fun m f H'=> ∃(i:Nat) (q:List Int),a+1≤i∧(i≤b∨i=a+1)∧m=b-i∧Sg a b p q∧rO a i q∧f 0=S 0 0 p.length 1∧f 1=I a∧f 2=I b∧f 6=I i∧H'=[some (q.map I)]) (b-(a+1)) ?_ ?_
 ·exact ⟨_,_,Gh.refl,a+1,p,by omega,by omega,by omega, .refl,rO.one,ah,ah,ah,ah,rfl⟩
 ·rintro m f H' R ⟨i,q,hi1,hi2,rfl,hq,hs,g0,g1,g2,g6,rfl⟩ hN hX hR hE
  simp only [kY.l1,aG]
  refine au (aC @g2 @g6) ?_
  refine aV (i<b) (fun hc=>?_) fun hc=>?_
  ·refine bK ?_
   refine au @g6 ?_
   refine bM (fun m f H'=> ∃(j:Nat) (r:List Int),a≤j∧j≤i∧j=m∧Sg a b p r∧(∀x y,a≤x→x<y→y≤i→y≠j→el r x≤el r y)∧f 0=S 0 0 p.length 1∧f 1=I a∧f 2=I b∧f 6=I i∧f 7=I j∧H'=[some (r.map I)]) (i) ?_ ?_
   ·exact ⟨_,_,Gh.refl,i,q,by omega,by omega,by omega,hq,fun x y h1 h2 h3 h4=>hs x y h1 (by omega) (by omega),ah,ah,ah,ah,ah,rfl⟩
   ·clear g0 g1 g2 g6
    rintro m f H' R2 ⟨j,r,hj1,hj2,rfl,hr,hall,g0,g1,g2,g6,g7,rfl⟩ iG hX2 hR2 hE2
    simp only [kY.l0,aG]
    have hrl:=hr.len
    have hdone: ∀f',f' 0=S 0 0 p.length 1→f' 1=I a→f' 2=I b→f' 6=I i→(j=a∨el r (j-1)≤el r j)→T 1 kY.r2 R f' [some (r.map I)]:=by
     intro f' g0 g1 g2 g6 hfin
     refine bI @g6 ?_
     refine hN (b-(i+1)) _ _ _ _ (by omega) Gh.refl ⟨i+1,r,by omega,by omega,rfl,hr,fun x y h1 h2 h3=>?_,ah,ah,ah,ah,rfl⟩
     rcases Nat.lt_or_ge x y with h|h
     ·by_cases hy:y=j
      ·subst hy
       rcases hfin with hfin|hfin
       ·omega
       ·rcases Nat.lt_or_ge x (y-1) with h'|h'
        ·exact Int.le_trans (hall x (y-1) h1 h' (by omega) (by omega)) hfin
        ·obtain rfl:x=y-1:=by omega
         exact hfin
      ·exact hall x y h1 h (by omega) hy
     ·obtain rfl:x=y:=by omega
      exact Int.le_refl _
    by_cases hja:j=a
    ·refine au (aX @g1 @g7 @hja) ?_
     refine bY ?_
     refine hX2 _ _ ?_
     exact hdone _ ah ah ah ah (.inl hja)
    ·have hlt:a<j:=by omega
     have QM:(j:Int)-1=((j-1:Nat):Int):=by omega
     refine aY (jM @g0 @g1 @g7 @hlt @QM @hrl) fun Kr hKr=>?_
     refine wE ?_
     refine aO ?_
     refine aI hKr ?_
     refine aV (el r j<el r (j-1)) (fun hc=>?_) fun hc=>?_
     ·have hrs:(r.set j (el r (j-1))).length=p.length:=by simp [hrl]
      refine bK ?_
      refine au (bG @g0 @g7 @QM @hrl) ?_
      refine bI (aC @g7 @QM) ?_
      have hsw:(r.set j (el r (j-1))).set (j-1) (el r j)=swp r j (j-1):=rfl
      refine iG (j-1) _ _ _ _ (by omega) Gh.refl ⟨j-1,swp r j (j-1),by omega,by omega,rfl,hr.trans (.swp (by omega) (by omega) (by omega) (by omega) (by omega)),fun x y h1 h2 h3 h4=>?_,ah,ah,ah,ah,ah,rfl⟩
      rw [qy (by omega) (by omega),qy (by omega) (by omega)]
      by_cases hyj:y=j
      ·rw [if_neg (by omega: ¬y=j-1),if_pos hyj]
       by_cases hxj:x=j-1
       ·rw [if_pos hxj];omega
       ·rw [if_neg hxj,if_neg (by omega)]
        exact hall x (j-1) h1 (by omega) (by omega) (by omega)
      ·rw [if_neg h4,if_neg hyj]
       by_cases hxj:x=j-1
       ·rw [if_pos hxj]
        exact hall j y (by omega) (by omega) h3 hyj
       ·rw [if_neg hxj]
        by_cases aco:x=j
        ·rw [if_pos aco]
         exact hall (j-1) y (by omega) (by omega) h3 hyj
        ·rw [if_neg aco]
         exact hall x y h1 h2 h3 hyj
     ·refine hX2 _ _ ?_
      exact hdone _ ah ah ah ah (.inr (by omega))
  ·refine hX _ _ ?_
   refine wL ?_
   refine aU ?_
   refine hK q hq fun x y h1 h2 h3=>?_
   rcases hi2 with h|h
   ·exact hs x y h1 h2 (by omega)
   ·obtain rfl:x=y:=by omega
    exact Int.le_refl _
end Go.Bm
namespace Go.Bm
open Go Go.Am
section
variable {k:Nat} {Q:Ex→Fr→BH→Prop} {f:Fr} {H:BH}
theorem Bd {id:Nat} {a rest:aj} (J:Nat→Fr→BH→Prop) (P:Fr→BH→Prop) (n:Nat) (h0: ∃f1 H1,Gh k f H f1 H1∧J n f1 H1)
  (hr: ∀n f H (R:Ex→Fr→BH→Prop),J n f H→(∀m f' H' f1 H1,m<n→Gh k f' H' f1 H1→J m f1 H1→R .normal f' H')→(∀f' H',P f' H'→R (.exit id) f' H')→(∀f' H',Q .ret f' H'→R .ret f' H')→T k a R f H)
  (hp: ∀f H,P f H→T k rest Q f H):T k (.seq (.block id (.loop a)) rest) Q f H:=
 bM J n h0 fun n f H R hJ hN hX hR hE=>hr n f H R hJ hN (fun f' H' h=>hX f' H' (hp f' H' h)) hR
end
structure PI (p q:List Int) (v:Int) (a b i j:Nat):Prop where
 sg:Sg a b p q
 lo:a+1≤i
 ij:i≤j+1
 jb:j<b
 ge:a≤j
 va:el q a=v
 lt: ∀x,a<x→x<i→el q x<v
 gt: ∀x,j<x→x<b→v≤el q x
section
variable {p q:List Int} {v:Int} {a b i j:Nat}
theorem PI.up (h:PI p q v a b i j) (hij:i≤j) (hx:el q i<v):PI p q v a b (i+1) j:=⟨h.sg,by have:=h.lo;omega,by omega,h.jb,h.ge,h.va,fun x h1 h2=>by
 rcases Nat.lt_or_ge x i with h3|h3
 ·exact h.lt x h1 h3
 ·obtain rfl:x=i:=by omega
  exact hx,h.gt⟩
theorem PI.dn (h:PI p q v a b i j) (hij:i≤j) (hx: ¬el q j<v):PI p q v a b i (j-1):=⟨h.sg,h.lo,by have:=h.lo;omega,by have:=h.jb;omega,by have:=h.lo;omega,h.va,h.lt,fun x h1 h2=>by
 rcases Nat.lt_or_ge j x with h3|h3
 ·exact h.gt x h3 h2
 ·obtain rfl:x=j:=by have:=h.lo;omega
  omega⟩
theorem PI.keep (h:PI p q v a b i j) (hs:j<i∨ ¬(el q i<v)) (hij:i≤j):j-1<i∨ ¬(el q i<v):=by
 rcases hs with hs|hs
 ·omega
 ·exact .inr hs
theorem PI.ex (h:PI p q v a b i j) (hb:b≤p.length) (h1:i<j) (h2: ¬el q i<v) (h3:el q j<v):PI p (swp q i j) v a b (i+1) (j-1):=by
 have hl:=h.sg.len
 have lo:=h.lo
 have jb:=h.jb
 refine ⟨h.sg.trans (.swp (by omega) (by omega) (by omega) (by omega) (by omega)),by omega,by omega,by omega,by omega,?_,fun x x1 x2=>?_,fun x x1 x2=>?_⟩
 ·rw [qy (by omega) (by omega),if_neg (by omega),if_neg (by omega)];exact h.va
 ·rw [qy (by omega) (by omega),if_neg (by omega)]
  split
  ·exact h3
  ·exact h.lt x x1 (by omega)
 ·rw [qy (by omega) (by omega)]
  split
  ·omega
  ·rw [if_neg (by omega)]
   exact h.gt x (by omega) x2
theorem PI.fin (h:PI p q v a b i j) (hb:b≤p.length) (h1:j<i):Sg a b p (swp q j a)∧(∀x,a≤x→x<j→el (swp q j a) x≤el (swp q j a) j)∧(∀x,j<x→x<b→el (swp q j a) j≤el (swp q j a) x):=by
 have hl:=h.sg.len
 have lo:=h.lo
 have jb:=h.jb
 have ge:=h.ge
 have ij:=h.ij
 have ej:el (swp q j a) j=v:=by
  rw [qy (by omega) (by omega)]
  split
  ·rename_i e;rw [e];exact h.va
  ·rw [if_pos rfl];exact h.va
 refine ⟨h.sg.trans (.swp (by omega) (by omega) (by omega) (by omega) (by omega)),fun x x1 x2=>?_,fun x x1 x2=>?_⟩
 ·rw [ej,qy (by omega) (by omega)]
  split
  ·exact Int.le_of_lt (h.lt j (by omega) (by omega))
  ·rw [if_neg (by omega)]
   exact Int.le_of_lt (h.lt x (by omega) (by omega))
 ·rw [ej,qy (by omega) (by omega),if_neg (by omega),if_neg (by omega)]
  exact h.gt x x1 x2
end
structure nI (p q:List Int) (v:Int) (a b i j:Nat):Prop where
 sg:Sg a b p q
 lo:a+1≤i
 ij:i≤j+1
 jb:j<b
 ge:a≤j
 va:el q a=v
 lt: ∀x,a<x→x<i→el q x≤v
 gt: ∀x,j<x→x<b→v<el q x
section
variable {p q:List Int} {v:Int} {a b i j:Nat}
theorem nI.upE (h:nI p q v a b i j) (hij:i≤j) (hx: ¬v<el q i):nI p q v a b (i+1) j:=⟨h.sg,by have:=h.lo;omega,by omega,h.jb,h.ge,h.va,fun x h1 h2=>by
 rcases Nat.lt_or_ge x i with h3|h3
 ·exact h.lt x h1 h3
 ·obtain rfl:x=i:=by omega
  omega,h.gt⟩
theorem nI.dnE (h:nI p q v a b i j) (hij:i≤j) (hx:v<el q j):nI p q v a b i (j-1):=⟨h.sg,h.lo,by have:=h.lo;omega,by have:=h.jb;omega,by have:=h.lo;omega,h.va,h.lt,fun x h1 h2=>by
 rcases Nat.lt_or_ge j x with h3|h3
 ·exact h.gt x h3 h2
 ·obtain rfl:x=j:=by have:=h.lo;omega
  exact hx⟩
theorem nI.anR (h:nI p q v a b i j) (hs:j<i∨ ¬(¬v<el q i)) (hij:i≤j):j-1<i∨ ¬(¬v<el q i):=by
 rcases hs with hs|hs
 ·omega
 ·exact .inr hs
theorem nI.exE (h:nI p q v a b i j) (hb:b≤p.length) (h1:i<j) (h2:v<el q i) (h3: ¬v<el q j):nI p (swp q i j) v a b (i+1) (j-1):=by
 have hl:=h.sg.len
 have lo:=h.lo
 have jb:=h.jb
 refine ⟨h.sg.trans (.swp (by omega) (by omega) (by omega) (by omega) (by omega)),by omega,by omega,by omega,by omega,?_,fun x x1 x2=>?_,fun x x1 x2=>?_⟩
 ·rw [qy (by omega) (by omega),if_neg (by omega),if_neg (by omega)];exact h.va
 ·rw [qy (by omega) (by omega),if_neg (by omega)]
  split
  ·omega
  ·exact h.lt x x1 (by omega)
 ·rw [qy (by omega) (by omega)]
  split
  ·exact h2
  ·rw [if_neg (by omega)]
   exact h.gt x (by omega) x2
end
theorem PI.start {p:List Int} {a b t:Nat} (hb:b≤p.length) (h1:a≤t) (h2:t<b):PI p (swp p a t) (el p t) a b (a+1) (b-1):=⟨.swp (by omega) (by omega) (by omega) (by omega) hb,by omega,by omega,by omega,by omega,by
 rw [qy (by omega) (by omega)]
 split
 ·rename_i e;rw [e]
 ·rw [if_pos rfl],fun x x1 x2=>by omega,fun x x1 x2=>by omega⟩
theorem nI.start {p:List Int} {a b t:Nat} (hb:b≤p.length) (h1:a≤t) (h2:t<b):nI p (swp p a t) (el p t) a b (a+1) (b-1):=⟨.swp (by omega) (by omega) (by omega) (by omega) hb,by omega,by omega,by omega,by omega,by
 rw [qy (by omega) (by omega)]
 split
 ·rename_i e;rw [e]
 ·rw [if_pos rfl],fun x x1 x2=>by omega,fun x x1 x2=>by omega⟩
theorem anj {p:List Int} {a b t:Nat} {K:Value→BH→Prop} (hpl:p.length≤1000) (hb:b≤p.length) (h1:a≤t) (h2:t<b)
  (hK: ∀q mid al,Sg a b p q→a≤mid→mid<b→(∀x,a≤x→x<mid→el q x≤el q mid)→(∀x,mid<x→x<b→el q mid≤el q x)→K (.tuple ⟨[I (mid:Nat), .bool al]⟩) [some (q.map I)]):
  aJ false afz [S 0 0 p.length 1,I a,I b,I t] [some (p.map I)] K:=by
 have hp0:=PI.start hb h1 h2
 have hps:(p.set a (el p t)).length=p.length:=by simp
 have hb1:(b:Int)-1=((b-1:Nat):Int):=by omega
 have ha1:(a:Int)+1=((a+1:Nat):Int):=by omega
 refine bf ahr ?_;simp only [dH,aG]
 refine aB ?_
 refine au @hps ?_
 refine au (aC @hb1 @ha1) ?_
 have hsw:(p.set a (el p t)).set t (el p a)=swp p a t:=rfl
 rw [hsw]
 generalize el p t=v at hp0
 generalize swp p a t=q at hp0
 clear hsw hps
 obtain ⟨i0,hi0⟩: ∃i0,i0=a+1:=⟨_,rfl⟩
 obtain ⟨j,hj⟩: ∃j,j=b-1:=⟨_,rfl⟩
 rw [←hi0,←hj] at hp0
 rw [←hi0] at ha1
 rw [←hj] at hb1
 simp only [←hi0,←hj]
 clear hi0 hj
 refine Bd (fun m f H'=> ∃i,i0≤i∧PI p q v a b i j∧m=j+1-i∧f 0=S 0 0 p.length 1∧f 1=I a∧f 10=I i∧f 11=I j∧H'=[some (q.map I)]) (fun f H'=> ∃i,i0≤i∧PI p q v a b i j∧(j<i∨ ¬(el q i<v))∧f 0=S 0 0 p.length 1∧f 1=I a∧f 10=I i∧f 11=I j∧H'=[some (q.map I)]) (j+1-i0) ?_ ?_ ?_
 ·exact ⟨_,_,Gh.refl,i0,Nat.le_refl _,hp0,rfl,ah,ah,ah,ah,rfl⟩
 ·clear hp0 ha1 hb1
  rintro m f H' R2 ⟨i,hi0,hp,rfl,g0,g1,g10,g11,rfl⟩ iG hX2 hR2
  simp only [dH.l0,aG]
  have dM:=hp.sg.len
  have hge:=hp.ge
  have hjb:=hp.jb
  have hva:=hp.va
  have hlo:=hp.lo
  by_cases hij:i≤j
  ·refine aY (bG (bG @g0 @g1 @g10 @g11) @hij @dM @hva) fun Kr hKr=>?_
   refine wE ?_
   refine aO ?_
   refine aI hKr ?_
   refine aV (el q i<v) (fun hc=>?_) fun hc=>?_
   ·refine bK ?_
    refine bI @g10 ?_
    exact iG (j+1-(i+1)) _ _ _ _ (by omega) Gh.refl ⟨i+1,by omega,hp.up hij hc,rfl,ah,ah,ah,ah,rfl⟩
   ·refine hX2 _ _ ⟨i,hi0,hp, .inr (by first|exact hc|exact fun h=>h hc|exact fun h=>hc h),ah,ah,ah,ah,rfl⟩
  ·refine au (aX @g10 @g11 @hij) ?_
   refine bY ?_
   refine hX2 _ _ ⟨i,hi0,hp, .inl (by omega),ah,ah,ah,ah,rfl⟩
 ·clear hp0 ha1 hb1
  rintro f H' ⟨i,hi0,hp0,hs,g0,g1,g10,g11,rfl⟩
  clear hi0
  obtain ⟨j0,hj0⟩: ∃j0,j0=j:=⟨_,rfl⟩
  rw [←hj0] at hp0 g11 hs
  clear hj0 j
  refine Bd (fun m f H'=> ∃j,j≤j0∧PI p q v a b i j∧j=m∧(j<i∨ ¬(el q i<v))∧f 0=S 0 0 p.length 1∧f 1=I a∧f 10=I i∧f 11=I j∧H'=[some (q.map I)]) (fun f H'=> ∃j,j≤j0∧PI p q v a b i j∧(j<i∨ ¬(el q i<v))∧(j<i∨ ¬(¬el q j<v))∧f 0=S 0 0 p.length 1∧f 1=I a∧f 10=I i∧f 11=I j∧H'=[some (q.map I)]) (j0) ?_ ?_ ?_
  ·exact ⟨_,_,Gh.refl,j0,Nat.le_refl _,hp0,rfl,hs,ah,ah,ah,ah,rfl⟩
  ·clear hp0 g0 g1 g10 g11 hs
   rintro m f H' R2 ⟨j,hj0,hp,rfl,hs,g0,g1,g10,g11,rfl⟩ iG hX2 hR2
   simp only [dH.l1,aG]
   have dM:=hp.sg.len
   have hge:=hp.ge
   have hjb:=hp.jb
   have hva:=hp.va
   have hlo:=hp.lo
   by_cases hij:i≤j
   ·refine aY (bG (bG @g0 @g1 @g10 @g11) @hij @dM @hva) fun Kr hKr=>?_
    refine wE ?_
    refine aO ?_
    refine aI hKr ?_
    refine aV (¬el q j<v) (fun hc=>?_) fun hc=>?_
    ·refine bK ?_
     have hj1:(j:Int)-1=((j-1:Nat):Int):=by omega
     refine bI (aC @g11 @hj1) ?_
     exact iG (j-1) _ _ _ _ (by omega) Gh.refl ⟨j-1,by omega,hp.dn hij hc,rfl,hp.keep hs hij,ah,ah,ah,ah,rfl⟩
    ·refine hX2 _ _ ⟨j,hj0,hp,hs, .inr (by first|exact hc|exact fun h=>h hc|exact fun h=>hc h),ah,ah,ah,ah,rfl⟩
   ·refine au (aX @g10 @g11 @hij) ?_
    refine bY ?_
    refine hX2 _ _ ⟨j,hj0,hp,hs, .inl (by omega),ah,ah,ah,ah,rfl⟩
  ·clear hp0 g0 g1 g10 g11 hs
   rintro f H' ⟨j,hj0,hp,hs,hs2,g0,g1,g10,g11,rfl⟩
   have dM:=hp.sg.len
   have hge:=hp.ge
   have hjb:=hp.jb
   have hva:=hp.va
   have hlo:=hp.lo
   refine iE ?_
   refine au (aC @g10 @g11) ?_
   refine aV (j<i) (fun hc=>?_) fun hc=>?_
   ·have qw:(q.set j (el q a)).length=p.length:=by simp [dM]
    refine au (jk @g0 @g1 @g11 @dM @qw) ?_
    refine au @g11 ?_
    refine aU ?_
    obtain ⟨r1,r2,r3⟩:=hp.fin hb hc
    exact hK (swp q j a) j true r1 (by omega) (by omega) r2 r3
   ·have hq1: ¬el q i<v:=by rcases hs with h|h;omega;exact h
    have hq2:el q j<v:=by rcases hs2 with h|h;omega;omega
    have hij:i<j:=by
     rcases Nat.lt_or_ge i j with h|h
     ·exact h
     ·have:i=j:=by omega
      subst this
      exact absurd hq2 hq1
    have qw:(q.set i (el q j)).length=p.length:=by simp [dM]
    have hj1:(j:Int)-1=((j-1:Nat):Int):=by omega
    have hi1:(i:Int)+1=((i+1:Nat):Int):=by omega
    have hp':=hp.ex hb hij hq1 hq2
    have DK:(q.set i (el q j)).set j (el q i)=swp q i j:=rfl
    refine au (jk @g0 @g10 @g11 @dM @qw) ?_
    refine au (aC @g10 @hi1) ?_
    refine au (aC @g11 @hj1) ?_
    rw [DK]
    refine bM (fun m f H'=> ∃(q:List Int) (i j:Nat),PI p q v a b i j∧m=j+1-i∧f 0=S 0 0 p.length 1∧f 1=I a∧f 10=I i∧f 11=I j∧H'=[some (q.map I)]) (j-1+1-(i+1)) ?_ ?_
    ·exact ⟨_,_,Gh.refl,swp q i j,i+1,j-1,hp',rfl,ah,ah,ah,ah,rfl⟩
    ·clear dM hge hjb hva hlo hc hq1 hq2 hij qw hj1 hi1 hp' DK hp hs hs2 g0 g1 g10 g11 hj0
     rintro m f H' R ⟨q,i0,j,hp0,rfl,g0,g1,g10,g11,rfl⟩ hN hX hR hE
     simp only [dH.l4,aG]
     refine bK ?_
     refine Bd (fun m f H'=> ∃i,i0≤i∧PI p q v a b i j∧m=j+1-i∧f 0=S 0 0 p.length 1∧f 1=I a∧f 10=I i∧f 11=I j∧H'=[some (q.map I)]) (fun f H'=> ∃i,i0≤i∧PI p q v a b i j∧(j<i∨ ¬(el q i<v))∧f 0=S 0 0 p.length 1∧f 1=I a∧f 10=I i∧f 11=I j∧H'=[some (q.map I)]) (j+1-i0) ?_ ?_ ?_
     ·exact ⟨_,_,Gh.refl,i0,Nat.le_refl _,hp0,rfl,ah,ah,ah,ah,rfl⟩
     ·clear g0 g1 g10 g11
      rintro m f H' R2 ⟨i,hi0,hp,rfl,g0,g1,g10,g11,rfl⟩ iG hX2 hR2
      simp only [dH.l2,aG]
      have dM:=hp.sg.len
      have hge:=hp.ge
      have hjb:=hp.jb
      have hva:=hp.va
      have hlo:=hp.lo
      by_cases hij:i≤j
      ·refine aY (bG (bG @g0 @g1 @g10 @g11) @hij @dM @hva) fun Kr hKr=>?_
       refine wE ?_
       refine aO ?_
       refine aI hKr ?_
       refine aV (el q i<v) (fun hc=>?_) fun hc=>?_
       ·refine bK ?_
        refine bI @g10 ?_
        exact iG (j+1-(i+1)) _ _ _ _ (by omega) Gh.refl ⟨i+1,by omega,hp.up hij hc,rfl,ah,ah,ah,ah,rfl⟩
       ·refine hX2 _ _ ⟨i,hi0,hp, .inr (by first|exact hc|exact fun h=>h hc|exact fun h=>hc h),ah,ah,ah,ah,rfl⟩
      ·refine au (aX @g10 @g11 @hij) ?_
       refine bY ?_
       refine hX2 _ _ ⟨i,hi0,hp, .inl (by omega),ah,ah,ah,ah,rfl⟩
     ·clear g0 g1 g10 g11
      rintro f H' ⟨i,hi0,hp1,hs,g0,g1,g10,g11,rfl⟩
      obtain ⟨j0,Bf⟩: ∃j0,j0=j:=⟨_,rfl⟩
      rw [←Bf] at hp1 g11 hs
      rw [←Bf] at hN
      clear hp0 Bf j
      refine Bd (fun m f H'=> ∃j,j≤j0∧PI p q v a b i j∧j=m∧(j<i∨ ¬(el q i<v))∧f 0=S 0 0 p.length 1∧f 1=I a∧f 10=I i∧f 11=I j∧H'=[some (q.map I)]) (fun f H'=> ∃j,j≤j0∧PI p q v a b i j∧(j<i∨ ¬(el q i<v))∧(j<i∨ ¬(¬el q j<v))∧f 0=S 0 0 p.length 1∧f 1=I a∧f 10=I i∧f 11=I j∧H'=[some (q.map I)]) (j0) ?_ ?_ ?_
      ·exact ⟨_,_,Gh.refl,j0,Nat.le_refl _,hp1,rfl,hs,ah,ah,ah,ah,rfl⟩
      ·clear g0 g1 g10 g11 hs
       rintro m f H' R2 ⟨j,hj0,hp,rfl,hs,g0,g1,g10,g11,rfl⟩ iG hX2 hR2
       simp only [dH.l3,aG]
       have dM:=hp.sg.len
       have hge:=hp.ge
       have hjb:=hp.jb
       have hva:=hp.va
       have hlo:=hp.lo
       by_cases hij:i≤j
       ·refine aY (bG (bG @g0 @g1 @g10 @g11) @hij @dM @hva) fun Kr hKr=>?_
        refine wE ?_
        refine aO ?_
        refine aI hKr ?_
        refine aV (¬el q j<v) (fun hc=>?_) fun hc=>?_
        ·refine bK ?_
         have hj1:(j:Int)-1=((j-1:Nat):Int):=by omega
         refine bI (aC @g11 @hj1) ?_
         exact iG (j-1) _ _ _ _ (by omega) Gh.refl ⟨j-1,by omega,hp.dn hij hc,rfl,hp.keep hs hij,ah,ah,ah,ah,rfl⟩
        ·refine hX2 _ _ ⟨j,hj0,hp,hs, .inr (by first|exact hc|exact fun h=>h hc|exact fun h=>hc h),ah,ah,ah,ah,rfl⟩
       ·refine au (aX @g10 @g11 @hij) ?_
        refine bY ?_
        refine hX2 _ _ ⟨j,hj0,hp,hs, .inl (by omega),ah,ah,ah,ah,rfl⟩
      ·clear g0 g1 g10 g11 hs
       rintro f H' ⟨j,hj0,hp,hs,hs2,g0,g1,g10,g11,rfl⟩
       have dM:=hp.sg.len
       have hge:=hp.ge
       have hjb:=hp.jb
       have hva:=hp.va
       have hlo:=hp.lo
       refine iE ?_
       refine au (aC @g10 @g11) ?_
       refine aV (j<i) (fun hc=>?_) fun hc=>?_
       ·refine hX _ _ ?_
        have qw:(q.set j (el q a)).length=p.length:=by simp [dM]
        refine au (jk @g0 @g1 @g11 @dM @qw) ?_
        refine au @g11 ?_
        refine aU ?_
        obtain ⟨r1,r2,r3⟩:=hp.fin hb hc
        exact hK (swp q j a) j false r1 (by omega) (by omega) r2 r3
       ·have hq1: ¬el q i<v:=by rcases hs with h|h;omega;exact h
        have hq2:el q j<v:=by rcases hs2 with h|h;omega;omega
        have hij:i<j:=by
         rcases Nat.lt_or_ge i j with h|h
         ·exact h
         ·have:i=j:=by omega
          subst this
          exact absurd hq2 hq1
        have qw:(q.set i (el q j)).length=p.length:=by simp [dM]
        have hj1:(j:Int)-1=((j-1:Nat):Int):=by omega
        have hi1:(i:Int)+1=((i+1:Nat):Int):=by omega
        have hp':=hp.ex hb hij hq1 hq2
        have DK:(q.set i (el q j)).set j (el q i)=swp q i j:=rfl
        refine au (jk @g0 @g10 @g11 @dM @qw) ?_
        rw [DK]
        refine au (aC @g10 @hi1) ?_
        refine bI (aC @g11 @hj1) ?_
        exact hN (j-1+1-(i+1)) _ _ _ _ (by omega) Gh.refl ⟨swp q i j,i+1,j-1,hp',rfl,ah,ah,ah,ah,rfl⟩
end Go.Bm
namespace Go.Bm
open Go Go.Am
theorem ani {p:List Int} {a b t:Nat} {K:Value→BH→Prop} (hpl:p.length≤1000) (hb:b≤p.length) (h1:a≤t) (h2:t<b) (hge: ∀x,a≤x→x<b→el p t≤el p x)
  (hK: ∀q mid,Sg a b p q→a<mid→mid≤b→(∀x,a≤x→x<mid→el q x=el p t)→(∀x,a≤x→x<b→el p t≤el q x)→K (I (mid:Nat)) [some (q.map I)]):
  aJ false afy [S 0 0 p.length 1,I a,I b,I t] [some (p.map I)] K:=by
 have hp0:=nI.start hb h1 h2
 have hps:(p.set a (el p t)).length=p.length:=by simp
 have hb1:(b:Int)-1=((b-1:Nat):Int):=by omega
 have ha1:(a:Int)+1=((a+1:Nat):Int):=by omega
 have hfin: ∀q i j,nI p q (el p t) a b i j→j<i→K (I (i:Nat)) [some (q.map I)]:=by
  intro q i j hp hji
  have h3:=hp.lo
  have h4:=hp.ij
  have h5:=hp.jb
  have hall: ∀x,a≤x→x<b→el p t≤el q x:=fun x x1 x2=>by
   obtain ⟨y,y1,y2,y3⟩:=hp.sg.src x x1 x2
   rw [y3]
   exact hge y y1 y2
  refine hK q i hp.sg (by omega) (by omega) (fun x x1 x2=>?_) hall
  rcases Nat.lt_or_ge a x with h|h
  ·have:=hp.lt x h x2
   have:=hall x x1 (by omega)
   omega
  ·obtain rfl:x=a:=by omega
   exact hp.va
 refine bf ahq ?_;simp only [iK,aG]
 refine aB ?_
 refine au @hps ?_
 refine au (aC @hb1 @ha1) ?_
 have hsw:(p.set a (el p t)).set t (el p a)=swp p a t:=rfl
 rw [hsw]
 clear hge hK
 generalize el p t=v at hp0 hfin
 generalize swp p a t=q at hp0
 clear hsw hps
 refine bM (fun m f H'=> ∃(q:List Int) (i j:Nat),nI p q v a b i j∧m=j+1-i∧f 0=S 0 0 p.length 1∧f 1=I a∧f 9=I i∧f 10=I j∧H'=[some (q.map I)]) (b-1+1-(a+1)) ?_ ?_
 ·exact ⟨_,_,Gh.refl,q,a+1,b-1,hp0,rfl,ah,ah,ah,ah,rfl⟩
 ·clear hp0 ha1 hb1 q
  rintro m f H' R ⟨q,i0,j,hp0,rfl,g0,g1,g9,g10,rfl⟩ hN hX hR hE
  simp only [iK.l2,aG]
  refine bK ?_
  refine Bd (fun m f H'=> ∃i,i0≤i∧nI p q v a b i j∧m=j+1-i∧f 0=S 0 0 p.length 1∧f 1=I a∧f 9=I i∧f 10=I j∧H'=[some (q.map I)]) (fun f H'=> ∃i,i0≤i∧nI p q v a b i j∧(j<i∨ ¬(¬v<el q i))∧f 0=S 0 0 p.length 1∧f 1=I a∧f 9=I i∧f 10=I j∧H'=[some (q.map I)]) (j+1-i0) ?_ ?_ ?_
  ·exact ⟨_,_,Gh.refl,i0,Nat.le_refl _,hp0,rfl,ah,ah,ah,ah,rfl⟩
  ·clear g0 g1 g9 g10
   rintro m f H' R2 ⟨i,hi0,hp,rfl,g0,g1,g9,g10,rfl⟩ iG hX2 hR2
   simp only [iK.l0,aG]
   have dM:=hp.sg.len
   have hge:=hp.ge
   have hjb:=hp.jb
   have hva:=hp.va
   have hlo:=hp.lo
   by_cases hij:i≤j
   ·refine aY (bG (bG @g0 @g1 @g9 @g10) @hij @dM @hva) fun Kr hKr=>?_
    refine wE ?_
    refine aO ?_
    refine aI hKr ?_
    refine aV (¬v<el q i) (fun hc=>?_) fun hc=>?_
    ·refine bK ?_
     refine bI @g9 ?_
     exact iG (j+1-(i+1)) _ _ _ _ (by omega) Gh.refl ⟨i+1,by omega,hp.upE hij hc,rfl,ah,ah,ah,ah,rfl⟩
    ·refine hX2 _ _ ⟨i,hi0,hp, .inr (by first|exact hc|exact fun h=>h hc|exact fun h=>hc h),ah,ah,ah,ah,rfl⟩
   ·refine au (aX @g9 @g10 @hij) ?_
    refine bY ?_
    refine hX2 _ _ ⟨i,hi0,hp, .inl (by omega),ah,ah,ah,ah,rfl⟩
  ·clear g0 g1 g9 g10
   rintro f H' ⟨i,hi0,hp1,hs,g0,g1,g9,g10,rfl⟩
   obtain ⟨j0,Bf⟩: ∃j0,j0=j:=⟨_,rfl⟩
   rw [←Bf] at hp1 g10 hs
   rw [←Bf] at hN
   clear hp0 Bf j
   refine Bd (fun m f H'=> ∃j,j≤j0∧nI p q v a b i j∧j=m∧(j<i∨ ¬(¬v<el q i))∧f 0=S 0 0 p.length 1∧f 1=I a∧f 9=I i∧f 10=I j∧H'=[some (q.map I)]) (fun f H'=> ∃j,j≤j0∧nI p q v a b i j∧(j<i∨ ¬(¬v<el q i))∧(j<i∨ ¬(v<el q j))∧f 0=S 0 0 p.length 1∧f 1=I a∧f 9=I i∧f 10=I j∧H'=[some (q.map I)]) (j0) ?_ ?_ ?_
   ·exact ⟨_,_,Gh.refl,j0,Nat.le_refl _,hp1,rfl,hs,ah,ah,ah,ah,rfl⟩
   ·clear g0 g1 g9 g10 hs
    rintro m f H' R2 ⟨j,hj0,hp,rfl,hs,g0,g1,g9,g10,rfl⟩ iG hX2 hR2
    simp only [iK.l1,aG]
    have dM:=hp.sg.len
    have hge:=hp.ge
    have hjb:=hp.jb
    have hva:=hp.va
    have hlo:=hp.lo
    by_cases hij:i≤j
    ·refine aY (bG (bG @g0 @g1 @g9 @g10) @hij @dM @hva) fun Kr hKr=>?_
     refine wE ?_
     refine aO ?_
     refine aI hKr ?_
     refine aV (v<el q j) (fun hc=>?_) fun hc=>?_
     ·refine bK ?_
      have hj1:(j:Int)-1=((j-1:Nat):Int):=by omega
      refine bI (aC @g10 @hj1) ?_
      exact iG (j-1) _ _ _ _ (by omega) Gh.refl ⟨j-1,by omega,hp.dnE hij hc,rfl,hp.anR hs hij,ah,ah,ah,ah,rfl⟩
     ·refine hX2 _ _ ⟨j,hj0,hp,hs, .inr (by first|exact hc|exact fun h=>h hc|exact fun h=>hc h),ah,ah,ah,ah,rfl⟩
    ·refine au (aX @g9 @g10 @hij) ?_
     refine bY ?_
     refine hX2 _ _ ⟨j,hj0,hp,hs, .inl (by omega),ah,ah,ah,ah,rfl⟩
   ·clear g0 g1 g9 g10 hs
    rintro f H' ⟨j,hj0,hp,hs,hs2,g0,g1,g9,g10,rfl⟩
    have dM:=hp.sg.len
    have hge:=hp.ge
    have hjb:=hp.jb
    have hva:=hp.va
    have hlo:=hp.lo
    refine iE ?_
    refine au (aC @g9 @g10) ?_
    refine aV (j<i) (fun hc=>?_) fun hc=>?_
    ·refine hX _ _ ?_
     refine au @g9 ?_
     refine aU ?_
     exact hfin q i j hp hc
    ·have hq1:v<el q i:=by rcases hs with h|h;omega;omega
     have hq2: ¬v<el q j:=by rcases hs2 with h|h;omega;exact h
     have hij:i<j:=by
      rcases Nat.lt_or_ge i j with h|h
      ·exact h
      ·have:i=j:=by omega
       subst this
       exact absurd hq1 hq2
     have qw:(q.set i (el q j)).length=p.length:=by simp [dM]
     have hj1:(j:Int)-1=((j-1:Nat):Int):=by omega
     have hi1:(i:Int)+1=((i+1:Nat):Int):=by omega
     have hp':=hp.exE hb hij hq1 hq2
     have DK:(q.set i (el q j)).set j (el q i)=swp q i j:=rfl
     refine au (jk @g0 @g9 @g10 @dM @qw) ?_
     rw [DK]
     refine au (aC @g9 @hi1) ?_
     refine bI (aC @g10 @hj1) ?_
     exact hN (j-1+1-(i+1)) _ _ _ _ (by omega) Gh.refl ⟨swp q i j,i+1,j-1,hp',rfl,ah,ah,ah,ah,rfl⟩
end Go.Bm
namespace Go.Bm
open Go Go.Am
theorem ang {p:List Int} {a b:Nat} {K:Value→BH→Prop} (hpl:p.length≤1000) (hb:b≤p.length) (hab:a<b) (hK: ∀q,Sg a b p q→K (.tuple ⟨[]⟩) [some (q.map I)]):
  aJ false afv [S 0 0 p.length 1,I a,I b] [some (p.map I)] K:=by
 have hb1:(b:Int)-1=((b-1:Nat):Int):=by omega
 refine bf ahn ?_;simp only [nM,aG]
 refine aB ?_
 refine au @hb1 ?_
 refine A8 ?_
 refine bM (fun m f H'=> ∃(q:List Int) (i j:Nat),Sg a b p q∧a≤i∧i≤j+1∧j<b∧m=j+1-i∧f 0=S 0 0 p.length 1∧f 6=I i∧f 7=I j∧H'=[some (q.map I)]) (b-1+1-a) ?_ ?_
 ·exact ⟨_,_,Gh.refl,p,a,b-1, .refl,by omega,by omega,by omega,rfl,ah,ah,ah,rfl⟩
 ·rintro m f H' R ⟨q,i,j,hq,h1,h2,h3,rfl,g0,g6,g7,rfl⟩ hN hX hR hE
  simp only [nM.l0,aG]
  have dM:=hq.len
  refine au (aC @g6 @g7) ?_
  refine aV (i<j) (fun hc=>?_) fun hc=>?_
  ·have qw:(q.set i (el q j)).length=p.length:=by simp [dM]
   have hj1:(j:Int)-1=((j-1:Nat):Int):=by omega
   have hi1:(i:Int)+1=((i+1:Nat):Int):=by omega
   have hsw:(q.set i (el q j)).set j (el q i)=swp q i j:=rfl
   refine bK ?_
   refine au (jk @g0 @g6 @g7 @dM @qw) ?_
   rw [hsw]
   refine au (aC @g6 @hi1) ?_
   refine bI (aC @g7 @hj1) ?_
   exact hN (j-1+1-(i+1)) _ _ _ _ (by omega) Gh.refl ⟨swp q i j,i+1,j-1,hq.trans (.swp (by omega) (by omega) (by omega) (by omega) (by omega)),by omega,by omega,by omega,rfl,ah,ah,ah,rfl⟩
  ·refine hX _ _ ?_
   refine wL ?_
   refine aU ?_
   exact hK q hq
theorem ano {p:List Int} {K:Value→BH→Prop} (hpl:p.length≤1000) (hK:K (.tuple ⟨[]⟩) [some (p.reverse.map I)]):
  aJ false afl [S 0 0 p.length 1] [some (p.map I)] K:=by
 refine bf ahc ?_;simp only [qF,aG]
 refine aB ?_
 refine A8 ?_
 refine bM (fun m f H'=> ∃(q:List Int) (i:Nat) (j:Int),q.length=p.length∧j=(p.length:Int)-1-i∧2*(i:Int)≤p.length+1∧(∀x,x<p.length→el q x=if x<i∨p.length≤x+i then el p (p.length-1-x) else el p x)∧m=p.length-i∧f 0=S 0 0 p.length 1∧f 2=I i∧f 3=I j∧H'=[some (q.map I)]) (p.length) ?_ ?_
 ·refine ⟨_,_,Gh.refl,p,0,(p.length:Int)-1,rfl,by omega,by omega,fun x hx=>?_,rfl,ah,ah,ah,rfl⟩
  rw [if_neg (by omega)]
 ·rintro m f H' R ⟨q,i,j,dM,hj,h2,hq,rfl,g0,g2,g3,rfl⟩ hN hX hR hE
  simp only [qF.l0,aG]
  refine au (aC @g2 @g3) ?_
  refine aV ((i:Int)<j) (fun hc=>?_) fun hc=>?_
  ·obtain ⟨k,rfl⟩: ∃k:Nat,j=k:=⟨j.toNat,by omega⟩
   have qw:(q.set i (el q k)).length=p.length:=by simp [dM]
   have hsw:(q.set i (el q k)).set k (el q i)=swp q i k:=rfl
   refine bK ?_
   refine au (jk @g0 @g2 @g3 @dM @qw) ?_
   rw [hsw]
   refine bI (aC @g2 @g3) ?_
   refine hN (p.length-(i+1)) _ _ _ _ (by omega) Gh.refl ⟨swp q i k,i+1,(k:Int)-1,by rw [acn,dM],by omega,by omega,fun x hx=>?_,rfl,ah,ah,ah,rfl⟩
   rw [qy (by omega) (by omega)]
   split
   ·rw [hq i (by omega),if_neg (by omega),if_pos (by omega)]
    congr 1
    omega
   ·split
    ·rw [hq k (by omega),if_neg (by omega),if_pos (by omega)]
     congr 1
     omega
    ·rw [hq x hx]
     by_cases hc2:x<i∨p.length≤x+i
     ·rw [if_pos hc2,if_pos (by omega)]
     ·rw [if_neg hc2,if_neg (by omega)]
  ·refine hX _ _ ?_
   refine wL ?_
   refine aU ?_
   have:q=p.reverse:=SS (by simp [dM]) fun x hx=>by
    have e:el p.reverse x=el p (p.length-1-x):=by
     simp only [el,List.getD]
     rw [List.getElem?_reverse (by omega)]
    rw [e,hq x (by omega)]
    split
    ·rfl
    ·congr 1
     omega
   rw [this]
   exact hK
theorem Dy {v:Value}:bV none [v] 0=some v:=rfl
theorem anS {H:BH} {b:Nat} {v:Value} {k:IntKind} {n:Int}:fQ (some [v]) H b 0 1 (.int k n)=some (undef,H.set b (some [.int k n])):=rfl
theorem QN {p:List Int} {a b:Nat} {s:Nat} {K:Value→BH→Prop} (hpl:p.length≤1000) (ha:a<p.length) (hb:b<p.length) (hs:s≤1000)
  (hK: ∀(x y s':Nat),(x=a∧y=b)∨(x=b∧y=a)→s'≤s+1→K (.tuple ⟨[I x,I y]⟩) [some (p.map I),some [I s']]):
  aJ false afC [S 0 0 p.length 1,I a,I b,P 1 0] [some (p.map I),some [I s]] K:=by
 have hs1:(s:Int)+1=((s+1:Nat):Int):=by omega
 refine bf ahu ?_;simp only [ru,aG]
 refine aB ?_
 refine dB fun Kr hKr=>?_
 refine wE ?_
 refine aO ?_
 refine aI hKr ?_
 refine aV (el p b<el p a) (fun hc=>?_) fun hc=>?_
 ·refine au (aX @Dy @anS @hs1) ?_
  refine aB ?_
  refine aU ?_
  exact hK b a (s+1) (.inr ⟨rfl,rfl⟩) (by omega)
 ·refine aB ?_
  refine aU ?_
  exact hK a b s (.inl ⟨rfl,rfl⟩) (by omega)
theorem anT {p:List Int} {a b c:Nat} {s:Nat} {K:Value→BH→Prop} (hpl:p.length≤1000) (ha:a<p.length) (hb:b<p.length) (hc:c<p.length) (hs:s≤900)
  (hK: ∀(x s':Nat),x=a∨x=b∨x=c→s'≤s+3→K (I x) [some (p.map I),some [I s']]):
  aJ false afA [S 0 0 p.length 1,I a,I b,I c,P 1 0] [some (p.map I),some [I s]] K:=by
 refine bf ahs ?_;simp only [qZ,aG]
 refine aB ?_
 refine dB fun Kr hKr=>?_
 refine QN hpl ha hb (by omega) ?_
 intro a1 b1 s1 h1 hs1
 have ha1:a1<p.length:=by omega
 have hb1:b1<p.length:=by omega
 refine aO ?_
 refine aI hKr ?_
 refine dB fun Kr hKr=>?_
 refine QN hpl hb1 hc (by omega) ?_
 intro b2 c2 s2 h2 hs2
 have hb2:b2<p.length:=by omega
 refine aO ?_
 refine aI hKr ?_
 refine dB fun Kr hKr=>?_
 refine QN hpl ha1 hb2 (by omega) ?_
 intro a3 b3 s3 h3 hs3
 refine aO ?_
 refine aI hKr ?_
 refine aB ?_
 refine aU ?_
 exact hK b3 s3 (by omega) (by omega)
theorem anf {p:List Int} {a b:Nat} {K:Value→BH→Prop} (hpl:p.length≤1000) (hb:b≤p.length) (h8:a+8≤b) (h50:b<a+50)
  (hK: ∀(x:Nat) (h:Int),a≤x→x<b→K (.tuple ⟨[I x,I h]⟩) [some (p.map I)]):
  aJ false afu [S 0 0 p.length 1,I a,I b] [some (p.map I)] K:=by
 obtain ⟨l,hl⟩: ∃l,l=b-a:=⟨_,rfl⟩
 have hbl:(b:Int)-(a:Int)=(l:Int):=by omega
 have hd:(l:Int).tdiv 4=((l/4:Nat):Int):=(Int.ofNat_tdiv l 4).symm
 obtain ⟨q,hq⟩: ∃q,q=l/4:=⟨_,rfl⟩
 rw [←hq] at hd
 have e1:(a:Int)+(q:Int)*1=((a+q:Nat):Int):=by omega
 have e2:(a:Int)+(q:Int)*2=((a+q*2:Nat):Int):=by omega
 have e3:(a:Int)+(q:Int)*3=((a+q*3:Nat):Int):=by omega
 have e4:(q:Int)*1=q:=by omega
 have e5:(a:Int)+(q:Int)=((a+q:Nat):Int):=by omega
 refine bf ahm ?_;simp only [ig,aG]
 refine aB ?_
 refine au @hbl ?_
 refine aB ?_
 refine au (bG @hd @e1 @e4 @e5) ?_
 refine au (aC @hd @e2) ?_
 refine au (aC @hd @e3) ?_
 refine aB ?_
 refine dI ?_
 refine aB ?_
 refine bY ?_
 refine dB fun Kr hKr=>?_
 refine anT (s:=0) hpl (by omega) (by omega) (by omega) (by omega) ?_
 intro x s' hx hs'
 refine aO ?_
 refine aI hKr ?_
 refine au @Dy ?_
 refine bK ?_
 refine aB ?_
 refine xg (s'=0) (fun hc=>?_) fun hc=>?_
 ·refine aB ?_
  refine ji (by simp (disch:=omega) only [RA,↓reduceIte,Nat.reduceEqDiff,RD,dS,gJ];rfl) (dK.nrm [0] rfl rfl (by simp only [RH]) (by simp only [aF,RH])) ?_;simp only [aF]
  exact hK x 1 (by omega) (by omega)
 ·refine aB ?_
  refine pJ (t:=false) (by simp (disch:=omega) only [RA,↓reduceIte,Nat.reduceEqDiff,RD]) ?_;(try simp only [RN,reduceIte]);try refine eG rfl ?_
  refine aB ?_
  refine ji (by simp (disch:=omega) only [RA,↓reduceIte,Nat.reduceEqDiff,RD,dS,gJ];rfl) (dK.nrm [0] rfl rfl (by simp only [RH]) (by simp only [aF,RH])) ?_;simp only [aF]
  exact hK x 0 (by omega) (by omega)
theorem anh {p:List Int} {a b:Nat} {K:Value→BH→Prop} (hpl:p.length≤1000) (hb:b≤p.length) (hab:a<b) (h50:b<a+50) (hK: ∀r,(r=true→rO a b p)→K (.bool r) [some (p.map I)]):
  aJ false afw [S 0 0 p.length 1,I a,I b] [some (p.map I)] K:=by
 have ha1:(a:Int)+1=((a+1:Nat):Int):=by omega
 have hl1:(b:Int)-(a:Int)=((b-a:Nat):Int):=by omega
 refine bf aho ?_;simp only [dJ,aG]
 refine aB ?_
 refine au @ha1 ?_
 refine aB ?_
 refine bM (fun m f H'=>m=1∧f 0=S 0 0 p.length 1∧f 1=I a∧f 2=I b∧f 7=I (a+1:Nat)∧f 8=I 0∧H'=[some (p.map I)]) (1) ?_ ?_
 ·exact ⟨_,_,Gh.refl,rfl,ah,ah,ah,ah,ah,rfl⟩
 ·rintro m f H' R ⟨rfl,g0,g1,g2,g7,g8,rfl⟩ hN hX hR hE
  simp only [dJ.l3,aG]
  refine au @g8 ?_
  refine dI ?_
  refine bK ?_
  refine Bd (fun m f H'=> ∃i:Nat,a+1≤i∧i≤b∧rO a i p∧m=b-i∧f 0=S 0 0 p.length 1∧f 1=I a∧f 2=I b∧f 7=I i∧H'=[some (p.map I)]) (fun f H'=> ∃i:Nat,a+1≤i∧i≤b∧rO a i p∧f 0=S 0 0 p.length 1∧f 1=I a∧f 2=I b∧f 7=I i∧H'=[some (p.map I)]) (b-(a+1)) ?_ ?_ ?_
  ·exact ⟨_,_,Gh.refl,a+1,by omega,by omega, .one,rfl,ah,ah,ah,ah,rfl⟩
  ·clear g0 g1 g2 g7 g8
   rintro m f H' R2 ⟨i,hi1,hi2,hs,rfl,g0,g1,g2,g7,rfl⟩ iG hX2 hR2
   simp only [dJ.l0,aG]
   by_cases hib:i<b
   ·have anU:(i:Int)-1=((i-1:Nat):Int):=by omega
    have anV:(i:Int)+1=((i+1:Nat):Int):=by omega
    refine aY (jk @g0 @g2 @g7 @hib @anU) fun Kr hKr=>?_
    refine wE ?_
    refine aO ?_
    refine aI hKr ?_
    refine aV (¬el p i<el p (i-1)) (fun hc=>?_) fun hc=>?_
    ·refine bK ?_
     refine bI (aC @g7 @anV) ?_
     refine iG (b-(i+1)) _ _ _ _ (by omega) Gh.refl ⟨i+1,by omega,by omega,fun x y h1 h2 h3=>?_,rfl,ah,ah,ah,ah,rfl⟩
     rcases Nat.lt_or_ge y i with h|h
     ·exact hs x y h1 h2 h
     ·obtain rfl:y=i:=by omega
      rcases Nat.lt_or_ge x y with h'|h'
      ·exact Int.le_trans (hs x (y-1) h1 (by omega) (by omega)) (by omega)
      ·obtain rfl:x=y:=by omega
       exact Int.le_refl _
    ·exact hX2 _ _ ⟨i,by omega,by omega,hs,ah,ah,ah,ah,rfl⟩
   ·refine au (aX @g2 @g7 @hib) ?_
    refine bY ?_
    exact hX2 _ _ ⟨i,by omega,by omega,hs,ah,ah,ah,ah,rfl⟩
  ·clear g0 g1 g2 g7 g8
   rintro f H' ⟨i,hi1,hi2,hs,g0,g1,g2,g7,rfl⟩
   refine iE ?_
   refine au (aC @g2 @g7) ?_
   refine aV (i=b) (fun hc=>?_) fun hc=>?_
   ·refine aB ?_
    refine hR _ _ ?_
    refine aU ?_
    subst hc
    exact hK true fun _=>hs
   ·refine au (aX @g1 @g2 @hl1) ?_
    refine dI ?_
    refine aB ?_
    refine hR _ _ ?_
    refine aU ?_
    exact hK false fun h=>by cases h
end Go.Bm
