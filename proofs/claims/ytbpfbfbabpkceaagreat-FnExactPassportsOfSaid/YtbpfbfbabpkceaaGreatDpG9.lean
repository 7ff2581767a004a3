/- DpQj, DpSe, DpYg, DpYh, DpYi, DpPa, DpPg, Dp7, Dp8, DpI, DpR, DpT, DpPh, DpH, DpJ, DpPi, DpPj, DpPl, DpYj, DpYk -/
import Derived.Test.YtbpfbfbabpkceaaGreatDpG1
import Derived.Test.YtbpfbfbabpkceaaGreatDpG2
import Derived.Test.YtbpfbfbabpkceaaGreatDpG7
import Derived.Test.YtbpfbfbabpkceaaGreatDpG8
set_option linter.unusedVariables false
set_option linter.unusedSimpArgs false
set_option linter.unusedSectionVars false
namespace Go.Bm.Q5
open Go Go.Am Go.Bm
theorem zK {c:Int}:NN (.tuple ⟨[.slice none 0 0,I c]⟩):=NN.tuple (aJ.cons .nil (aJ.cons .int .nil))
section
variable {x:Bool} {H:BH} {K:Value→BH→Prop}
end
end Go.Bm.Q5
namespace Go.Bm.Q5
open Go Go.Am Go.Bm
theorem aeN {x:Bool} {g:Nat} {args args':List Value} {H:BH} {K:Value→BH→Prop} (ha:kW H args args')
  (h:aF false g args' [] fun v _=>Am.plain v=true∧K v H):aF x g args H K:=by
 intro ρ Z as HA h1 h2
 have hzx: ∀b bk,Z b=some bk→Zo ρ Z H HA b=some bk:=fun b bk hb=>by simp only [Zo,hb]
 have hR0:Rel (fun _=>none) (Zo ρ Z H HA) [] HA:=by
  refine ⟨fun i cs h=>by simp [blk] at h,fun i j cs cs' b h=>by simp [blk] at h,fun i cs b h=>by simp [blk] at h,fun b bk hb=>?_,fun _ _=>rfl⟩
  cases hz:Z b with
  |some zf=>
   rw [hzx b zf hz] at hb;cases hb
   exact h2.fH b bk hz
  |none=>
   simp only [Zo,hz] at hb
   split at hb
   ·rename_i hex
    obtain ⟨i,cs,e1,e2⟩:=hex
    exact ⟨h2.lt e1 e2,hb⟩
   ·cases hb
 obtain ⟨v',HA',h3,_,bG,Z1,v,H1,h4,h5,_,_,h6,h8⟩:=h _ _ as HA (ha.vl h2 h1) hR0
 have hkeep: ∀b,b<HA.n→HA'.get b=HA.get b:=fun b hb=>h6.keep b hb fun i cs h=>by simp [blk] at h
 obtain ⟨Zf,oI⟩: ∃Zf:Nat→Option Blk,Zf=fun b=>if b<HA.n then Z b else Z1 b:=⟨_,rfl⟩
 have tC: ∀b bk,Z b=some bk→Zf b=some bk:=fun b bk hb=>by
  have:=(h2.fH b bk hb).1
  rw [oI]
  simp only
  rw [if_pos this]
  exact hb
 have hfro: ∀b bk,Zf b=some bk→b<HA'.n∧HA'.get b=some bk:=fun b bk hb=>by
  rw [oI] at hb
  simp only at hb
  split at hb
  ·rename_i hlt
   have:=(h2.fH b bk hb).2
   exact ⟨Nat.lt_of_lt_of_le hlt h6.n,by rw [hkeep b hlt];exact this⟩
  ·exact h5.fH b bk hb
 have hzn: ∀b bk,Zf b=some bk→Z b=some bk∨HA.n≤b:=fun b bk hb=>by
  rw [oI] at hb
  simp only at hb
  split at hb
  ·exact .inl hb
  ·exact .inr (by omega)
 obtain ⟨hp,hK⟩:=h8
 have hv:VR ρ Zf v v':=by
  have:=h4.rO hp
  rw [this]
  exact .z (.plain hp)
 refine ⟨_,HA',h3,fun _=>⟨h6.n,hkeep⟩,ρ,Zf,_,H,hv,⟨fun i cs hc=>?_,h2.inj,fun i cs b hc hb=>?_,hfro,h2.top⟩,Nat.le_refl _,fun _ _=>rfl,⟨h6.n,fun b hb _=>hkeep b hb,fun i cs b hc hb=> .inr ⟨i,cs,hc,hb⟩,tC,fun b bk hb=>(hzn b bk hb).imp_right .inl⟩,hK⟩
 ·obtain ⟨b,bk,k1,k2,k3,k4,k5⟩:=h2.bH i cs hc
  exact ⟨b,bk,k1,Nat.lt_of_lt_of_le k2 h6.n,by rw [hkeep b k2];exact k3,k4,k5.mono (fun _ _ h=>h) tC⟩
 ·rw [oI]
  simp only
  rw [if_pos (h2.lt hc hb)]
  exact h2.eF i cs b hc hb
end Go.Bm.Q5
namespace Go.Bm.Q5
open Go Go.Am Go.Bm
def gQ (ps:List P3):Nat→List Nat
 |0=>[]
 |i+1=>gQ ps i++if i=0∨ps.getD i default≠ps.getD (i-1) default then [i] else []
theorem D5 {ps:List P3}: ∀{i x:Nat},x∈gQ ps i→x<i
 |0,x,h=>by simp [gQ] at h
 |i+1,x,h=>by
  rcases List.mem_append.1 h with h|h
  ·have:=D5 h;omega
  ·split at h
   ·rw [List.mem_singleton.1 h];omega
   ·cases h
theorem IG {ps:List P3}: ∀i,(gQ ps i).Pairwise (· < ·)
 |0=> .nil
 |i+1=>by
  refine List.pairwise_append.2 ⟨IG i,by split<;>simp,fun a ha c hc=>?_⟩
  have:=D5 ha
  split at hc
  ·rw [List.mem_singleton.1 hc];exact this
  ·cases hc
theorem aeO {ps:List P3} {i:Nat}:(gQ ps i).Nodup:=(IG i).imp fun h=>by omega
theorem II {ps:List P3} {i:Nat} (h:i=0∨ps.getD i default≠ps.getD (i-1) default):gQ ps (i+1)=gQ ps i++[i]:=by rw [gQ,if_pos h]
theorem D6 {ps:List P3} {i:Nat} (h0:i≠0) (h:ps.getD i default=ps.getD (i-1) default):gQ ps (i+1)=gQ ps i:=by rw [gQ,if_neg (by rintro (e|e);exact h0 e;exact e h),List.append_nil]
section
variable {x:Bool} {H:BH} {K:Value→BH→Prop} {p q:P3} {b:Nat} {ks:List Nat} {ps:List P3}
theorem aeP (hp: ∀r∈aP p,r.length<1000000) (hq: ∀r∈aP q,r.length<1000000) (hK:K (.bool (decide (p=q))) H):
  aF x uP [dw p,dw q] H K:=by
 refine bK (.cons .fz (.cons .fz .nil)) ?_
 refine aG YD ?_;simp only [qN,aB]
 refine aC ?_
 refine eP fun Kr hKr=>?_
 refine Vh hp hq ?_
 have e:decide (p=q)=decide (iU p q=0):=decide_eq_decide.2 IJ.symm
 rw [e] at hK
 refine aS ?_
 refine aO hKr ?_
 refine aV ?_
 exact ⟨.bool,hK⟩
theorem Vj (h:R3 H b ks (ps.map dS)) {j:Nat} (hj:j<ps.length) {us us':List Value} (ha:kW H us us'):kW H ((heads ks).getD j undef::us) (dw (ps.getD j default)::us'):=by
 have hl:ks.length=ps.length:=by simpa using h.len
 have hjk:j<ks.length:=by omega
 have e1:ks[j]? =some (ks.getD j 0):=by rw [List.getD_eq_getElem?_getD,List.getElem?_eq_getElem hjk];rfl
 have e2:ps[j]? =some (ps.getD j default):=by rw [List.getD_eq_getElem?_getD,List.getElem?_eq_getElem hj];rfl
 obtain ⟨_,g1,g2⟩:=h.row j _ (dS (ps.getD j default)) e1 (by rw [List.getElem?_map,e2];rfl)
 have:=kW.GH g1 g2 ha
 rw [Iy,wM] at this
 rw [zN hjk]
 exact this
theorem Vk (h:R3 H b ks (ps.map dS)) (hrow: ∀p∈ps,∀r∈aP p,r.length<1000000) {i j:Nat} (hi:i<ps.length) (hj:j<ps.length) (hK:K (.bool (decide (ps.getD i default=ps.getD j default))) H):
  aF x uP [(heads ks).getD i undef,(heads ks).getD j undef] H K:=
 aeN (Vj h hi (Vj h hj .nil)) (aeP (hrow _ (nJ hi)) (hrow _ (nJ hj)) ⟨rfl,hK⟩)
end
section
variable {H:BH} {K:Value→BH→Prop} {b:Nat} {ks:List Nat} {ps:List P3}
theorem D7 {j:Nat} {vs:List Value} (h:vs[j]? =some ((heads ks).getD j undef)):getN none vs j=some ((heads ks).getD j undef):=h
theorem aeQ {ks:List Nat} {m:Nat} (h:m=ks.length):(List.range m).map (fun i=>ks.getD i 0)=ks:=by rw [h];exact map_range
theorem set_self {H:BH} {b:Nat} {cs:List Value} (h:blk H b=some cs):H.set b (some cs)=H:=by
 have hb:=oC h
 have he:H[b]? =some (some cs):=by
  unfold blk at h
  cases e:H[b]? with
  |none=>rw [e] at h;cases h
  |some c=>rw [e] at h;simp at h;rw [h]
 apply List.ext_getElem?
 intro i
 rw [List.getElem?_set]
 split
 ·rename_i e
  rw [←e,he]
 ·rfl
theorem aeR {d t:Option Nat} {r:List AOper} {K:Fr→BH→Prop} {f:Fr} {H:BH} {z:Value} {y:Opd}:opsT d (⟨t, .kR z y,none⟩::r) K f H=(gX d=false∧fO (wI z (ev f y) H) (iE d t r K f)):=by
 rw [wo rfl];rfl
structure uy (H:BH) (b:Nat) (ks:List Nat) (ps:List P3) (c:Nat) (vs:List Value) (kk:Nat):Prop where
 len:vs.length=ps.length
 old: ∀j,c-1≤j→j<ps.length→vs[j]? =some ((heads ks).getD j undef)
 num:kk=(gQ ps c).length
 top:kk<c
 kept:vs.take kk=heads ((gQ ps c).map fun i=>ks.getD i 0)
theorem uy.next {c kk:Nat} {vs:List Value} (h:uy H b ks ps c vs kk) (hlk:ks.length=ps.length) (hc:1≤c) (hcp:c<ps.length) (hne:ps.getD c default≠ps.getD (c-1) default):uy H b ks ps (c+1) (splice vs kk [(heads ks).getD c undef]) (kk+1):=by
 have hk:=h.top
 have hl:=h.len
 have hdd:=II (ps:=ps) (i:=c) (.inr hne)
 have hsl:(splice vs kk [(heads ks).getD c undef]).length=vs.length:=by
  simp [splice]
  omega
 refine ⟨by rw [hsl,hl],fun j h1 h2=>?_,by rw [hdd,List.length_append,←h.num];rfl,by omega,?_⟩
 ·have:=h.old j (by omega) h2
  rw [←this]
  simp only [splice]
  rw [List.getElem?_append_right (by simp;omega)]
  simp only [List.length_append,List.length_take,List.length_singleton,Nat.min_eq_left (show kk≤vs.length by omega)]
  rw [List.getElem?_drop]
  congr 1
  omega
 ·have e1:(splice vs kk [(heads ks).getD c undef]).take (kk+1)=vs.take kk++[(heads ks).getD c undef]:=by
   simp only [splice]
   rw [List.take_append_of_le_length (by simp;omega),List.take_of_length_le (by simp;omega)]
  rw [e1,h.kept,hdd,List.map_append,zN (by omega)]
  simp [heads]
theorem uy.skip {c kk:Nat} {vs:List Value} (h:uy H b ks ps c vs kk) (hc:1≤c) (he:ps.getD c default=ps.getD (c-1) default):uy H b ks ps (c+1) vs kk:=by
 have hk:=h.top
 have hdd:=D6 (ps:=ps) (i:=c) (by omega) he
 exact ⟨h.len,fun j h1 h2=>h.old j (by omega) h2,by rw [hdd];exact h.num,by omega,by rw [hdd];exact h.kept⟩
theorem aeS {Q:Ex→Fr→BH→Prop} {f:Fr} {k:Nat} (ho:O3 H b ks ps) (hl:ps.length≤1000000) (hrow: ∀p∈ps,∀r∈aP p,r.length<1000000) (hk1:1≤k) (hkl:k<ps.length) (hkr:gQ ps k=List.range k) (hkd:ps.getD k default=ps.getD (k-1) default)
  (g0:f 0=S b 0 ps.length 1) (g1:f 1= .func (.func uP) #[] #[]) (g5:f 5=I k) (g6:f 6=S b k (ps.length-k) 1) (g7:f 7=I 1)
  (hret: ∀f' H' z,blk H' b=some (heads ((gQ ps ps.length).map fun i=>ks.getD i 0)++List.replicate z (.slice none 0 0))→(∀x c,x≠b→blk H x=some c→blk H' x=some c)→f' 4=S b 0 (gQ ps ps.length).length 1→Q .ret f' H'):
  T H.length (.seq (.block 2 (.loop cO.l0)) (.seq (.seq cO.iq (.seq cO.kC .ret)) cO.r5)) Q f H:=by
 have hlk:=ho.len
 have hbl:=oC ho.out
 have hbb: ∀c,blk (H.set b c) b=c:=fun c=>by rw [kM hbl,if_pos rfl]
 have hset: ∀c c',(H.set b c).set b c'=H.set b c':=fun c c'=>by simp
 refine aW (fun m f H'=> ∃k2 kk vs,1≤k2∧k2≤ps.length-k∧m=ps.length-k-k2∧uy H b ks ps (k+k2) vs kk∧f 0=S b 0 ps.length 1∧f 1= .func (.func uP) #[] #[]∧f 5=I kk∧f 6=S b k (ps.length-k) 1∧f 7=I k2∧H'=H.set b (some vs)) (ps.length-k-1) ?_ ?_
 ·refine ⟨_,_,Gh.refl,1,k,heads ks,by omega,by omega,rfl,⟨by rw [su,hlk],fun j _ hj=>?_,?_,by omega,?_⟩,g0,g1,g5,g6,g7,?_⟩
  ·rw [List.getD_eq_getElem?_getD,List.getElem?_eq_getElem (by rw [su];omega)]
   rfl
  ·rw [D6 (by omega) hkd,hkr,List.length_range]
  ·rw [D6 (by omega) hkd,hkr,heads,←List.map_take]
   congr 1
   apply List.ext_getElem (by simp;omega)
   intro i h1 h2
   simp at h1
   simp [List.getD,show i<ks.length by omega]
  ·exact (set_self ho.out).symm
 ·clear g0 g1 g5 g6 g7
  rintro m f M R ⟨k2,kk,vs,h1,h2,rfl,hq,g0,g1,g5,g6,g7,rfl⟩ hN hX hR hE
  simp only [cO.l0,aB]
  refine aA (aH @g6 @g7) ?_
  refine bI (k2<ps.length-k) (fun hc=>?_) fun hc=>?_
  ·have hil:k2<ps.length-k:=by assumption
   have ga:=D7 (hq.old (k+k2) (by omega) (by omega))
   have gb:=D7 (hq.old (k+k2-1) (by omega) (by omega))
   have gb':getN none vs (k+((k2:Int)-1).toNat)=some ((heads ks).getD (k+k2-1) undef):=by
    rw [show k+((k2:Int)-1).toNat=k+k2-1 by omega]
    exact gb
   have h3:R3 (H.set b (some vs)) b ks (ps.map dS):=ho.r3.keep fun x c hx h=>by rw [kM hbl,if_neg hx];exact h
   refine dD ?_
   refine dF (nN (dh @g1 @g6 @g7 @hbb) @ga @gb' @uX @uV @uY) fun Kr hKr=>?_
   refine Vk h3 hrow (i:=k+k2) (j:=k+k2-1) (by omega) (by omega) ?_
   refine aS ?_
   refine aO hKr ?_
   by_cases he:ps.getD (k+k2) default=ps.getD (k+k2-1) default
   ·refine o9 @he ?_
    refine bM @g7 ?_
    exact hN (ps.length-k-(k2+1)) _ _ _ _ (by omega) Gh.refl ⟨k2+1,kk,vs,by omega,by omega,rfl,hq.skip (by omega) he,ah,ah,ah,ah,ah,rfl⟩
   ·have htop:=hq.top
    have hvl:=hq.len
    have hst:dV (some vs) (H.set b (some vs)) b kk 1 ((heads ks).getD (k+k2) undef)=some (undef,H.set b (some (splice vs kk [(heads ks).getD (k+k2) undef]))):=by
     rw [zN (by omega),H7 rfl rfl rfl (by omega),hset]
    refine vV @he ?_
    refine aA (dh (dh @g0 @g5 @g6 @g7) @hbb @ga @hst) ?_
    refine aA @g5 ?_
    refine bM @g7 ?_
    exact hN (ps.length-k-(k2+1)) _ _ _ _ (by omega) Gh.refl ⟨k2+1,kk+1,_,by omega,by omega,rfl,hq.next hlk (by omega) (by omega) he,ah,ah,ah,ah,ah,rfl⟩
  ·refine hX _ _ ?_
   refine jQ ?_
   have hkl2:k+k2=ps.length:=by omega
   rw [hkl2] at hq
   have htop:=hq.top
   have hvl:=hq.len
   have hn:=hq.num
   have hcl:wI (.slice none 0 0) (S b kk (ps.length-kk) 1) (H.set b (some vs))=some (.tuple ⟨[]⟩,H.set b (some (splice vs kk (List.replicate (ps.length-kk) (.slice none 0 0))))):=by
    simp only [wI]
    rw [if_neg (by omega),hbb]
    simp only
    rw [if_pos ⟨trivial,by omega,rfl,rfl,rfl⟩,hset]
   have hsp:splice vs kk (List.replicate (ps.length-kk) (.slice none 0 0))=heads ((gQ ps ps.length).map fun i=>ks.getD i 0)++List.replicate (ps.length-kk) (.slice none 0 0):=by
    simp only [splice,List.length_replicate]
    rw [hq.kept,List.drop_eq_nil_of_le (by omega),List.append_nil]
   rw [hsp] at hcl
   have hs1:mP 1 (S b 0 ps.length 1) (some (I kk)) none=some (S b kk (ps.length-kk) 1):=by
    rw [HY (l:=kk) (h:=ps.length) (wE (by omega))]
    simp
   have hs2:mP 1 (S b 0 ps.length 1) none (some (I kk))=some (S b 0 kk 1):=by
    rw [HY (l:=0) (h:=kk) (zC (by omega))]
    simp
   refine aA (iy @g0 @g5 @aeR @hs1 @hcl) ?_
   refine aA (bP @g0 @g5 @hs2) ?_
   refine hret _ _ (ps.length-kk) (by rw [hbb]) (fun x c hx h=>by rw [kM hbl,if_neg hx];exact h) ?_
   rw [←hn]
   exact ah
theorem aeT (ho:O3 H b ks ps) (hl:ps.length≤1000000) (hrow: ∀p∈ps,∀r∈aP p,r.length<1000000)
  (hK: ∀H' z,blk H' b=some (heads ((gQ ps ps.length).map fun i=>ks.getD i 0)++List.replicate z (.slice none 0 0))→(∀x c,x≠b→blk H x=some c→blk H' x=some c)→K (S b 0 (gQ ps ps.length).length 1) H'):
  aF false Xq [S b 0 ps.length 1, .func (.func uP) #[] #[]] H K:=by
 have hlk:=ho.len
 have hbl:=oC ho.out
 have hall:gQ ps ps.length=List.range ps.length→K (S b 0 ps.length 1) H:=fun h=>by
  have:=hK H 0 (by rw [h,aeQ hlk.symm,ho.out];simp) fun _ _ _ h=>h
  rw [h,List.length_range] at this
  exact this
 refine aG YC ?_;simp only [cO,aB]
 refine aC ?_
 refine aC ?_
 by_cases h2:ps.length<2
 ·refine vV @h2 ?_
  refine aC ?_
  refine aV ?_
  refine hall ?_
  rcases hps:ps.length with _| _|m
  ·rfl
  ·rfl
  ·omega
 ·refine o9 @h2 ?_
  refine aC ?_
  refine aW (fun m f H'=> ∃k,1≤k∧k≤ps.length∧m=ps.length-k∧gQ ps k=List.range k∧f 0=S b 0 ps.length 1∧f 1= .func (.func uP) #[] #[]∧f 5=I k∧H'=H) (ps.length-1) ?_ ?_
  ·exact ⟨_,_,Gh.refl,1,by omega,by omega,rfl,rfl,ah,ah,ah,rfl⟩
  ·rintro m f M R ⟨k,hk1,hk2,rfl,hkr,g0,g1,g5,rfl⟩ hN hX hR hE
   simp only [cO.l1,aB]
   refine aA (aH @g0 @g5) ?_
   refine bI (k<ps.length) (fun hc=>?_) fun hc=>?_
   ·have hkl:k<ps.length:=by assumption
    have hgt: ∀j,j<ps.length→(heads ks)[j]? =some ((heads ks).getD j undef):=fun j hj=>by
     rw [List.getD_eq_getElem?_getD,List.getElem?_eq_getElem (by rw [su];omega)]
     rfl
    have ga:=D7 (hgt k hkl)
    have gb:=D7 (hgt (k-1) (by omega))
    have gb':getN none (heads ks) ((k:Int)-1).toNat=some ((heads ks).getD (k-1) undef):=by
     rw [show ((k:Int)-1).toNat=k-1 by omega]
     exact gb
    have hbb:=ho.out
    refine dD ?_
    refine dF (nN (dh @g0 @g1 @g5 @hbb) @ga @gb' @uX @uV @uY) fun Kr hKr=>?_
    refine Vk ho.r3 hrow (i:=k) (j:=k-1) (by omega) (by omega) ?_
    refine aS ?_
    refine aO hKr ?_
    by_cases he:ps.getD k default=ps.getD (k-1) default
    ·have hs1:mP 1 (S b 0 ps.length 1) (some (I k)) none=some (S b k (ps.length-k) 1):=by
      rw [HY (l:=k) (h:=ps.length) (wE (by omega))]
      simp
     refine vV @he ?_
     refine aA (bP @g0 @g5 @hs1) ?_
     refine aC ?_
     refine aeS ho hl hrow hk1 hkl hkr he ah ah ah ah ah fun f' H' z e1 e2 e3=>?_
     refine hR _ _ ?_
     refine mJ @e3 ?_
     exact hK _ z e1 e2
    ·refine o9 @he ?_
     refine bM @g5 ?_
     have aeU:gQ ps (k+1)=List.range (k+1):=by rw [II (.inr he),hkr,List.range_succ]
     exact hN (ps.length-(k+1)) _ _ _ _ (by omega) Gh.refl ⟨k+1,by omega,by omega,rfl,aeU,ah,ah,ah,rfl⟩
   ·refine hX _ _ ?_
    obtain rfl:k=ps.length:=by omega
    refine aA @g0 ?_
    refine aV ?_
    exact hall hkr
end
end Go.Bm.Q5
namespace Go.Bm
open Go Go.Am
instance ag3 {p q:P3}:Decidable (dM p q):=by unfold dM;infer_instance
theorem aeV {x y:P3} (h:dM x y): ¬dM y x:=fun k=>wO x (zO h k)
def jv (d:P3):List P3→List P3
 |[]=>[d]
 |e::l=>if dM e d then e::jv d l else if dM d e then d::e::l else e::l
def jC (s:List P3):List P3:=s.foldl (fun l d=>jv d l) []
theorem IK {d x:P3}: ∀{l:List P3},x∈jv d l↔x=d∨x∈l
 |[]=>by simp [jv]
 |e::l=>by
  simp only [jv]
  split
  ·rw [List.mem_cons,IK (l:=l),List.mem_cons]
   constructor
   ·rintro (h|h|h)
    ·exact .inr (.inl h)
    ·exact .inl h
    ·exact .inr (.inr h)
   ·rintro (h|h|h)
    ·exact .inr (.inl h)
    ·exact .inl h
    ·exact .inr (.inr h)
  ·rename_i h1
   split
   ·simp
   ·rename_i h2
    have:=zQ h2 h1
    subst this
    simp
theorem Vl {d:P3}: ∀{l:List P3},l.Pairwise dM→(jv d l).Pairwise dM
 |[],_=>by simp [jv]
 |e::l,h=>by
  obtain ⟨h1,h2⟩:=List.pairwise_cons.1 h
  simp only [jv]
  split
  ·rename_i hl
   refine List.pairwise_cons.2 ⟨fun x hx=>?_,Vl h2⟩
   rcases IK.1 hx with rfl|hx
   ·exact hl
   ·exact h1 x hx
  ·split
   ·rename_i hl
    refine List.pairwise_cons.2 ⟨fun x hx=>?_,h⟩
    rcases List.mem_cons.1 hx with rfl|hx
    ·exact hl
    ·exact zO hl (h1 x hx)
   ·exact h
theorem Vm {x:P3}: ∀{s l:List P3},x∈s.foldl (fun l d=>jv d l) l↔x∈s∨x∈l
 |[],l=>by simp
 |d::s,l=>by
  rw [List.foldl_cons,Vm,IK,List.mem_cons]
  constructor
  ·rintro (h|h|h)
   ·exact .inl (.inr h)
   ·exact .inl (.inl h)
   ·exact .inr h
  ·rintro ((h|h)|h)
   ·exact .inr (.inl h)
   ·exact .inl h
   ·exact .inr (.inr h)
theorem Vo: ∀{s l:List P3},l.Pairwise dM→(s.foldl (fun l d=>jv d l) l).Pairwise dM
 |[],l,h=>h
 |d::s,l,h=>Vo (s:=s) (Vl h)
theorem zL {x:P3} {s:List P3}:x∈jC s↔x∈s:=by rw [jC,Vm];simp
theorem D8 {s:List P3}:(jC s).Pairwise dM:=Vo .nil
theorem IL: ∀{l k:List P3},l.Pairwise dM→k.Pairwise dM→(∀x,x∈l↔x∈k)→l=k
 |[],[],_,_,_=>rfl
 |[],y::k,_,_,h=>by have:=(h y).2 (by simp);cases this
 |x::l,[],_,_,h=>by have:=(h x).1 (by simp);cases this
 |x::l,y::k,h1,h2,h=>by
  obtain ⟨a1,a2⟩:=List.pairwise_cons.1 h1
  obtain ⟨c1,c2⟩:=List.pairwise_cons.1 h2
  have e:x=y:=by
   rcases List.mem_cons.1 ((h x).1 (by simp)) with e|hx
   ·exact e
   ·rcases List.mem_cons.1 ((h y).2 (by simp)) with e|hy
    ·exact e.symm
    ·exact absurd (c1 x hx) (aeV (a1 y hy))
  subst e
  rw [IL a2 c2 fun z=>?_]
  have hz:=h z
  rw [List.mem_cons,List.mem_cons] at hz
  constructor
  ·intro hl
   rcases hz.1 (.inr hl) with rfl|hk
   ·exact absurd (a1 _ hl) (wO _)
   ·exact hk
  ·intro hk
   rcases hz.2 (.inr hk) with rfl|hl
   ·exact absurd (c1 _ hk) (wO _)
   ·exact hl
theorem aeW {s t:List P3} (h: ∀x,x∈s↔x∈t):jC s=jC t:=IL D8 D8 fun x=>by rw [zL,zL];exact h x
theorem Vp {d:P3}: ∀{l:List P3},(jv d l).length≤l.length+1
 |[]=>by simp [jv]
 |e::l=>by
  simp only [jv]
  split
  ·simp only [List.length_cons]
   have:=Vp (d:=d) (l:=l)
   omega
  ·split<;>simp
theorem U5 {s:List P3}:(jC s).length≤s.length:=by
 have key: ∀(s l:List P3),(s.foldl (fun l d=>jv d l) l).length≤s.length+l.length:=by
  intro s
  induction s with
  |nil=>intro l;simp
  |cons d s ih=>
   intro l
   have h1:=ih (jv d l)
   have h2:=Vp (d:=d) (l:=l)
   rw [List.foldl_cons,List.length_cons]
   omega
 simpa [jC] using key s []
theorem Vq {ps:List P3} {x:P3}: ∀{i:Nat},i≤ps.length→(x∈(Q5.gQ ps i).map (fun i=>ps.getD i default)↔x∈ps.take i)
 |0,_=>by simp [Q5.gQ]
 |i+1,hi=>by
  have ih:=Vq (ps:=ps) (x:=x) (i:=i) (by omega)
  have e4:ps.take (i+1)=ps.take i++[ps.getD i default]:=by
   rw [List.take_add_one]
   simp [List.getD,show i<ps.length by omega]
  rw [e4,List.mem_append,List.mem_singleton,←ih]
  by_cases h:i=0∨ps.getD i default≠ps.getD (i-1) default
  ·rw [Q5.II h,List.map_append,List.mem_append]
   simp
  ·have h0:i≠0:=fun e=>h (.inl e)
   have he:ps.getD i default=ps.getD (i-1) default:=Decidable.byContradiction fun e=>h (.inr e)
   rw [Q5.D6 h0 he]
   constructor
   ·exact .inl
   ·rintro (h1|h1)
    ·exact h1
    ·rw [ih,h1,he,List.getD_eq_getElem?_getD,List.getElem?_eq_getElem (by omega)]
     refine List.mem_iff_getElem?.2 ⟨i-1,?_⟩
     rw [List.getElem?_take,if_pos (by omega),List.getElem?_eq_getElem (by omega)]
     rfl
theorem Vr {ps:List P3} {c:Nat}: ∀{i:Nat},c∈Q5.gQ ps i→c=0∨ps.getD c default≠ps.getD (c-1) default
 |0,h=>by simp [Q5.gQ] at h
 |i+1,h=>by
  rcases List.mem_append.1 h with h|h
  ·exact Vr h
  ·split at h
   ·rename_i hn
    rw [List.mem_singleton.1 h]
    exact hn
   ·cases h
theorem aeX {ps:List P3} (hs:ps.Pairwise fun p q=> ¬dM q p):(Q5.gQ ps ps.length).map (fun i=>ps.getD i default)=jC ps:=by
 have hle: ∀i j,i≤j→j<ps.length→ ¬dM (ps.getD j default) (ps.getD i default):=fun i j hij hj=>by
  rcases Nat.eq_or_lt_of_le hij with e|hlt
  ·rw [e];exact wO _
  ·have:=List.pairwise_iff_getElem.1 hs i j (by omega) hj hlt
   rw [List.getD_eq_getElem?_getD,List.getElem?_eq_getElem hj,List.getD_eq_getElem?_getD,List.getElem?_eq_getElem (show i<ps.length by omega)]
   exact this
 refine IL ?_ D8 fun x=>by rw [Vq (Nat.le_refl _),List.take_length,zL]
 rw [List.pairwise_map]
 refine (Q5.IG _).imp_of_mem fun {a c} ha hc hac=>?_
 have hcl:=Q5.D5 hc
 rcases Vr hc with e|hne
 ·omega
 ·have h1:=hle a (c-1) (by omega) (by omega)
  have h2:=hle (c-1) c (by omega) hcl
  have h3:dM (ps.getD (c-1) default) (ps.getD c default):=Classical.byContradiction fun h=>hne (zQ h2 h)
  by_cases h4:dM (ps.getD a default) (ps.getD (c-1) default)
  ·exact zO h4 h3
  ·rw [zQ h4 h1];exact h3
end Go.Bm
namespace Go.Bm.Q5
open Go Go.Am Go.Bm
def nU (n:Nat) (g:Int):List P3:=jC (iC n g (gI (allL n)))
theorem IQ {n:Nat}: ∀d∈gI (allL n),By 16 d.1∧By 16 d.2:=fun d hd=>IU _ d (qZ.1 hd)
theorem IV {n:Nat}: ∀d∈gI (allL n),aX n d.1 d.2:=fun d hd=>Vs _ d (qZ.1 hd)
theorem IW {n:Nat} {d:L2} (hd:aX n d.1 d.2): ∀r∈aP (pF n d),r.length<1000000:=fun r hr=>by
 have t0:=qx hd.1
 have t1:=qx hd.2.1
 have t2:=qx (qA hd.1 hd.2.1)
 simp only [aP,pF,List.mem_cons,List.not_mem_nil,or_false] at hr
 rcases hr with rfl|rfl|rfl<;>omega
theorem DX {n:Nat} {g:Int}: ∀p∈iC n g (gI (allL n)),∀r∈aP p,r.length<1000000:=fun p hp=>by
 obtain ⟨d,hd,rfl⟩:=List.mem_map.1 hp
 exact IW (IV d (List.mem_filter.1 hd).1)
theorem U1 {n:Nat} {g:Int} {K:Value→BH→Prop} (h1:1≤n) (h5:n≤5) (hg:0≤g)
  (hK: ∀H' b ks z,R3 H' b ks ((nU n g).map dS)→blk H' b=some (heads ks++List.replicate z (.slice none 0 0))→K (.tuple ⟨[S b 0 (nU n g).length 1,I 0]⟩) H'):
  aF false EK [I n,I g] [] K:=by
 have hL:=Iw h1 h5
 have hpl:=DW (n:=n) (g:=g) (i:=(gI (allL n)).length) (L:=gI (allL n))
 rw [List.take_length] at hpl
 have q1: ¬(n:Int)<1:=by omega
 have q2: ¬(5:Int)<n:=by omega
 have q3: ¬g<0:=by omega
 have hr0:repl ([.slice none 0 0]:List Value) 0=[]:=rfl
 refine aG KL ?_;simp only [fK,aB]
 refine aC ?_
 refine aA (bP @q1 @q2 @q3) ?_
 refine bV ?_
 refine aA @hr0 ?_
 refine eP fun Kr hKr=>?_
 refine oz (.cons .int .nil) LP (uz IQ).symm (aeY h1 h5) ?_
 refine aS ?_
 refine aO hKr ?_
 refine aeZ (g:=g) hL ⟨h1,h5⟩ IQ IV ah ah ah ah ah fun f M bo ks ho g6=>?_
 refine dF @g6 fun Kr hKr=>?_
 refine ae0 ho (by omega) DX fun H' ks' ps' ho' hpm hs=>?_
 refine aS ?_
 refine aO hKr ?_
 refine dF (aH @g6 @hpm.length_eq.symm) fun Kr hKr=>?_
 refine aeT ho' (by rw [hpm.length_eq];omega) (fun p hp=>DX p (hpm.mem_iff.1 hp)) fun H2 z e1 e2=>?_
 refine aS ?_
 refine aO hKr ?_
 have hdd:=aeX hs
 have hex:jC ps'=nU n g:=aeW fun x=>hpm.mem_iff
 rw [hex] at hdd
 have hlen:(gQ ps' ps'.length).length=(nU n g).length:=by rw [←hdd,List.length_map]
 have hσ: ∀i∈gQ ps' ps'.length,i<ps'.length:=fun i hi=>D5 hi
 have h3:=(ho'.r3.keep e2).sel (σ:=gQ ps' ps'.length) (fun i hi=>by rw [ho'.len];exact hσ i hi) aeO
 rw [Vt hσ,hdd] at h3
 refine aV ?_
 rw [hlen]
 exact hK _ _ _ z h3 e1
end Go.Bm.Q5
namespace Go.Bm
open Go Go.Am
structure PN (n:Nat) (p:List Nat):Prop where
 perm:Perm p n
 len:p.length=16
section
variable {n:Nat} {p q r t:List Nat}
theorem PN.n16 (h:PN n p):1≤n∧n≤16:=by have:=h.perm.1;omega
theorem PN.ext (hp:PN n p) (hq:PN n q) (h: ∀i,i<n→nl p i=nl q i):p=q:=by
 refine List.ext_getElem (by rw [hp.len,hq.len]) fun i h1 h2=>?_
 have e:nl p i=nl q i:=by
  by_cases hi:i<n
  ·exact h i hi
  ·rw [hp.perm.zero (by omega) (by have:=hp.len;omega),hq.perm.zero (by omega) (by have:=hp.len;omega)]
 simpa [nl,List.getD,h1,h2] using e
theorem PN.mul (hp:PN n p) (hq:PN n q):PN n (fU p q n):=⟨NC hp.perm hq.perm,tN⟩
theorem PN.one (hn:1≤n∧n≤16):PN n (gJ n):=⟨yY hn,rM⟩
theorem PN.inv (hp:PN n p):PN n (iZ p n):=⟨hp.perm.back,rV⟩
theorem wP (hp:PN n p) {i:Nat} (hi:i<n):nl (fU p q n) i=nl q (nl p i):=by
 rw [vP (by have:=hp.n16;omega),if_pos hi]
theorem sD (hn:n≤16) {i:Nat} (hi:i<n):nl (gJ n) i=i:=by rw [yX hn,if_pos hi]
theorem one_mul (hp:PN n p):fU (gJ n) p n=p:=
 ((PN.one hp.n16).mul hp).ext hp fun i hi=>by rw [wP (PN.one hp.n16) hi,sD hp.n16.2 hi]
theorem mul_one (hp:PN n p):fU p (gJ n) n=p:=
 (hp.mul (PN.one hp.n16)).ext hp fun i hi=>by rw [wP hp hi,sD hp.n16.2 (hp.perm.lt hi)]
def Fix (i:Nat) (p:List Nat):Prop:= ∀j,j<i→nl p j=j
theorem Fix.mul {i:Nat} (hi:i≤n) (hp:PN n p) (h1:Fix i p) (h2:Fix i q):Fix i (fU p q n):=fun j hj=>by
 rw [wP hp (by omega),h1 j hj,h2 j hj]
theorem Fix.inv {i:Nat} (hi:i≤n) (hp:PN n p) (h:Fix i p):Fix i (iZ p n):=fun j hj=>by
 have:=vY hp.perm (Nat.le_refl _) (show j<n by omega)
 rwa [h j hj] at this
theorem Fix.one {i:Nat} (hn:n≤16) (hi:i≤n):Fix i (gJ n):=fun j hj=>sD hn (by omega)
end
abbrev Tab:=Nat→Nat→Option (List Nat)
structure wQ (n:Nat) (T:Tab):Prop where
 n16:1≤n∧n≤16
 id: ∀i,i<n→T i i=some (gJ n)
 ok: ∀i k t,i<n→T i k=some t→k<n∧PN n t∧Fix i t∧nl t i=k
inductive iI (T:Tab) (n:Nat):Nat→List Nat→Prop
 |zero:iI T n 0 (gJ n)
 |succ {d k:Nat} {s t:List Nat}:d<n→iI T n d s→T (n-(d+1)) k=some t→iI T n (d+1) (fU s t n)
section
variable {n:Nat} {T T':Tab}
theorem iI.pn (h:wQ n T) {d:Nat} {s:List Nat} (hs:iI T n d s):PN n s∧Fix (n-d) s:=by
 induction hs with
 |zero=>exact ⟨.one h.n16, .one h.n16.2 (by omega)⟩
 |succ hd _ ht ih=>
  obtain ⟨h1,h2,h3,h4⟩:=h.ok _ _ _ (by omega) ht
  exact ⟨ih.1.mul h2,Fix.mul (by omega) ih.1 (fun j hj=>ih.2 j (by omega)) h3⟩
theorem iI.mono {d:Nat} {s:List Nat} (hT: ∀i k t,T i k=some t→T' i k=some t) (hs:iI T n d s):iI T' n d s:=by
 induction hs with
 |zero=>exact .zero
 |succ hd _ ht ih=>exact .succ hd ih (hT _ _ _ ht)
theorem iI.up1 (h:wQ n T) {d:Nat} {s:List Nat} (hs:iI T n d s) (hd:d<n):iI T n (d+1) s:=by
 have:=iI.succ hd hs (h.id (n-(d+1)) (by omega))
 rwa [mul_one (hs.pn h).1] at this
theorem iI.up (h:wQ n T) {d:Nat} {s:List Nat} (hs:iI T n d s): ∀e,d+e≤n→iI T n (d+e) s
 |0,_=>hs
 |e+1,he=>(iI.up h hs e (by omega)).up1 h (by omega)
theorem iI.one (h:wQ n T) {d:Nat} (hd:d≤n):iI T n d (gJ n):=by
 have:=iI.up h (T:=T) .zero d (by omega)
 rwa [Nat.zero_add] at this
theorem iI.entry (h:wQ n T) {i k:Nat} {t:List Nat} (hi:i<n) (ht:T i k=some t):iI T n (n-i) t:=by
 have h1:=iI.one h (d:=n-i-1) (by omega)
 have h2:=iI.succ (k:=k) (t:=t) (show n-i-1<n by omega) h1 (by rw [show n-(n-i-1+1)=i by omega];exact ht)
 rwa [one_mul (h.ok i k t hi ht).2.1,show n-i-1+1=n-i by omega] at h2
theorem iI.all (h:wQ n T) {d:Nat} {s:List Nat} (hs:iI T n d s) (hd:d≤n):iI T n n s:=by
 have:=hs.up h (n-d) (by omega)
 rwa [show d+(n-d)=n by omega] at this
end
theorem zS {α:Type} [DecidableEq α]: ∀{l1 l2:List α},l1.Nodup→(∀x∈l1,x∈l2)→l1.length≤l2.length
 |[],_,_,_=>Nat.zero_le _
 |a::r,l2,hn,hs=>by
  have ha:=hs a (by simp)
  have hn':=List.nodup_cons.1 hn
  have ih:=zS (l1:=r) (l2:=l2.erase a) hn'.2 fun x hx=>(List.mem_erase_of_ne (fun e=>hn'.1 (by rw [←e];exact hx))).2 (hs x (by simp [hx]))
  have hl:=List.length_erase_of_mem ha
  have hp:=List.length_pos_of_mem ha
  simp only [List.length_cons]
  omega
section
variable {n:Nat} {T:Tab}
end
inductive Gen (n:Nat) (b w:List Nat):List Nat→Prop
 |one:Gen n b w (gJ n)
 |b:Gen n b w b
 |w:Gen n b w w
 |mul {p q:List Nat}:Gen n b w p→Gen n b w q→Gen n b w (fU p q n)
 |inv {p:List Nat}:Gen n b w p→Gen n b w (iZ p n)
theorem Gen.pn {n:Nat} {b w g:List Nat} (hb:PN n b) (hw:PN n w) (h:Gen n b w g):PN n g:=by
 induction h with
 |one=>exact .one hb.n16
 |b=>exact hb
 |w=>exact hw
 |mul _ _ h1 h2=>exact h1.mul h2
 |inv _ h=>exact h.inv
def IX (n:Nat) (b w:List Nat) (N:Nat):Prop:= ∃L:List (List Nat),L.Nodup∧L.length=N∧ ∀g,g∈L↔Gen n b w g
theorem IX.uniq {n:Nat} {b w:List Nat} {N M:Nat} (h:IX n b w N) (k:IX n b w M):N=M:=by
 obtain ⟨L,h1,rfl,h2⟩:=h
 obtain ⟨L',k1,rfl,k2⟩:=k
 have a:=zS h1 fun x hx=>(k2 x).2 ((h2 x).1 hx)
 have b:=zS k1 fun x hx=>(h2 x).2 ((k2 x).1 hx)
 omega
end Go.Bm
namespace Go.Bm
open Go Go.Am
def dA (ts:List (List Nat)) (m:Nat) (x y:Nat):Prop:= ∀S:Nat→Prop,(∀t∈ts,∀z,z<m→(S z↔S (nl t z)))→(S x↔S y)
structure Cls (m:Nat) (R:Nat→Nat→Prop) (L:List Nat):Prop where
 lt: ∀x∈L,x<m
 pw:L.Pairwise fun x y=> ¬R x y
 rep: ∀x,x<m→ ∃y∈L,R x y
section
variable {ts:List (List Nat)} {m x y z:Nat}
theorem dA.refl:dA ts m x x:=fun _ _=>Iff.rfl
theorem dA.symm (h:dA ts m x y):dA ts m y x:=fun S hS=>(h S hS).symm
theorem dA.trans (h:dA ts m x y) (k:dA ts m y z):dA ts m x z:=fun S hS=>(h S hS).trans (k S hS)
theorem dA.step {t:List Nat} (ht:t∈ts) (hx:x<m):dA ts m x (nl t x):=fun S hS=>hS t ht x hx
end
theorem Cls.le {m m':Nat} {R R':Nat→Nat→Prop} {L L':List Nat} (h:Cls m R L) (h':Cls m' R' L') (f:Nat→Nat) (hf: ∀x,x<m→f x<m')
  (hs: ∀x y,R' x y→R' y x) (ht: ∀x y z,R' x y→R' y z→R' x z) (hr: ∀x,R x x) (hi: ∀x y,x<m→y<m→R' (f x) (f y)→R x y):L.length≤L'.length:=by
 classical
 have hch: ∀x,∃y,x<m→y∈L'∧R' (f x) y:=fun x=>by
  by_cases hx:x<m
  ·obtain ⟨y,h1,h2⟩:=h'.rep _ (hf x hx)
   exact ⟨y,fun _=>⟨h1,h2⟩⟩
  ·exact ⟨0,fun h=>absurd h hx⟩
 let g:=fun x=>(hch x).choose
 have hg: ∀x,x<m→g x∈L'∧R' (f x) (g x):=fun x=>(hch x).choose_spec
 have hnd:(L.map g).Nodup:=by
  refine List.pairwise_map.2 ?_
  refine List.Pairwise.imp_of_mem (fun {a b} ha hb hab e=>?_) h.pw
  have h1:=(hg a (h.lt a ha)).2
  have h2:=(hg b (h.lt b hb)).2
  rw [←e] at h2
  exact hab (hi a b (h.lt a ha) (h.lt b hb) (ht _ _ _ h1 (hs _ _ h2)))
 have:=zS hnd (l2:=L') fun y hy=>by
  obtain ⟨x,hx,rfl⟩:=List.mem_map.1 hy
  exact (hg x (h.lt x hx)).1
 simpa using this
theorem Cls.uniq {ts:List (List Nat)} {m:Nat} {L L':List Nat} (h:Cls m (dA ts m) L) (h':Cls m (dA ts m) L'):L.length=L'.length:=
 Nat.le_antisymm (h.le h' id (fun _ h=>h) (fun _ _=> .symm) (fun _ _ _=> .trans) (fun _=> .refl) fun _ _ _ _ h=>h)
  (h'.le h id (fun _ h=>h) (fun _ _=> .symm) (fun _ _ _=> .trans) (fun _=> .refl) fun _ _ _ _ h=>h)
theorem chain {g:Nat→Prop} {a:Nat}: ∀d,(∀j,a≤j→j<a+d→(g j↔g (j+1)))→(g a↔g (a+d))
 |0,_=>Iff.rfl
 |d+1,h=>(chain d fun j h1 h2=>h j h1 (by omega)).trans (h (a+d) (by omega) (by omega))
section
variable {p:List Nat} {n:Nat}
theorem IY (hp:Perm p n) {c:List Nat} (hc:c∈aQ p n) {x:Nat} (hx:x∈c):dA [p] n x (nl c 0):=by
 have hi:=lZ hp hc
 obtain ⟨j,hj,rfl⟩:=lY hx
 refine dA.symm fun S hS=>?_
 have:=chain (g:=fun k=>S (nl c k)) (a:=0) j fun k _ hk=>by
  have h1:=hS p (by simp) (nl c k) (hi.lt _ (dK (by omega)))
  rwa [hi.step k (by omega)] at h1
 rwa [Nat.zero_add] at this
theorem Vu (hp:Perm p n) {c:List Nat} (hc:c∈aQ p n): ∀t∈[p],∀z,z<n→(z∈c↔nl t z∈c):=fun t ht z hz=>by
 obtain rfl:=List.mem_singleton.1 ht
 exact ⟨(lZ hp hc).fwd,(lZ hp hc).bwd hp hz⟩
theorem IZ (hp:Perm p n):Cls n (dA [p] n) ((aQ p n).map fun c=>nl c 0):=by
 have hk:=oG.all (p:=p) (m:=16) rfl hp (Nat.le_refl n)
 refine ⟨fun x hx=>?_,?_,fun x hx=>?_⟩
 ·obtain ⟨c,hc,rfl⟩:=List.mem_map.1 hx
  exact (lZ hp hc).lt _ (dK (lZ hp hc).ne)
 ·refine List.pairwise_map.2 (List.Pairwise.imp_of_mem (fun {c c'} hc hc' hd ho=>?_) (List.pairwise_flatten.1 hk.fM).2)
  have h1:=(ho (· ∈c) (Vu hp hc)).1 (dK (lZ hp hc).ne)
  exact hd _ h1 _ (dK (lZ hp hc').ne) rfl
 ·obtain ⟨c,hc,hxc⟩:=vT hp hx
  exact ⟨_,List.mem_map.2 ⟨c,hc,rfl⟩,IY hp hc hxc⟩
theorem I4 (hp:Perm p n) {L:List Nat} (h:Cls n (dA [p] n) L):L.length=(aQ p n).length:=by
 rw [h.uniq (IZ hp),List.length_map]
end
def jd (x y v:Nat):Nat:=if v=x then y else if v=y then x else v
theorem ae1 {x y v:Nat}:jd x y (jd x y v)=v:=by
 simp only [jd]
 split
 ·rename_i h;subst h
  split
  ·rename_i h;exact h
  ·rw [if_pos rfl]
 ·rename_i h
  split
  ·rename_i h2;subst h2;rw [if_pos rfl]
  ·rfl
section
variable {q r:List Nat} {n x y:Nat}
theorem joined (hq:Perm q n) (hs: ∀z,z<n→nl r z=jd x y (nl q z)) (hx:x<n) (hy:y<n) (hne: ¬dA [q] n x y):dA [r] n x y:=by
 intro S hS
 have hS': ∀z,z<n→(S z↔S (nl r z)):=hS r (by simp)
 obtain ⟨c,hc,vX⟩:=vT hq hy
 have hi:=lZ hq hc
 have hxc:x∉c:=fun h=>hne ((IY hq hc h).trans (IY hq hc vX).symm)
 obtain ⟨j,hj,rfl⟩:=lY vX
 have hstep: ∀k,k+1<c.length→k+1≠j→(S (nl c k)↔S (nl c (k+1))):=fun k hk he=>by
  have h1:=hS' (nl c k) (hi.lt _ (dK (by omega)))
  rw [hs _ (hi.lt _ (dK (by omega))),hi.step k hk,jd,if_neg (show¬nl c (k+1)=x from fun e=>hxc (by rw [←e];exact dK hk)),if_neg (show¬nl c (k+1)=nl c j from fun e=>he (oD hi.fM hk hj e))] at h1
  exact h1
 have hback: ∀k,k<c.length→nl q (nl c k)=nl c j→(S (nl c k)↔S x):=fun k hk he=>by
  have h1:=hS' (nl c k) (hi.lt _ (dK hk))
  rw [hs _ (hi.lt _ (dK hk)),he,jd,if_neg (show¬nl c j=x from fun e=>hxc (by rw [←e];exact dK hj)),if_pos rfl] at h1
  exact h1
 have h1:=chain (g:=fun k=>S (nl c k)) (a:=j) (c.length-1-j) fun k h1 h2=>hstep k (by omega) (by omega)
 rw [show j+(c.length-1-j)=c.length-1 by omega] at h1
 by_cases hj0:j=0
 ·subst hj0
  exact ((h1.trans (hback _ (by omega) hi.last))).symm
 ·have h2:S (nl c (c.length-1))↔S (nl c 0):=by
   have h1:=hS' (nl c (c.length-1)) (hi.lt _ (dK (by omega)))
   rw [hs _ (hi.lt _ (dK (by omega))),hi.last,jd,if_neg (show¬nl c 0=x from fun e=>hxc (by rw [←e];exact dK (by omega))),if_neg (show¬nl c 0=nl c j from fun e=>hj0 (oD hi.fM (by omega) hj e).symm)] at h1
   exact h1
  have h3:=chain (g:=fun k=>S (nl c k)) (a:=0) (j-1) fun k h1 h2=>hstep k (by omega) (by omega)
  rw [Nat.zero_add] at h3
  have h4:=hback (j-1) (by omega) (by rw [hi.step _ (by omega),show j-1+1=j by omega])
  exact (h1.trans (h2.trans (h3.trans h4))).symm
theorem Vw (hq:Perm q n) (hr:Perm r n) (hs: ∀z,z<n→nl r z=jd x y (nl q z)) (hx:x<n) (hy:y<n) (hne: ¬dA [q] n x y):(aQ r n).length+1=(aQ q n).length:=by
 have hxy:=joined hq hs hx hy hne
 have hsub: ∀u v,dA [q] n u v→dA [r] n u v:=fun u v h S hS=>h S fun t ht z hz=>by
  obtain rfl:=List.mem_singleton.1 ht
  have h1:=hS r (by simp) z hz
  rw [hs z hz,jd] at h1
  have h2:=hxy S hS
  split at h1
  ·rename_i e;rw [e];exact h1.trans h2.symm
  ·split at h1
   ·rename_i e;rw [e];exact h1.trans h2
   ·exact h1
 have hsup: ∀u v,dA [r] n u v→dA [q] n u v∨((dA [q] n u x∨dA [q] n u y)∧(dA [q] n v x∨dA [q] n v y)):=fun u v h=>by
  refine (h (fun v=>dA [q] n u v∨((dA [q] n u x∨dA [q] n u y)∧(dA [q] n v x∨dA [q] n v y))) fun t ht z hz=>?_).1 (.inl .refl)
  obtain rfl:=List.mem_singleton.1 ht
  have hz1:dA [q] n z (nl q z):= .step (by simp) hz
  rw [hs z hz,jd]
  split
  ·rename_i e
   rw [e] at hz1
   exact ⟨fun h=>h.elim (fun h=> .inr ⟨.inl (h.trans hz1), .inr .refl⟩) fun h=> .inr ⟨h.1, .inr .refl⟩,
    fun h=>h.elim (fun h=> .inr ⟨.inr h, .inl hz1⟩) fun h=> .inr ⟨h.1, .inl hz1⟩⟩
  ·split
   ·rename_i e
    rw [e] at hz1
    exact ⟨fun h=>h.elim (fun h=> .inr ⟨.inr (h.trans hz1), .inl .refl⟩) fun h=> .inr ⟨h.1, .inl .refl⟩,
     fun h=>h.elim (fun h=> .inr ⟨.inl h, .inr hz1⟩) fun h=> .inr ⟨h.1, .inr hz1⟩⟩
   ·exact ⟨fun h=>h.elim (fun h=> .inl (h.trans hz1)) fun h=> .inr ⟨h.1,h.2.elim (fun a=> .inl (hz1.symm.trans a)) fun a=> .inr (hz1.symm.trans a)⟩,
     fun h=>h.elim (fun h=> .inl (h.trans hz1.symm)) fun h=> .inr ⟨h.1,h.2.elim (fun a=> .inl (hz1.trans a)) fun a=> .inr (hz1.trans a)⟩⟩
 have hL:=IZ hq
 generalize hLe:(aQ q n).map (fun c=>nl c 0)=L at hL
 have hlen:L.length=(aQ q n).length:=by rw [←hLe,List.length_map]
 have hnd:L.Nodup:=List.Pairwise.imp (fun {a b} h e=>h (by rw [e];exact .refl)) hL.pw
 have hinj: ∀u∈L,∀v∈L,dA [q] n u v→u=v:=fun u hu v hv h=>by
  obtain ⟨i,hi,rfl⟩:=List.mem_iff_getElem.1 hu
  obtain ⟨j,hj,rfl⟩:=List.mem_iff_getElem.1 hv
  have hp:=List.pairwise_iff_getElem.1 hL.pw
  rcases Nat.lt_trichotomy i j with h1|h1|h1
  ·exact absurd h (hp i j hi hj h1)
  ·subst h1;rfl
  ·exact absurd h.symm (hp j i hj hi h1)
 obtain ⟨rx,hrx,I5⟩:=hL.rep x hx
 obtain ⟨ry,I7,I8⟩:=hL.rep y hy
 have ae2:rx≠ry:=fun e=>hne (I5.trans (e▸I8.symm))
 have hJ: ∀u∈L,u≠ry→(dA [q] n u x∨dA [q] n u y)→u=rx:=fun u hu hn h=>by
  rcases h with h|h
  ·exact hinj u hu rx hrx (h.trans I5)
  ·exact absurd (hinj u hu ry I7 (h.trans I8)) hn
 have hcl:Cls n (dA [r] n) (L.erase ry):=by
  refine ⟨fun u hu=>hL.lt u (List.mem_of_mem_erase hu),?_,fun u hu=>?_⟩
  ·refine List.Pairwise.imp_of_mem (fun {a b} ha hb hab ho=>?_) (hnd.erase ry)
   have ha2:=List.mem_of_mem_erase ha
   have hb2:=List.mem_of_mem_erase hb
   have han:a≠ry:=fun e=>(List.Nodup.not_mem_erase hnd) (e▸ha)
   have hbn:b≠ry:=fun e=>(List.Nodup.not_mem_erase hnd) (e▸hb)
   rcases hsup a b ho with h|⟨h1,h2⟩
   ·exact hab (hinj a ha2 b hb2 h)
   ·exact hab ((hJ a ha2 han h1).trans (hJ b hb2 hbn h2).symm)
  ·obtain ⟨v,hv,hv2⟩:=hL.rep u hu
   by_cases e:v=ry
   ·subst e
    exact ⟨rx,(List.mem_erase_of_ne ae2).2 hrx,(hsub _ _ (hv2.trans I8.symm)).trans (hxy.symm.trans (hsub _ _ I5))⟩
   ·exact ⟨v,(List.mem_erase_of_ne e).2 hv,hsub _ _ hv2⟩
 have h1:=I4 hr hcl
 have h2:=List.length_erase_of_mem I7
 have h3:0<L.length:=List.length_pos_of_mem I7
 omega
theorem parted (hq:Perm q n) (hs: ∀z,z<n→nl r z=jd x y (nl q z)) (hx:x<n) (hy:y<n) {c:List Nat} (hc:c∈aQ q n) {i j:Nat} (hij:i<j) (hj:j<c.length) (hi0:nl c i=x) (hj0:nl c j=y): ¬dA [r] n x y:=by
 intro ho
 have hi:=lZ hq hc
 have hin: ∀k,k<c.length→((∃k',i≤k'∧k'<j∧nl c k=nl c k')↔(i≤k∧k<j)):=fun k hk=>
  ⟨fun ⟨k',h1,h2,h3⟩=>by rw [oD hi.fM hk (by omega) h3];exact ⟨h1,h2⟩,fun h=>⟨k,h.1,h.2,rfl⟩⟩
 have:=(ho (fun z=> ∃k,i≤k∧k<j∧z=nl c k) fun t ht z hz=>?_).1 ⟨i,Nat.le_refl _,hij,hi0.symm⟩
 ·rw [←hj0,hin j hj] at this
  omega
 obtain rfl:=List.mem_singleton.1 ht
 rw [hs z hz]
 by_cases hzc:z∈c
 ·obtain ⟨k,hk,rfl⟩:=lY hzc
  rw [hin k hk,jd]
  by_cases hk1:k+1<c.length
  ·rw [hi.step k hk1]
   split
   ·rename_i e
    rw [←hi0] at e
    have:=oD hi.fM hk1 (by omega) e
    rw [←hj0,hin j hj]
    omega
   ·rename_i e1
    split
    ·rename_i e
     rw [←hj0] at e
     have:=oD hi.fM hk1 hj e
     rw [←hi0,hin i (by omega)]
     omega
    ·rename_i e2
     rw [hin _ hk1]
     have h1:k+1≠i:=fun e=>e1 (by rw [e,hi0])
     have h2:k+1≠j:=fun e=>e2 (by rw [e,hj0])
     omega
  ·obtain rfl:k=c.length-1:=by omega
   rw [hi.last]
   split
   ·rename_i e
    rw [←hi0] at e
    have:=oD hi.fM (by omega) (by omega) e
    rw [←hj0,hin j hj]
    omega
   ·rename_i e1
    split
    ·rename_i e
     rw [←hj0] at e
     have:=oD hi.fM (by omega) hj e
     omega
    ·rw [hin 0 (by omega)]
     have h1:(0:Nat)≠i:=fun e=>e1 (by rw [e,hi0])
     omega
 ·have hqc:nl q z∉c:=fun h=>hzc (hi.bwd hq hz h)
  have e1:nl q z≠x:=fun e=>hqc (by rw [e,←hi0];exact dK (by omega))
  have e2:nl q z≠y:=fun e=>hqc (by rw [e,←hj0];exact dK hj)
  rw [jd,if_neg e1,if_neg e2]
  exact ⟨fun ⟨k,_,h2,h3⟩=>absurd (h3▸dK (by omega)) hzc,fun ⟨k,_,h2,h3⟩=>absurd (h3▸dK (by omega)) hqc⟩
theorem ae3 {v:Nat} (h:x≠y):jd x y v=jd y x v:=by
 simp only [jd]
 split
 ·rename_i e;subst e;rw [if_neg h]
 ·rfl
theorem Vx (hq:Perm q n) (hr:Perm r n) (hs: ∀z,z<n→nl r z=jd x y (nl q z)) (hx:x<n) (hy:y<n) (hxy:x≠y):((aQ r n).length+(aQ q n).length)%2=1:=by
 classical
 by_cases ho:dA [q] n x y
 ·obtain ⟨c,hc,hxc⟩:=vT hq hx
  have vX:y∈c:=(ho (· ∈c) (Vu hq hc)).1 hxc
  obtain ⟨i,hi,hie⟩:=lY hxc
  obtain ⟨j,hj,hje⟩:=lY vX
  have hback: ∀z,z<n→nl q z=jd x y (nl r z):=fun z hz=>by rw [hs z hz,ae1]
  have hno: ¬dA [r] n x y:=by
   rcases Nat.lt_trichotomy i j with h|h|h
   ·exact parted hq hs hx hy hc h hj hie hje
   ·subst h;exact absurd (hie.symm.trans hje) hxy
   ·exact fun h'=>parted hq (fun z hz=>by rw [hs z hz,ae3 hxy]) hy hx hc h hi hje hie h'.symm
  have:=Vw hr hq hback hx hy hno
  omega
 ·have:=Vw hq hr hs hx hy ho
  omega
end
def sF (n x y:Nat):List Nat:=((gJ n).set x (nl (gJ n) y)).set y (nl (gJ n) x)
theorem ae4 {n x y:Nat} (hn:1≤n∧n≤16) (hx:x<n) (hy:y<n):PN n (sF n x y):=
 ⟨(yY hn).swap rM hx hy,by rw [sF,List.length_set,List.length_set,rM]⟩
theorem ae5 {n x y z:Nat} (hn:1≤n∧n≤16) (hx:x<n) (hy:y<n) (hz:z<n):nl (sF n x y) z=jd x y z:=by
 rw [sF,jq,jq,List.length_set,rM,sD hn.2 hx,sD hn.2 hy,sD hn.2 hz,jd]
 by_cases h1:z=x
 ·subst h1
  rw [if_pos rfl]
  by_cases h2:z=y
  ·subst h2;rw [if_pos ⟨rfl,by omega⟩]
  ·rw [if_neg (fun h=>h2 h.1),if_pos ⟨rfl,by omega⟩]
 ·rw [if_neg h1]
  by_cases h2:z=y
  ·rw [if_pos h2,if_pos ⟨h2,by omega⟩]
  ·rw [if_neg h2,if_neg (fun h=>h2 h.1),if_neg (fun h=>h1 h.1)]
theorem ae6 {n:Nat} (hn:1≤n∧n≤16):(aQ (gJ n) n).length=n:=by
 have h:=I4 (p:=gJ n) (n:=n) (L:=List.range n) (yY hn) ⟨fun x hx=>List.mem_range.1 hx,?_,fun x hx=>⟨x,List.mem_range.2 hx, .refl⟩⟩
 ·rw [←h,List.length_range]
 ·refine List.Pairwise.imp_of_mem (fun {a b} ha hb hab ho=>?_) (List.nodup_range (n:=n))
  refine hab ((ho (a= ·) fun t ht z hz=>?_).1 rfl)
  obtain rfl:=List.mem_singleton.1 ht
  rw [sD hn.2 hz]
def I9 (w:List Nat) (n:Nat):Nat:=((List.range n).filter fun x=>decide (nl w x≠x)).length
theorem ae7 {n:Nat}: ∀(k:Nat) (p w:List Nat),I9 w n=k→PN n p→PN n w→((aQ p n).length+(aQ w n).length+(aQ (fU p w n) n).length)%2=n%2:=by
 intro k
 induction k using Nat.strongRecOn with
 | _ k ih=>
  intro p w hk hp hw
  have hn:=hp.n16
  by_cases hex: ∃x,x<n∧nl w x≠x
  ·obtain ⟨x,hx,hxm⟩:=hex
   have hy:=hw.perm.lt hx
   have ht:=ae4 hn hx hy
   have hw':=hw.mul ht
   have hs1: ∀z,z<n→nl (fU w (sF n x (nl w x)) n) z=jd x (nl w x) (nl w z):=fun z hz=>by
    rw [wP hw hz,ae5 hn hx hy (hw.perm.lt hz)]
   have hs2: ∀z,z<n→nl (fU p (fU w (sF n x (nl w x)) n) n) z=jd x (nl w x) (nl (fU p w n) z):=fun z hz=>by
    rw [wP hp hz,hs1 _ (hp.perm.lt hz),wP hp hz]
   have e1:=Vx hw.perm hw'.perm hs1 hx hy hxm.symm
   have e2:=Vx (hp.mul hw).perm (hp.mul hw').perm hs2 hx hy hxm.symm
   have hlt:I9 (fU w (sF n x (nl w x)) n) n<k:=by
    rw [←hk]
    have hsub: ∀z∈(List.range n).filter (fun z=>decide (nl (fU w (sF n x (nl w x)) n) z≠z)),z∈((List.range n).filter fun z=>decide (nl w z≠z)).erase x:=fun z hz=>by
     rw [List.mem_filter,List.mem_range,decide_eq_true_eq] at hz
     obtain ⟨hz,hzm⟩:=hz
     rw [hs1 z hz] at hzm
     have hzx:z≠x:=fun e=>by
      subst e
      refine hzm ?_
      rw [jd,if_neg hxm,if_pos rfl]
     refine (List.mem_erase_of_ne hzx).2 (List.mem_filter.2 ⟨List.mem_range.2 hz,decide_eq_true fun e=>hzm ?_⟩)
     rw [e,jd,if_neg hzx,if_neg]
     intro e2
     rw [←e] at e2
     exact hzx (hw.perm.inj hz hx e2)
    have h1:=zS ((List.nodup_range (n:=n)).filter _) hsub
    have Vy:x∈(List.range n).filter fun z=>decide (nl w z≠z):=List.mem_filter.2 ⟨List.mem_range.2 hx,decide_eq_true hxm⟩
    have h2:=List.length_erase_of_mem Vy
    have h3:=List.length_pos_of_mem Vy
    simp only [I9]
    omega
   have h:=ih _ hlt p _ rfl hp hw'
   omega
  ·have e:w=gJ n:=hw.ext (.one hn) fun i hi=>by
    rw [sD hn.2 hi]
    exact Classical.byContradiction fun h=>hex ⟨i,hi,h⟩
   rw [e,mul_one hp,ae6 hn]
   omega
theorem ae8 {n:Nat} {p:List Nat} (hp:PN n p):(aQ (iZ p n) n).length=(aQ p n).length:=by
 have h:=IZ hp.inv.perm
 have h2:Cls n (dA [p] n) ((aQ (iZ p n) n).map fun c=>nl c 0):=by
  have he: ∀x y,dA [p] n x y↔dA [iZ p n] n x y:=fun x y=>by
   constructor
   ·intro h S hS
    refine h S fun t ht z hz=>?_
    obtain rfl:=List.mem_singleton.1 ht
    have:=hS _ (List.mem_singleton.2 rfl) (nl t z) (hp.perm.lt hz)
    rw [vY hp.perm (Nat.le_refl _) hz] at this
    exact this.symm
   ·intro h S hS
    refine h S fun t ht z hz=>?_
    obtain rfl:=List.mem_singleton.1 ht
    obtain ⟨y,hy,rfl⟩:=hp.perm.qy hz
    have:=hS p (by simp) y hy
    rw [vY hp.perm (Nat.le_refl _) hy]
    exact this.symm
  exact ⟨h.lt,h.pw.imp fun hn ho=>hn ((he _ _).1 ho),fun x hx=>by
   obtain ⟨y,h1,h2⟩:=h.rep x hx
   exact ⟨y,h1,(he _ _).2 h2⟩⟩
 have:=I4 hp.perm h2
 rwa [List.length_map] at this
theorem ae9 {n:Nat} {b w:List Nat} (hb:PN n b) (hw:PN n w):((aQ b n).length+(aQ w n).length+(aQ (jR b w n) n).length)%2=n%2:=by
 rw [jR,ae8 (hb.mul hw)]
 exact ae7 _ b w rfl hb hw
end Go.Bm
namespace Go.Bm
open Go Go.Am
def mQ (s:List Bool) (x:Nat):BS:=(s.set x true,[x])
def lN (ls:List (List Nat)):Nat→List Bool×List Nat
 |0=>(List.replicate 32 false,[])
 |k+1=>if bl (lN ls k).1 k=true then lN ls k else ((aN ls (mQ (lN ls k).1 k) 32).1,(lN ls k).2++[(aN ls (mQ (lN ls k).1 k) 32).2.length])
theorem Bi.mQ {m x:Nat} {s:List Bool} (hs:s.length=m) (hx:x<m) (h:bl s x=false):Bi m (mQ s x):=⟨by simp [Bm.mQ,hs],fun i hi=>by
 rw [show (Bm.mQ s x).2=[x] from rfl,yH (by simpa [Bm.mQ] using hi)];exact hx,by
 show 1≤(s.set x true).count true
 rw [qo (by omega) h];omega⟩
end Go.Bm
namespace Go.Bm
open Go Go.Am
def Fl (n:Int) (c t s:List Nat):Prop:=(4≤n∧n≤32)∧n.tmod 4=0∧Pairs c n∧Pairs t n∧Pairs s n∧(∀x:Nat,x<n.toNat→nl s (nl c x)=nl c (nl s x)∧nl s (nl c x)≠x)∧(lN [c,t,s] n.toNat).2.length=1
instance (n:Int) (c t s:List Nat):Decidable (Fl n c t s):=by unfold Fl;infer_instance
theorem Pairs.lt {l:List Nat} {n:Int} (h:Pairs l n) (hn:n≤32) (hl:By 32 l) (hn0:0≤n): ∀i,nl l i<32:=fun i=>by
 rcases Nat.lt_or_ge i 32 with hi|hi
 ·have:=h i hi
  by_cases hin:(i:Int)<n
  ·have:=(this.2 hin).1;omega
  ·rw [this.1 (by omega)];omega
 ·rw [GX (by rw [hl.len];exact hi)];omega
end Go.Bm
namespace Go.Bm
open Go Go.Am
end Go.Bm
namespace Go.Bm
open Go Go.Am
end Go.Bm
namespace Go.Bm
open Go Go.Am
structure oL (ls:List (List Nat)) (m:Nat) (s0:List Bool) (d:Nat) (st:BS):Prop where
 bi:Bi m st
 new: ∀y,bl st.1 y=true→bl s0 y=true∨y∈st.2
 old: ∀y,bl s0 y=true→bl st.1 y=true
 le:d≤st.2.length
 done: ∀j,j<d→ ∀p∈ls,bl st.1 (nl p (nl st.2 j))=true
theorem Ja {st:BS} {y z:Nat} (h:bl st.1 y=true):bl (visit st z).1 y=true:=by
 unfold visit
 split
 ·exact h
 ·show bl (st.1.set z true) y=true
  rw [jO]
  split
  ·rfl
  ·exact h
theorem afa {m:Nat} {st:BS} {y:Nat} (h:Bi m st) (hy:y<m):bl (visit st y).1 y=true:=by
 unfold visit
 split
 ·assumption
 ·show bl (st.1.set y true) y=true
  rw [jO,if_pos ⟨rfl,by rw [h.len];exact hy⟩]
theorem oL.visit {ls:List (List Nat)} {m d y:Nat} {s0:List Bool} {st:BS} (h:oL ls m s0 d st) (hy:y<m):oL ls m s0 d (Bm.visit st y):=by
 obtain ⟨q,hq⟩:= @O4 st y
 refine ⟨h.bi.visit hy,fun z hz=>?_,fun z hz=>Ja (h.old z hz),?_,fun j hj p hp=>?_⟩
 ·unfold Bm.visit at hz⊢
  split at hz
  ·rename_i hb
   rw [if_pos hb]
   exact h.new z hz
  ·rename_i hb
   rw [if_neg hb]
   have hz':bl (st.1.set y true) z=true:=hz
   show bl s0 z=true∨z∈st.2++[y]
   rw [jO] at hz'
   split at hz'
   ·rename_i hc
    exact .inr (by simp [hc.1])
   ·rcases h.new z hz' with k|k
    ·exact .inl k
    ·exact .inr (by simp [k])
 ·rw [hq]
  have:=h.le
  simp
  omega
 ·have:nl (Bm.visit st y).2 j=nl st.2 j:=by rw [hq,mO,if_pos (by have:=h.le;omega)]
  rw [this]
  exact Ja (h.done j hj p hp)
theorem oL.round {ls:List (List Nat)} {m d z:Nat} {s0:List Bool}: ∀{l2:List (List Nat)} {st:BS},oL ls m s0 d st→(∀p∈l2,nl p z<m)→oL ls m s0 d (gY l2 z st)∧(∀y,bl st.1 y=true→bl (gY l2 z st).1 y=true)∧ ∀p∈l2,bl (gY l2 z st).1 (nl p z)=true
 |[],st,h,_=>⟨h,fun y hy=>hy,by simp⟩
 |p::l2,st,h,hp=>by
  have h1:=h.visit (hp p (by simp))
  obtain ⟨h4,h5,h6⟩:=oL.round (l2:=l2) h1 fun q hq=>hp q (by simp [hq])
  have e:gY (p::l2) z st=gY l2 z (Bm.visit st (nl p z)):=rfl
  rw [e]
  refine ⟨h4,fun y hy=>h5 y (Ja hy),fun q hq=>?_⟩
  rcases List.mem_cons.1 hq with rfl|hq
  ·exact h5 _ (afa h.bi (hp _ (by simp)))
  ·exact h6 q hq
theorem oL.aN {ls:List (List Nat)} {m:Nat} {s0:List Bool} {st:BS} (hl: ∀p∈ls,∀y,nl p y<m) (h:oL ls m s0 0 st): ∀i,oL ls m s0 (min i (Bm.aN ls st i).2.length) (Bm.aN ls st i)
 |0=>by rw [Nat.zero_min];exact h
 |i+1=>by
  have ih:=oL.aN hl h i
  simp only [Bm.aN]
  generalize Bm.aN ls st i=s at ih⊢
  by_cases hi:i<s.2.length
  ·rw [if_pos hi]
   rw [Nat.min_eq_left (by omega)] at ih
   obtain ⟨h1,h2,h3⟩:=ih.round (z:=nl s.2 i) (l2:=ls) fun p hp=>hl p hp _
   obtain ⟨q,hq⟩:= @rG (nl s.2 i) ls s
   have hlen:i+1≤(gY ls (nl s.2 i) s).2.length:=by rw [hq];simp;omega
   rw [Nat.min_eq_left hlen]
   refine ⟨h1.bi,h1.new,h1.old,hlen,fun j hj p hp=>?_⟩
   by_cases e:j=i
   ·subst e
    have:nl (gY ls (nl s.2 j) s).2 j=nl s.2 j:=by rw [hq,mO,if_pos hi]
    rw [this]
    exact h3 p hp
   ·exact h1.done j (by omega) p hp
  ·rw [if_neg hi]
   rw [Nat.min_eq_right (by omega)] at ih
   rw [Nat.min_eq_right (by omega)]
   exact ih
end Go.Bm
namespace Go.Bm
open Go Go.Am
def nV (ls:List (List Nat)) (n x:Nat) (st:BS):Prop:= ∀y∈st.2,y<n∧dA ls n x y
theorem nV.visit {ls:List (List Nat)} {n x y:Nat} {st:BS} (h:nV ls n x st) (hy:y<n∧dA ls n x y):nV ls n x (visit st y):=by
 unfold Bm.visit
 split
 ·exact h
 ·intro z hz
  rcases List.mem_append.1 hz with hz|hz
  ·exact h z hz
  ·exact List.mem_singleton.1 hz▸hy
theorem nV.round {ls:List (List Nat)} {n x z:Nat} (hz:z<n) (hxz:dA ls n x z) (hl: ∀p∈ls,∀y,y<n→nl p y<n): ∀{l2:List (List Nat)} {st:BS},(∀p∈l2,p∈ls)→nV ls n x st→nV ls n x (gY l2 z st)
 |[],st,_,h=>h
 |p::l2,st,hs,h=>nV.round hz hxz hl (l2:=l2) (fun q hq=>hs q (by simp [hq])) (h.visit ⟨hl p (hs p (by simp)) z hz,hxz.trans (.step (hs p (by simp)) hz)⟩)
theorem nV.aN {ls:List (List Nat)} {n x:Nat} {st:BS} (hl: ∀p∈ls,∀y,y<n→nl p y<n) (h:nV ls n x st): ∀i,nV ls n x (aN ls st i)
 |0=>h
 |i+1=>by
  have ih:=nV.aN hl h i
  simp only [Bm.aN]
  split
  ·rename_i hi
   have:=ih _ (dK hi)
   exact nV.round this.1 this.2 hl (fun _ h=>h) ih
  ·exact ih
end Go.Bm
namespace Go.Bm
open Go Go.Am
end Go.Bm
namespace Go.Bm
open Go Go.Am
theorem Jb {st:BS} {y:Nat} (h:bl st.1 y=false):visit st y=(st.1.set y true,st.2++[y]):=by rw [visit,if_neg (by simp [h])]
theorem Vz {st:BS} {y:Nat} (h:bl st.1 y=true):visit st y=st:=by rw [visit,if_pos h]
theorem Jc: ∀(l:List Bool) (n m:Nat),l.length=m→n≤m→(∀i,i<m→bl l i=decide (i<n))→l.count true=n
 |[],n,m,hl,hn,h=>by simp at hl;simp;omega
 |a::l,0,m,hl,hn,h=>by
  have h0:=h 0 (by simp at hl;omega)
  have ih:=Jc l 0 (m-1) (by simp at hl;omega) (by omega) fun i hi=>by
   have:=h (i+1) (by omega)
   simpa [bl,List.getD] using this
  have:a=false:=by simpa [bl,List.getD] using h0
  subst this
  simpa using ih
 |a::l,n+1,m,hl,hn,h=>by
  have h0:=h 0 (by omega)
  have ih:=Jc l n (m-1) (by simp at hl;omega) (by omega) fun i hi=>by
   have:=h (i+1) (by omega)
   simpa [bl,List.getD] using this
  have:a=true:=by simpa [bl,List.getD] using h0
  subst this
  simp [ih]
structure Four (c s:List Nat) (n k:Nat) (so:List Bool×List Nat):Prop where
 len:so.1.length=32
 lt: ∀i,bl so.1 i=true→i<n
 cl: ∀i,bl so.1 i=true→bl so.1 (nl c i)=true∧bl so.1 (nl s i)=true
 cnt:so.1.count true=4*so.2.length
 upto: ∀i,i<k→bl so.1 i=true
theorem afb {c s:List Nat} {se:List Bool} {x a b d:Nat} (hl:se.length=32) (hx:x<32) (ha:a<32) (hb:b<32) (hd:d<32) (hxa:x≠a) (hxb:x≠b) (hxd:x≠d) (hab:a≠b) (had:a≠d) (hbd:b≠d)
  (h1:nl c x=a) (h2:nl s x=b) (h3:nl c a=x) (h4:nl s a=d) (h5:nl c b=d) (h6:nl s b=x) (h7:nl c d=b) (h8:nl s d=a)
  (n0:bl se x=false) (n1:bl se a=false) (n2:bl se b=false) (n3:bl se d=false):
  aN [c,s] (mQ se x) 32=((((se.set x true).set a true).set b true).set d true,[x,a,b,d]):=by
 have v1:visit (se.set x true,[x]) a=((se.set x true).set a true,[x,a]):=Jb (st:=(se.set x true,[x])) (by simp [jO,n1,hxa.symm])
 have v2:visit ((se.set x true).set a true,[x,a]) b=(((se.set x true).set a true).set b true,[x,a,b]):=Jb (st:=((se.set x true).set a true,[x,a])) (by simp [jO,n2,hxb.symm,hab.symm])
 have v3:visit (((se.set x true).set a true).set b true,[x,a,b]) x=(((se.set x true).set a true).set b true,[x,a,b]):=Vz (by simp [jO,hl,hx])
 have v4:visit (((se.set x true).set a true).set b true,[x,a,b]) d=((((se.set x true).set a true).set b true).set d true,[x,a,b,d]):=Jb (st:=(((se.set x true).set a true).set b true,[x,a,b])) (by simp [jO,n3,hxd.symm,had.symm,hbd.symm])
 have w: ∀y,y=x∨y=a∨y=b∨y=d→visit ((((se.set x true).set a true).set b true).set d true,[x,a,b,d]) y=((((se.set x true).set a true).set b true).set d true,[x,a,b,d]):=by
  intro y hy
  refine Vz ?_
  rcases hy with rfl|rfl|rfl|rfl<;>simp [jO,hl,hx,ha,hb,hd]
 have e0:aN [c,s] (mQ se x) 0=(se.set x true,[x]):=rfl
 have e1:aN [c,s] (mQ se x) 1=(((se.set x true).set a true).set b true,[x,a,b]):=by
  rw [aN,e0,if_pos (by simp)]
  show visit (visit _ (nl c x)) (nl s x)=_
  rw [h1,h2,v1,v2]
 have e2:aN [c,s] (mQ se x) 2=((((se.set x true).set a true).set b true).set d true,[x,a,b,d]):=by
  rw [aN,e1,if_pos (by simp)]
  show visit (visit _ (nl c a)) (nl s a)=_
  rw [h3,h4,v3,v4]
 have e3:aN [c,s] (mQ se x) 3=((((se.set x true).set a true).set b true).set d true,[x,a,b,d]):=by
  rw [aN,e2,if_pos (by simp)]
  show visit (visit _ (nl c b)) (nl s b)=_
  rw [h5,h6,w d (by simp),w x (by simp)]
 have e4:aN [c,s] (mQ se x) 4=((((se.set x true).set a true).set b true).set d true,[x,a,b,d]):=by
  rw [aN,e3,if_pos (by simp)]
  show visit (visit _ (nl c d)) (nl s d)=_
  rw [h7,h8,w b (by simp),w a (by simp)]
 rw [vC (i:=4) (by rw [e4];simp) 32 (by omega),e4]
theorem VA {c s:List Nat} {n:Nat} (hn:n≤32) (hc: ∀x,x<n→nl c x<n∧nl c x≠x∧nl c (nl c x)=x) (hs: ∀x,x<n→nl s x<n∧nl s x≠x∧nl s (nl s x)=x)
  (hcs: ∀x,x<n→nl s (nl c x)=nl c (nl s x)∧nl s (nl c x)≠x): ∀k,k≤n→Four c s n k (lN [c,s] k)
 |0,_=>by
  have h0: ∀i,bl (lN [c,s] 0).1 i=false:=fun i=>zy
  exact ⟨by simp [lN],fun i h=>(by rw [h0] at h;cases h),fun i h=>(by rw [h0] at h;cases h),by simp [lN],fun i h=>by omega⟩
 |x+1,hk=>by
  have ih:=VA hn hc hs hcs x (by omega)
  simp only [lN]
  generalize lN [c,s] x=so at ih⊢
  split
  ·rename_i hb
   refine ⟨ih.len,ih.lt,ih.cl,ih.cnt,fun i hi=>?_⟩
   rcases Nat.lt_or_ge i x with h|h
   ·exact ih.upto i h
   ·obtain rfl:i=x:=by omega
    exact hb
  ·rename_i hb
   have n0:bl so.1 x=false:=by simpa using hb
   obtain ⟨c1,c2,c3⟩:=hc x (by omega)
   obtain ⟨s1,s2,s3⟩:=hs x (by omega)
   obtain ⟨d1,d2,d3⟩:=hs (nl c x) c1
   obtain ⟨k1,k2⟩:=hcs x (by omega)
   obtain ⟨m1,m2,m3⟩:=hc (nl s x) s1
   have hnot: ∀y,y<n→(nl c y=x∨nl s y=x∨nl s (nl c y)=x)→bl so.1 y=false:=by
    intro y hy h
    cases hby:bl so.1 y with
    |false=>rfl
    |true=>
     exfalso
     obtain ⟨q1,q2⟩:=ih.cl y hby
     rcases h with h|h|h
     ·rw [h] at q1;rw [q1] at n0;cases n0
     ·rw [h] at q2;rw [q2] at n0;cases n0
     ·have:=(ih.cl _ q1).2
      rw [h,n0] at this;cases this
   have n1:=hnot (nl c x) c1 (.inl c3)
   have n2:=hnot (nl s x) s1 (.inr (.inl s3))
   have e7:nl c (nl s (nl c x))=nl s x:=by rw [k1,m3]
   have n3:=hnot (nl s (nl c x)) d1 (.inr (.inr (by rw [e7,s3])))
   have hab:nl c x≠nl s x:=fun e=>by rw [e] at k2;exact k2 s3
   have had:nl c x≠nl s (nl c x):=fun e=>d2 e.symm
   have hbd:nl s x≠nl s (nl c x):=fun e=>by
    have:=congrArg (nl s) e
    rw [s3,d3] at this
    exact c2 this.symm
   rw [afb (x:=x) (a:=nl c x) (b:=nl s x) (d:=nl s (nl c x)) ih.len (by omega) (by omega) (by omega) (by omega) c2.symm s2.symm (fun e=>k2 e.symm) hab had hbd rfl rfl c3 rfl k1.symm s3 e7 d3 n0 n1 n2 n3]
   have hget: ∀i,bl ((((so.1.set x true).set (nl c x) true).set (nl s x) true).set (nl s (nl c x)) true) i=true↔(bl so.1 i=true∨i=x∨i=nl c x∨i=nl s x∨i=nl s (nl c x)):=by
    intro i
    simp only [jO,List.length_set,ih.len]
    by_cases h1:i=nl s (nl c x)
    ·simp [h1,show nl s (nl c x)<32 by omega]
    ·by_cases h2:i=nl s x
     ·simp [h2,show nl s x<32 by omega]
     ·by_cases h3:i=nl c x
      ·simp [h3,show nl c x<32 by omega]
      ·by_cases h4:i=x
       ·simp [h4,show x<32 by omega]
       ·simp [h1,h2,h3,h4]
   refine ⟨by simp [ih.len],fun i hi=>?_,fun i hi=>?_,?_,fun i hi=>?_⟩
   ·rcases (hget i).1 hi with h|rfl|rfl|rfl|rfl
    ·exact ih.lt i h
    ·omega
    ·exact c1
    ·exact s1
    ·exact d1
   ·show bl _ (nl c i)=true∧bl _ (nl s i)=true
    rw [hget,hget]
    rcases (hget i).1 hi with h|rfl|rfl|rfl|rfl
    ·exact ⟨.inl (ih.cl i h).1, .inl (ih.cl i h).2⟩
    ·exact ⟨.inr (.inr (.inl rfl)), .inr (.inr (.inr (.inl rfl)))⟩
    ·exact ⟨.inr (.inl c3), .inr (.inr (.inr (.inr rfl)))⟩
    ·exact ⟨.inr (.inr (.inr (.inr k1.symm))), .inr (.inl s3)⟩
    ·exact ⟨.inr (.inr (.inr (.inl e7))), .inr (.inr (.inl d3))⟩
   ·show ((((so.1.set x true).set (nl c x) true).set (nl s x) true).set (nl s (nl c x)) true).count true=4*(so.2++[_]).length
    rw [qo (by simp [ih.len];omega) (by simp [jO,n3,had.symm,hbd.symm,k2]),qo (by simp [ih.len];omega) (by simp [jO,n2,hab.symm,s2]),qo (by simp [ih.len];omega) (by simp [jO,n1,c2]),qo (by simp [ih.len];omega) n0,ih.cnt]
    simp
    omega
   ·show bl _ i=true
    rw [hget]
    rcases Nat.lt_or_ge i x with h|h
    ·exact .inl (ih.upto i h)
    ·exact .inr (.inl (by omega))
theorem Fl.four {n:Nat} {c t s:List Nat} (h:Fl n c t s):(lN [c,s] n).2.length=n/4:=by
 have hn:=h.1
 have hp: ∀p,Pairs p n→ ∀i,i<n→nl p i<n∧nl p i≠i∧nl p (nl p i)=i:=fun p hp i hi=>by
  have:=(hp i (by omega)).2 (by omega)
  exact ⟨by omega,this.2⟩
 have h4:=VA (c:=c) (s:=s) (by omega) (hp c h.2.2.1) (hp s h.2.2.2.2.1) (fun x hx=>h.2.2.2.2.2.1 x (by simpa using hx)) n (Nat.le_refl _)
 have:=Jc (lN [c,s] n).1 n 32 h4.len (by omega) fun i hi=>by
  by_cases h':i<n
  ·rw [h4.upto i h'];simp [h']
  ·cases hb:bl (lN [c,s] n).1 i with
   |false=>simp [h']
   |true=>exact absurd (h4.lt i hb) h'
 have h5:=h4.cnt
 omega
end Go.Bm
namespace Go.Bm
open Go Go.Am
section
variable {b w:List Nat} {n:Nat}
end
end Go.Bm
namespace Go.Bm
open Go Go.Am
structure VB (N:Nat) (B W c t s:List Nat):Prop where
 c: ∀f,f<2*N→nl c f=2*nl W (f/2)+(1-f%2)
 s: ∀f,f<2*N→nl s f=2*(f/2)+(1-f%2)
 t1: ∀z,z<N→nl t (2*z+1)=2*nl B z
 t0: ∀z,z<N→nl t (2*nl B z)=2*z+1
section
variable {N n:Nat} {B W c t s b w:List Nat}
theorem afc {N f:Nat} (hB:Perm B N) (h:f<2*N):(∃z,z<N∧f=2*z+1)∨ ∃z,z<N∧f=2*nl B z:=by
 rcases Nat.mod_two_eq_zero_or_one f with h1|h1
 ·obtain ⟨z,hz,he⟩:=hB.qy (show f/2<N by omega)
  exact .inr ⟨z,hz,by omega⟩
 ·exact .inl ⟨f/2,by omega,by omega⟩
theorem VB.pairs (h:VB N B W c t s) (hB:Perm B N) (hW:Perm W N) (hcl:Clean W N):(∀f,f<2*N→nl c f<2*N∧nl c f≠f∧nl c (nl c f)=f)∧(∀f,f<2*N→nl t f<2*N∧nl t f≠f∧nl t (nl t f)=f)∧(∀f,f<2*N→nl s f<2*N∧nl s f≠f∧nl s (nl s f)=f)∧
  ∀f,f<2*N→nl s (nl c f)=nl c (nl s f)∧nl s (nl c f)≠f:=by
 have hc1: ∀f,f<2*N→nl c f<2*N:=fun f hf=>by
  rw [h.c f hf];have:=hW.lt (show f/2<N by omega);omega
 have hs1: ∀f,f<2*N→nl s f<2*N:=fun f hf=>by rw [h.s f hf];omega
 refine ⟨fun f hf=>⟨hc1 f hf,?_,?_⟩,fun f hf=>?_,fun f hf=>⟨hs1 f hf,?_,?_⟩,fun f hf=>?_⟩
 ·rw [h.c f hf];omega
 ·rw [h.c _ (hc1 f hf),h.c f hf,show (2*nl W (f/2)+(1-f%2))/2=nl W (f/2) by omega,(hcl _ (by omega)).2]
  omega
 ·rcases afc hB hf with ⟨z,hz,rfl⟩|⟨z,hz,rfl⟩
  ·rw [h.t1 z hz,h.t0 z hz]
   have:=hB.lt hz
   omega
  ·rw [h.t0 z hz,h.t1 z hz]
   omega
 ·rw [h.s f hf];omega
 ·rw [h.s _ (hs1 f hf),h.s f hf];omega
 ·rw [h.s _ (hc1 f hf),h.c f hf,h.c _ (hs1 f hf),h.s f hf,show (2*nl W (f/2)+(1-f%2))/2=nl W (f/2) by omega,show (2*(f/2)+(1-f%2))/2=f/2 by omega]
  have:=(hcl (f/2) (by omega)).1
  omega
end
end Go.Bm
namespace Go.Bm
open Go Go.Am
section
variable {n:Nat} {b w p:List Nat}
theorem afd (hd:aX n b w) (hb:PN n b) (hw:PN n w) {e:Int} (he:e=((typ b n).length:Int)+((typ w n).length:Int)+((typ (jR b w n) n).length:Int)-n):
  ((aQ b n).length:Int)+(aQ w n).length+(aQ (jR b w n) n).length-n=e∧2-2*(1-e.tdiv 2)=e∧ -16≤e∧e≤48:=by
 have h:=ae9 hb hw
 have c1:=tq hd.1
 have c2:=tq hd.2.1
 have c3:=tq (qA hd.1 hd.2.1)
 have hn:=hb.n16
 rw [CY hd.1,CY hd.2.1,CY (qA hd.1 hd.2.1)] at he
 refine ⟨he.symm,?_,by omega,by omega⟩
 obtain ⟨k,hk⟩: ∃k:Int,e=2*k:=⟨e/2,by omega⟩
 rw [hk,Int.mul_tdiv_cancel_left _ (by omega)]
 omega
end
end Go.Bm
namespace Go.Bm.Q5
open Go Go.Am Go.Bm
section
variable {x:Bool} {H:BH} {K:Value→BH→Prop} {n:Nat} {b w:List Nat}
theorem afe (hb:By 16 b) (hw:By 16 w) (hd:aX n b w) (hK:K (I (jw b w n)) H):aF x Xz [DV n b w] H K:=by
 have hlb:=hb.len
 have fG:=hw.len
 have hn:=hd.1.1
 have t0:=qx hd.1
 have t1:=qx hd.2.1
 have t2:=qx (qA hd.1 hd.2.1)
 have g0:getN none ((pass b w n).map FN) 0=some (FN (typ b n)):=rfl
 have g1:getN none ((pass b w n).map FN) 1=some (FN (typ w n)):=rfl
 have g2:getN none ((pass b w n).map FN) 2=some (FN (typ (jR b w n) n)):=rfl
 have hl3:(pass b w n).length=3:=rfl
 rw [jw] at hK
 refine bK (by exact .cons jP .nil) ?_
 refine aG YL ?_;simp only [oO,aB]
 refine aC ?_
 refine dF (aH @aI @aT) fun Kr hKr=>?_
 refine aff hb hw hd ?_
 simp only [wR,hl3]
 generalize (pass b w n).map FN=cs at g0 g1 g2⊢
 generalize (typ b n)=u0 at*
 generalize (typ w n)=u1 at*
 generalize (typ (jR b w n) n)=u2 at*
 refine aS ?_
 refine aO hKr ?_
 refine aA (iy @g0 @g1 @g2 @aI @aT) ?_
 refine aV ?_
 exact ⟨.int,hK⟩
theorem afg (hb:By 16 b) (hw:By 16 w) (hd:aX n b w) (hK:K (I (1-(jw b w n).tdiv 2)) H):aF x Xl [DV n b w] H K:=by
 have hlb:=hb.len
 have fG:=hw.len
 have hn:=hd.1.1
 obtain ⟨_,he,h1,h2⟩:=afd hd ⟨hd.1,hlb⟩ ⟨hd.2.1,fG⟩ (e:=jw b w n) rfl
 have e1:(2-jw b w n).tdiv 2=1-(jw b w n).tdiv 2:=by
  have:2-jw b w n=2*(1-(jw b w n).tdiv 2):=by omega
  rw [this,Int.mul_tdiv_cancel_left _ (by omega)]
 refine bK (by exact .cons jP .nil) ?_
 refine aG Yu ?_;simp only [qJ,aB]
 refine aC ?_
 refine dF (aH @aI @aT) fun Kr hKr=>?_
 refine afe hb hw hd ?_
 generalize jw b w n=e at*
 generalize e.tdiv 2=q at*
 refine gU @e1 ?_
 refine aO hKr ?_
 refine aV ?_
 exact ⟨.int,hK⟩
end
theorem Jd {d:P3}: ∀{l:List P3} {k:Nat},k≤l.length→(∀j e,j<k→l[j]? =some e→dM e d)→(∀e,l[k]? =some e→ ¬dM e d)→jv d l=if l[k]? =some d then l else l.take k++d::l.drop k
 |[],k,hk,_,_=>by
  obtain rfl:k=0:=by simpa using hk
  simp [jv]
 |e::l,0,_,_,h=>by
  have h1: ¬dM e d:=h e rfl
  simp only [jv,if_neg h1]
  by_cases h2:dM d e
  ·rw [if_pos h2,if_neg (fun he=>by simp at he;subst he;exact wO _ h2)]
   rfl
  ·rw [if_neg h2,if_pos (by rw [zQ h1 h2];rfl)]
 |e::l,k+1,hk,h1,h2=>by
  have h3:dM e d:=h1 0 e (by omega) rfl
  have ih:=Jd (l:=l) (k:=k) (by simpa using hk) (fun j x hj hx=>h1 (j+1) x (by omega) (by simpa using hx)) (fun x hx=>h2 x (by simpa using hx))
  simp only [jv,if_pos h3,ih]
  rw [List.getElem?_cons_succ]
  split<;>rfl
abbrev jA (l:List P3):Value:=Fz l.length 1 (l.map dw)
theorem U8 {l:List P3} {k:Nat} {p:P3} (h:l[k]? =some p):getN none (l.map dw) k=some (dw p):=by
 show (l.map dw)[k]? =_
 rw [List.getElem?_map,h]
 rfl
theorem VD {H:BH} {b k m:Nat} {cs ys:List Value} (hb:blk H b=some cs) (h1:ys.length=m) (h2:k≤cs.length) (h3:(k+m)*24≤140737488355328) (h4:ys.all fJ=true):
  eH 1 24 (S b 0 k 1) (Fz m 1 ys) H=some (S H.length 0 (k+m) 1,(H.set b none)++[some (cs.take k++ys)]):=by
 by_cases hm:m=0
 ·subst hm
  obtain rfl:ys=[]:=List.eq_nil_of_length_eq_zero (by omega)
  simp only [Nat.add_zero] at h3
  simp [eH,newC,Fz,hb,h2,h3]
 ·simp only [eH,newC,Fz,if_neg hm,if_true,hb]
  rw [if_pos ⟨by omega,h3,h4⟩,Nat.mul_one]
theorem afh {H:BH} {b c k m:Nat} {cs ys:List Value} (hb:blk H b=some cs) (hc:blk H c=some ys) (hm:m≠0) (h1:ys.length=m) (h2:k≤cs.length) (h3:(k+m)*24≤140737488355328) (h4:ys.all fJ=true):
  eH 1 24 (S b 0 k 1) (S c 0 m 1) H=some (S H.length 0 (k+m) 1,(H.set b none)++[some (cs.take k++ys)]):=by
 have e:(ys.drop 0).take (m*1)=ys:=by rw [List.drop_zero,List.take_of_length_le (by omega)]
 simp only [eH,newC,if_neg hm,if_true,hb,hc]
 rw [if_pos (by omega)]
 simp only [e]
 rw [if_pos ⟨by omega,h3,h4⟩,Nat.mul_one]
theorem Je {l:List P3}:(l.map dw).all fJ=true:=List.all_eq_true.2 fun v hv=>by
 obtain ⟨d,_,rfl⟩:=List.mem_map.1 hv
 rfl
theorem afi {l:List P3}:aJ (l.map dw):=aJ.map fun _=> .fz
theorem VE {R:Ex→Fr→BH→Prop} {f:Fr} {acc:List P3} {p:P3} {k:Nat} (hk:k≤acc.length) (hl:acc.length≤1000) (g7:f 7=jA acc) (g9:f 9=dw p) (g10:f 10=I k)
  (hR: ∀f' M j,f' 7=S j 0 (acc.take k++p::acc.drop k).length 1→blk M j=some ((acc.take k++p::acc.drop k).map dw)→f' 0=f 0→f' 1=f 1→f' 6=f 6→f' 8=f 8→R .normal f' M):
  T 0 (.seq bY.r12 bY.r13) R f []:=by
 have nT:(acc.take k).length=k:=by rw [List.length_take];omega
 have nD:(acc.drop k).length=acc.length-k:=by rw [List.length_drop]
 have hs1:mP 1 (jA acc) (some (I k)) none=some (jA (acc.drop k)):=by
  rw [DF (wE (by omega)),Int.toNat_natCast]
  show some (Fz (acc.length-k) 1 _)=some (Fz (acc.drop k).length 1 _)
  rw [nD,List.map_drop,Nat.mul_one,Nat.mul_one,List.take_of_length_le (by simp)]
 have hs2:mP 1 (jA acc) none (some (I k))=some (jA (acc.take k)):=by
  rw [DF (zC (by omega)),Int.toNat_natCast]
  show some (Fz (k-0) 1 _)=some (Fz (acc.take k).length 1 _)
  rw [nT,List.map_take,Nat.zero_mul,List.drop_zero,Nat.mul_one,Nat.sub_zero]
 have ha1:eH 1 24 (S 0 0 1 1) (jA (acc.drop k)) [some [dw p]]=some (S 1 0 (1+(acc.drop k).length) 1,[none,some (dw p::(acc.drop k).map dw)]):=by
  rw [VD (cs:=[dw p]) rfl (by simp) (by simp) (by omega) Je]
  rfl
 have ha2: ∀X:List Value,eH 1 24 (S 2 0 0 1) (jA (acc.take k)) [none,some X,some []]=some (S 3 0 (0+(acc.take k).length) 1,[none,some X,none,some ((acc.take k).map dw)]):=fun X=>by
  rw [VD (cs:=[]) rfl (by simp) (by simp) (by omega) Je]
  rfl
 have ha3:eH 1 24 (S 3 0 (acc.take k).length 1) (S 1 0 (1+(acc.drop k).length) 1) [none,some (dw p::(acc.drop k).map dw),none,some ((acc.take k).map dw)]=
   some (S 4 0 ((acc.take k).length+(1+(acc.drop k).length)) 1,[none,some (dw p::(acc.drop k).map dw),none,none,some ((acc.take k).map dw++dw p::(acc.drop k).map dw)]):=by
  rw [afh (cs:=(acc.take k).map dw) (ys:=dw p::(acc.drop k).map dw) rfl rfl (by omega) (by simp;omega) (by simp) (by omega) (Je (l:=p::acc.drop k)),List.take_of_length_le (l:=(acc.take k).map dw) (by simp)]
  rfl
 have hr0:repl ([.slice none 0 0]:List Value) 0=[]:=rfl
 refine aA (iy @g7 @g9 @g10 @hs1 @ha1) ?_
 refine bM (nN @g7 @g10 @hs2 @hr0 @ha2 @ha3) ?_
 refine hR _ _ 4 ?_ ?_ ah ah ah ah
 ·rw [List.length_append,List.length_cons,Nat.add_comm (acc.drop k).length 1]
  exact ah
 ·rw [List.map_append]
  exact rfl
end Go.Bm.Q5
namespace Go.Bm.Q5
open Go Go.Am Go.Bm
theorem VF {n:Nat} {l:List L2} {k:Nat} {d:L2} (h: ∀d∈l,By 16 d.1∧By 16 d.2) (hk:l[k]? =some d):(DL n l).drop (k*33)=DC n d.1 d.2++DL n (l.drop (k+1))∧(k+1)*33≤(DL n l).length:=by
 have hlt:k<l.length:=(List.getElem?_eq_some_iff.1 hk).1
 have hd:l.drop k=d::l.drop (k+1):=by
  rw [List.drop_eq_getElem_cons hlt]
  congr 1
  exact (List.getElem?_eq_some_iff.1 hk).2
 have h4:=uz (n:=n) h
 refine ⟨by rw [D9 h,hd];rfl,?_⟩
 rw [h4]
 exact Nat.mul_le_mul_right 33 hlt
theorem afj {n:Nat} {l:List L2} {k:Nat} {d:L2} (h: ∀d∈l,By 16 d.1∧By 16 d.2) (hk:l[k]? =some d):getN (some 16) (DL n l) (k*33+1)=some (PL d.1):=by
 obtain ⟨e1,e2⟩:=VF (n:=n) h hk
 obtain ⟨h1,h2⟩:=h d (List.mem_of_getElem? hk)
 have l1:=h1.len
 have:((DL n l).drop (k*33+1)).take 16=d.1.map N8:=by
  rw [←List.drop_drop,e1]
  show ((d.1.map N8++d.2.map N8)++DL n (l.drop (k+1))).take 16=_
  rw [List.append_assoc,List.take_append_of_le_length (by simp;omega),List.take_of_length_le (by simp;omega)]
 simp only [getN]
 rw [if_pos (by omega),this]
theorem afk {n:Nat} {l:List L2} {k:Nat} {d:L2} (h: ∀d∈l,By 16 d.1∧By 16 d.2) (hk:l[k]? =some d):getN (some 16) (DL n l) (k*33+17)=some (PL d.2):=by
 obtain ⟨e1,e2⟩:=VF (n:=n) h hk
 obtain ⟨h1,h2⟩:=h d (List.mem_of_getElem? hk)
 have l1:=h1.len
 have l2:=h2.len
 have:((DL n l).drop (k*33+17)).take 16=d.2.map N8:=by
  rw [←List.drop_drop,e1]
  show (((d.1.map N8++d.2.map N8)++DL n (l.drop (k+1))).drop 16).take 16=_
  rw [List.append_assoc,List.drop_append,List.drop_eq_nil_of_le (by simp;omega),List.nil_append,List.length_map,l1,Nat.sub_self,List.drop_zero,List.take_append_of_le_length (by simp;omega),List.take_of_length_le (by simp;omega)]
 simp only [getN]
 rw [if_pos (by omega),this]
theorem afl {s:List P3} {p:P3}:jC (s++[p])=jv p (jC s):=by
 rw [jC,List.foldl_append]
 rfl
theorem afm {n i:Nat} {g:Int} {L:List L2} {acc:List P3} {p:P3} {R:Ex→Fr→BH→Prop} {f:Fr} (hs:acc.Pairwise dM) (hl:acc.length≤1000) (hacc: ∀q∈acc,∀r∈aP q,r.length<1000000) (hp: ∀r∈aP p,r.length<1000000)
  (g0:f 0=I n) (g1:f 1=I g) (g6:f 6=LD n L) (g7:f 7=jA acc) (g8:f 8=I i) (g9:f 9=dw p) (g10:f 10=I 0)
  (hF: ∀f' M,f' 0=I n→f' 1=I g→f' 6=LD n L→f' 7=jA (jv p acc)→f' 8=I i→R .normal f' M)
  (hS: ∀f' M j,f' 0=I n→f' 1=I g→f' 6=LD n L→f' 7=S j 0 (jv p acc).length 1→blk M j=some ((jv p acc).map dw)→f' 8=I i→R .normal f' M):
  T 0 (.seq (.block 2 (.loop bY.l0)) (.seq bY.r11 (.cond (.t 84) (.seq bY.r12 bY.r13) .skip))) R f []:=by
 refine aW (fun m f H'=> ∃k,k≤acc.length∧m=acc.length-k∧(∀j e,j<k→acc[j]? =some e→dM e p)∧f 0=I n∧f 1=I g∧f 6=LD n L∧f 7=jA acc∧f 8=I i∧f 9=dw p∧f 10=I k∧H'=[]) (acc.length) ?_ ?_
 ·exact ⟨_,_,Gh.refl,0,by omega,by omega,fun j e hj=>by omega,g0,g1,g6,g7,g8,g9,g10,rfl⟩
 ·clear g0 g1 g6 g7 g8 g9 g10
  rintro m f M R1 ⟨k,hk,rfl,hlo,g0,g1,g6,g7,g8,g9,g10,rfl⟩ hN hX hR hE
  simp only [bY.l0,aB]
  by_cases hkl:k<acc.length
  ·obtain ⟨e,he⟩: ∃e,acc[k]? =some e:=⟨_,List.getElem?_eq_getElem hkl⟩
   have hge:=U8 he
   have hre:=hacc e (List.mem_of_getElem? he)
   refine dF (iy @g7 @g9 @g10 @hkl @hge) fun Kr hKr=>?_
   refine VG hre hp ?_
   by_cases hlt:dM e p
   ·have hc:=Ea.2 hlt
    have hcr:= @VH e p
    generalize iU e p=c at hc hcr
    refine gU @hc ?_
    refine aO hKr ?_
    refine jy ?_
    refine dD ?_
    refine bM @g10 ?_
    have afn: ∀j x,j<k+1→acc[j]? =some x→dM x p:=fun j x hj hx=>by
     by_cases ej:j=k
     ·rw [ej,he] at hx;cases hx;exact hlt
     ·exact hlo j x (by omega) hx
    exact hN (acc.length-(k+1)) _ _ _ _ (by omega) Gh.refl ⟨k+1,by omega,rfl,afn,ah,ah,ah,ah,ah,ah,ah,rfl⟩
   ·have hc: ¬iU e p<0:=mt Ea.1 hlt
    have hcr:= @VH e p
    have hce:= @IJ e p
    have hins:=Jd (d:=p) (l:=acc) (k:=k) hk hlo (fun x hx=>by rw [he] at hx;cases hx;exact hlt)
    obtain ⟨c,hcc⟩: ∃c,c=iU e p:=⟨_,rfl⟩
    rw [←hcc] at hc hcr hce
    have hord: ∀{x:Bool} {H:BH} {K:Value→BH→Prop},K (I c) H→aF x Kv [dw e,dw p] H K:=fun h=>VG hre hp (by rw [←hcc];exact h)
    rw [←hcc]
    refine gU @hc ?_
    refine aO hKr ?_
    refine bV ?_
    refine hX _ _ ?_
    refine dF (iy @g7 @g9 @g10 @hkl @hge) fun Kr hKr=>?_
    refine hord ?_
    by_cases Eb:c=0
    ·have Jf:=hce.1 Eb
     rw [he,if_pos (by rw [Jf])] at hins
     subst Eb
     refine aS ?_
     refine aO hKr ?_
     refine jX (t:=false) (by simp (disch:=omega) only [RA,↓reduceIte,Nat.reduceEqDiff,RD]) ?_;(try simp only [RN,reduceIte]);try refine aj rfl ?_
     exact hF _ _ ah ah ah ah ah
    ·have Jf:e≠p:=fun h=>Eb (hce.2 h)
     rw [he,if_neg (fun h=>Jf (Option.some.inj h))] at hins
     refine gU @Eb ?_
     refine aO hKr ?_
     refine jX (t:=true) (by simp (disch:=omega) only [RA,↓reduceIte,Nat.reduceEqDiff,RD]) ?_;(try simp only [RN,reduceIte]);try refine aj rfl ?_
     refine VE (p:=p) hk hl ah ah ah fun f' M j e1 e2 e3 e4 e5 e6=>?_
     rw [←hins] at e1 e2
     refine hS f' M j (e3.trans ?_) (e4.trans ?_) (e5.trans ?_) e1 e2 (e6.trans ?_)
     all_goals exact ah
  ·refine aA (dh @g7 @g9 @g10 @hkl) ?_
   refine bV ?_
   refine hX _ _ ?_
   have hins:=Jd (d:=p) (l:=acc) (k:=k) hk hlo (fun x hx=>by rw [List.getElem?_eq_none (by omega)] at hx;cases hx)
   rw [List.getElem?_eq_none (by omega),if_neg (by simp)] at hins
   refine aA (dh @g7 @g9 @g10 @hkl) ?_
   refine jX (t:=true) (by simp (disch:=omega) only [RA,↓reduceIte,Nat.reduceEqDiff,RD]) ?_;(try simp only [RN,reduceIte]);try refine aj rfl ?_
   refine VE (p:=p) hk hl ah ah ah fun f' M j e1 e2 e3 e4 e5 e6=>?_
   rw [←hins] at e1 e2
   refine hS f' M j (e3.trans ?_) (e4.trans ?_) (e5.trans ?_) e1 e2 (e6.trans ?_)
   all_goals exact ah
theorem afo {c:ACode} {Q:Ex→Fr→BH→Prop} {f:Fr} {H:BH} {cs:List Value} (hb:blk H 0=some cs) (hn:aJ cs) (h: ∀f2:Fr,(∀t v,f t=v→f2 t=ren [] (frz 0 cs v))→T 0 c Q f2 []):T 0 c Q f H:=
 jT ((Gh.fz hb hn).trans (Gh.qj [] .nil fun j hj=>absurd hj (Nat.not_lt_zero j))) (h _ fun t v e=>by show ren [] (frz 0 cs (f t))=_;rw [e])
theorem aeC {n:Nat} {g:Int} {x:Bool} {H:BH} {K:Value→BH→Prop} (h1:1≤n) (h5:n≤5) (hg:0≤g) (hK:K (.tuple ⟨[jA (nU n g),I 0]⟩) H):aF x Kq [I n,I g] H K:=by
 have hL:=Iw h1 h5
 have hr0:repl ([.slice none 0 0]:List Value) 0=[]:=rfl
 have q3: ¬g<0:=by omega
 have e:decide (1≤(n:Int)∧(n:Int)≤5)=true:=decide_eq_true (by omega)
 rw [nU] at hK
 have hby:= @IQ n
 have hdes:= @IV n
 have hrw:= @DX n g
 have hall:= @afp n
 generalize gI (allL n)=L at hL hK hby hdes hrw hall
 refine bK (.cons .int (.cons .int .nil)) ?_
 refine aG KJ ?_;simp only [bY,aB]
 refine aC ?_
 refine eP fun Kr hKr=>?_
 refine GY ?_
 refine gU (aH @q3 @e) ?_
 refine aO hKr ?_
 refine bV ?_
 refine eP fun Kr hKr=>?_
 refine hall h1 h5 ?_
 refine gU @hr0 ?_
 refine aO hKr ?_
 refine aC ?_
 refine jT ((Gh.fz (i:=0) (cs:=[]) rfl aJ.nil).trans (Gh.qj [] .nil fun j hj=>absurd hj (Nat.not_lt_zero j))) ?_
 refine aW (fun m f H'=> ∃i,i≤L.length∧m=L.length-i∧f 0=I n∧f 1=I g∧f 6=LD n L∧f 7=jA (jC (iC n g (L.take i)))∧f 8=I i∧H'=[]) (L.length) ?_ ?_
 ·refine ⟨_,_,Gh.refl,0,by omega,by omega,?_,?_,?_,?_,?_,?_⟩
  all_goals rfl
 ·rintro m f H' R ⟨i,hi,rfl,g0,g1,g6,g7,g8,rfl⟩ hN hX hR hE
  simp only [bY.l1,aB]
  refine aA (aH @g6 @g8) ?_
  refine bI (i<L.length) (fun hc=>?_) fun hc=>?_
  ·have hil:i<L.length:=by assumption
   have hget:L[i]? =some (L.getD i default):=by simp [List.getD,hil]
   obtain ⟨hb,hw⟩:=hby _ (nJ (d:=default) hil)
   have hd:=hdes _ (nJ (d:=default) hil)
   have hsu:=VI (n:=n) (g:=g) hil
   have hpl:=DW (n:=n) (g:=g) (i:=i) (L:=L)
   have hsl:(jC (iC n g (L.take i))).length≤(iC n g (L.take i)).length:=U5
   have hac: ∀q∈jC (iC n g (L.take i)),∀r∈aP q,r.length<1000000:=fun q hq=>by
    obtain ⟨d',hd',rfl⟩:=List.mem_map.1 (zL.1 hq)
    exact IW (hdes _ (List.mem_of_mem_take (List.mem_filter.1 hd').1))
   have hpr:=IW hd
   have hnF: ∀f' M,f' 0=I n→f' 1=I g→f' 6=LD n L→f' 7=jA (jC (iC n g (L.take (i+1))))→f' 8=I i→T 0 bY.r6 R f' M:=by
    clear g0 g1 g6 g7 g8
    intro f' M g0 g1 g6 g7 g8
    refine jT (Gh.qj [] .nil fun j hj=>absurd hj (Nat.not_lt_zero j)) ?_
    have k0:(fun t=>ren [] (f' t)) 0=I n:=by show ren [] (f' 0)=_;rw [g0];rfl
    have k1:(fun t=>ren [] (f' t)) 1=I g:=by show ren [] (f' 1)=_;rw [g1];rfl
    have k6:(fun t=>ren [] (f' t)) 6=LD n L:=by show ren [] (f' 6)=_;rw [g6];rfl
    have k7:(fun t=>ren [] (f' t)) 7=jA (jC (iC n g (L.take (i+1)))):=by show ren [] (f' 7)=_;rw [g7];rfl
    have k8:(fun t=>ren [] (f' t)) 8=I i:=by show ren [] (f' 8)=_;rw [g8];rfl
    generalize (fun t=>ren [] (f' t))=f2 at k0 k1 k6 k7 k8⊢
    show T 0 _ R f2 []
    refine bM @k8 ?_
    exact hN (L.length-(i+1)) _ _ _ _ (by omega) Gh.refl ⟨i+1,by omega,rfl,ah,ah,ah,ah,ah,rfl⟩
   have hnS: ∀f' M j,f' 0=I n→f' 1=I g→f' 6=LD n L→f' 7=S j 0 (jC (iC n g (L.take (i+1)))).length 1→blk M j=some ((jC (iC n g (L.take (i+1)))).map dw)→f' 8=I i→T 0 bY.r6 R f' M:=by
    clear g0 g1 g6 g7 g8
    intro f' M j g0 g1 g6 g7 hb7 g8
    refine jT (Gh.fz hb7 afi) ?_
    refine hnF _ _ ?_ ?_ ?_ ?_ ?_
    ·show frz _ _ (f' 0)=_;rw [g0];rfl
    ·show frz _ _ (f' 1)=_;rw [g1];rfl
    ·show frz _ _ (f' 6)=_;rw [g6];rfl
    ·show frz _ _ (f' 7)=_;rw [g7];exact nC (by simp)
    ·show frz _ _ (f' 8)=_;rw [g8];rfl
   generalize L.getD i default=d at*
   have hlb:=hb.len
   have fG:=hw.len
   have hn:=hd.1.1
   have hb16:=fun i=>hd.1.jM hlb i
   have hw16:=fun i=>hd.2.1.jM fG i
   have hgl:=Ec (n:=n) hby hget
   have Ed:=afj (n:=n) hby hget
   have Ee:=afk (n:=n) hby hget
   have hgd:1-(jw d.1 d.2 n).tdiv 2=uD n d:=rfl
   refine Oo ?_
   refine dF (bP @g6 @g8 @hgl) fun Kr hKr=>?_
   refine afg hb hw hd ?_
   rw [hgd]
   by_cases hge:uD n d=g
   ·rw [if_pos hge,] at hsu
    rw [hsu,afl] at hnF hnS
    refine gU (aH @g1 @hge) ?_
    refine aO hKr ?_
    refine bV ?_
    refine dF (iy (dh @g0 @g6 @g8 @Ed) @Ee @hgl @aI @aT) fun Kr hKr=>?_
    refine vN hb hd.1 ?_
    refine gU (iy (dh @g0 @g6 @g8 @Ed) @Ee @hgl @aI @aT) ?_
    refine vN hw hd.2.1 ?_
    refine gU (iy (dh @g0 @g6 @g8 @Ed) @Ee @hgl @aI @aT) ?_
    refine OZ hb hw (by omega) hb16 hw16 ?_
    refine gU (iy (dh @g0 @g6 @g8 @Ed) @Ee @hgl @aI @aT) ?_
    refine vN (Ef (by omega)) (qA hd.1 hd.2.1) ?_
    refine aS ?_
    refine aO hKr ?_
    refine afo (cs:=(aP (pF n d)).map FN) rfl kL fun f2 hf=>?_
    have k0:f2 0=I n:=hf 0 (I n) ah
    have k1:f2 1=I g:=hf 1 (I g) ah
    have k6:f2 6=LD n L:=hf 6 (LD n L) ah
    have k7:f2 7=jA (jC (iC n g (L.take i))):=hf 7 (jA (jC (iC n g (L.take i)))) ah
    have k8:f2 8=I i:=hf 8 (I i) ah
    have k9:f2 9=dw (pF n d):=hf 9 (S 0 0 3 1) ah
    have k10:f2 10=I 0:=hf 10 (I 0) ah
    exact afm D8 (by omega) hac hpr k0 k1 k6 k7 k8 k9 k10 (fun f' M e0 e1 e6 e7 e8=>hnF f' M e0 e1 e6 e7 e8) (fun f' M j e0 e1 e6 e7 e8 e9=>hnS f' M j e0 e1 e6 e7 e8 e9)
   ·rw [if_neg hge,List.append_nil] at hsu
    rw [hsu] at hnF
    refine gU (aH @g1 @hge) ?_
    refine aO hKr ?_
    refine jy ?_
    refine zi ?_
    exact hnF _ _ ah ah ah ah ah
  ·refine hX _ _ ?_
   obtain rfl:i=L.length:=by omega
   rw [List.take_length] at g7
   refine aA @g7 ?_
   refine aV ?_
   exact ⟨NN.tuple (aJ.cons .fz (aJ.cons .int .nil)),hK⟩
end Go.Bm.Q5
