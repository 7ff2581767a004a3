/- Calls that do not leave a set of functions, where a function may be handed over and called. -/
import Derived.Test.YtbpfbfbabpkceaaGreatAmIn
set_option linter.unusedVariables false
set_option linter.unusedSimpArgs false
namespace Go.Am
open Go
def Hold (L:List (Nat×Nat)) (f:Fr):Prop:= ∀p∈L,f p.1=undef∨f p.1= .func (.func p.2) #[] #[]
def Eo (L:List (Nat×Nat)) (c:Nat):Opd→Bool
 | .t s=>L.elem (s,c)
 | .f n=>n==c
 | .c _=>false
def WE (fv:Nat→List (Nat×Nat)) (L:List (Nat×Nat)) (g:Nat) (as:List Opd):Bool:=(fv g).all fun p=>match as[p.1]? with|some x=>Eo L p.2 x|none=>true
def Jv (G:Nat→Bool) (fv:Nat→List (Nat×Nat)) (L:List (Nat×Nat)):AOp→Bool
 | .call g as| .callF g as _=>G g&&WE fv L g as
 | .callv (.t s) _=>L.any fun p=>p.1==s&&G p.2&&(fv p.2).isEmpty
 | .callv _ _=>false
 | _=>true
def Ep (L:List (Nat×Nat)) (c:Nat):AOp→Bool
 | .move x=>Eo L c x
 | _=>false
def uI (G:Nat→Bool) (fv:Nat→List (Nat×Nat)) (L:List (Nat×Nat)) (o:AOper):Bool:=Jv G fv L o.op&&L.all fun p=>o.dst !=some p.1||Ep L p.2 o.op
def qG (G:Nat→Bool) (fv:Nat→List (Nat×Nat)) (L:List (Nat×Nat)):ACode→Bool
 | .region _ ops=>ops.all (uI G fv L)
 | .seq a b| .cond _ a b=>qG G fv L a&&qG G fv L b
 | .block _ a| .loop a=>qG G fv L a
 | _=>true
theorem Hold.WG {L:List (Nat×Nat)} {f:Fr} (h:Hold L f) {c:Nat} {x:Opd} (hx:Eo L c x=true):ev f x=undef∨ev f x= .func (.func c) #[] #[]:=by
 cases x with
 |t s=>exact h (s,c) (List.elem_iff.1 hx)
 |c v=>cases hx
 |f n=>
  right
  have:n=c:=by simpa [Eo] using hx
  rw [this]
  rfl
theorem Hold.updO {L:List (Nat×Nat)} {f:Fr} (h:Hold L f) {d:Option Nat} {v:Value} (hv: ∀p∈L,d=some p.1→v=undef∨v= .func (.func p.2) #[] #[]):Hold L (Am.updO f d v):=fun p hp=>by
 cases d with
 |none=>exact h p hp
 |some t=>
  by_cases e:p.1=t
  ·rw [Am.updO,e,upd_same]
   exact hv p hp (by rw [e])
  ·rw [Am.updO,upd_ne _ _ _ _ e]
   exact h p hp
theorem Hold.args {fv:Nat→List (Nat×Nat)} {L:List (Nat×Nat)} {f:Fr} (h:Hold L f) {g:Nat} {as:List Opd} (ha:WE fv L g as=true):Hold (fv g) (frame0 (as.map (ev f))):=fun p hp=>by
 have:=List.all_eq_true.1 ha p hp
 unfold frame0
 rw [List.getD_eq_getElem?_getD,List.getElem?_map]
 cases hx:as[p.1]? with
 |none=>exact .inl rfl
 |some x=>
  rw [hx] at this
  exact h.WG this
theorem Cal.af4 {Γ:Env} {X X':Outer} {G:Nat→Bool} {fv:Nat→List (Nat×Nat)} (hG: ∀g fn,G g=true→Γ g=some fn→qG G fv (fv g) fn.body=true) (hX: ∀g args H v H',G g=true→X g args H v H'→X' g args H v H')
  {g:Nat} {args:List Value} {H:AHeap} {v:Value} {H':AHeap} (h:Cal Γ X g args H v H'):G g=true→Hold (fv g) (frame0 args)→Cal Γ X' g args H v H':=by
 refine Cal.rec (motive_1:=fun c f H ex f' H' _=> ∀L,qG G fv L c=true→Hold L f→Big Γ X' c f H ex f' H'∧Hold L f') (motive_2:=fun d ops f H f' H' _=> ∀L,ops.all (uI G fv L)=true→Hold L f→Ops Γ X' d ops f H f' H'∧Hold L f')
  (motive_3:=fun o f H f' H' _=> ∀L,uI G fv L o=true→Hold L f→One Γ X' o f H f' H'∧Hold L f') (motive_4:=fun g args H v H' _=>G g=true→Hold (fv g) (frame0 args)→Cal Γ X' g args H v H') ?_ ?_ ?_ ?_ ?_ ?_ ?_ ?_ ?_ ?_ ?_ ?_ ?_ ?_ ?_ ?_ ?_ ?_ ?_ ?_ h
 ·intro f H L _ hf;exact ⟨.skip,hf⟩
 ·intro d ops f H f' H' _ ih L hc hf;exact (ih L hc hf).imp .region id
 ·intro a b f H f1 H1 ex f' H' _ _ ih1 ih2 L hc hf
  simp only [qG,Bool.and_eq_true] at hc
  obtain ⟨r1,r2⟩:=ih1 L hc.1 hf
  obtain ⟨r3,r4⟩:=ih2 L hc.2 r2
  exact ⟨.seqN r1 r3,r4⟩
 ·intro a b f H ex f' H' _ hne ih L hc hf
  simp only [qG,Bool.and_eq_true] at hc
  obtain ⟨r1,r2⟩:=ih L hc.1 hf
  exact ⟨.seqX r1 hne,r2⟩
 ·intro c a b f H t ex f' H' hcv _ ih L hc hf
  simp only [qG,Bool.and_eq_true] at hc
  obtain ⟨r1,r2⟩:=ih L (by cases t;exact hc.2;exact hc.1) hf
  exact ⟨.cond hcv r1,r2⟩
 ·intro id a f H ex f' H' _ hne ih L hc hf
  obtain ⟨r1,r2⟩:=ih L hc hf
  exact ⟨.block r1 hne,r2⟩
 ·intro id a f H f' H' _ ih L hc hf
  obtain ⟨r1,r2⟩:=ih L hc hf
  exact ⟨.blockX r1,r2⟩
 ·intro a f H f1 H1 ex f' H' _ _ ih1 ih2 L hc hf
  obtain ⟨r1,r2⟩:=ih1 L hc hf
  obtain ⟨r3,r4⟩:=ih2 L hc r2
  exact ⟨.loopN r1 r3,r4⟩
 ·intro a f H ex f' H' _ hne ih L hc hf
  obtain ⟨r1,r2⟩:=ih L hc hf
  exact ⟨.loopX r1 hne,r2⟩
 ·intro id f H L _ hf;exact ⟨.exit,hf⟩
 ·intro f H L _ hf;exact ⟨.ret,hf⟩
 ·intro d f H L _ hf;exact ⟨.nil,hf⟩
 ·intro d o rest f H f1 H1 f' H' _ hx _ ih1 ih2 L hc hf
  simp only [List.all_cons,Bool.and_eq_true] at hc
  obtain ⟨r1,r2⟩:=ih1 L hc.1 hf
  obtain ⟨r3,r4⟩:=ih2 L hc.2 r2
  exact ⟨.cons r1 hx r3,r4⟩
 ·intro o f H hw L _ hf;exact ⟨.skip hw,hf.updO fun _ _ _=> .inl rfl⟩
 ·intro o f H v H' hw ha L hc hf
  simp only [uI,Bool.and_eq_true] at hc
  refine ⟨.op hw ha,hf.updO fun p hp hd=>?_⟩
  have:=List.all_eq_true.1 hc.2 p hp
  rw [hd] at this
  simp only [bne_self_eq_false,Bool.false_or] at this
  cases ho:o.op with
  |move x=>
   rw [ho] at this ha
   simp only [aOp,Option.some.injEq,Prod.mk.injEq] at ha
   rw [←ha.1]
   exact hf.WG this
  | _=>rw [ho] at this;cases this
 ·intro o f H g args v H' hw ho _ ih L hc hf
  simp only [uI,ho,Jv,Bool.and_eq_true] at hc
  refine ⟨.call hw ho (ih hc.1.1 (hf.args hc.1.2)),hf.updO fun p hp hd=>?_⟩
  have:=List.all_eq_true.1 hc.2 p hp
  rw [hd] at this
  simp [Ep] at this
 ·intro o f H g cap caps args v H' hw ho hgv _ ih L hc hf
  simp only [uI,ho,Bool.and_eq_true] at hc
  obtain ⟨c1,c2⟩:=hc
  have hcap:G cap=true∧fv cap=[]:=by
   cases g with
   |t s=>
    obtain ⟨p,hp,h1⟩:=List.any_eq_true.1 c1
    simp only [Bool.and_eq_true,beq_iff_eq] at h1
    obtain ⟨⟨rfl,h2⟩,h3⟩:=h1
    rcases hf p hp with e|e
    ·exact absurd (hgv.symm.trans e) (by simp [undef])
    ·have:=hgv.symm.trans e
     simp only [Value.func.injEq] at this
     obtain ⟨e1,_⟩:=this
     cases e1
     exact ⟨h2,List.isEmpty_iff.1 h3⟩
   |c v=>cases c1
   |f n=>cases c1
  refine ⟨.callv hw ho hgv (ih hcap.1 (by rw [hcap.2];intro p hp;cases hp)),hf.updO fun p hp hd=>?_⟩
  have:=List.all_eq_true.1 c2 p hp
  rw [hd] at this
  simp [Ep] at this
 ·intro o f H g args fl v H' hw ho _ hs ih L hc hf
  simp only [uI,ho,Jv,Bool.and_eq_true] at hc
  refine ⟨.callF hw ho (ih hc.1.1 (hf.args hc.1.2)) hs,hf.updO fun p hp hd=>?_⟩
  have:=List.all_eq_true.1 hc.2 p hp
  rw [hd] at this
  simp [Ep] at this
 ·intro g fn args H ex f' vs H' hg _ hex hres ih hc hf
  exact .body hg (ih _ (hG g fn hc hg) hf).1 hex hres
 ·intro g args H v H' hx hc hf;exact .outer (hX g args H v H' hc hx)
end Go.Am
