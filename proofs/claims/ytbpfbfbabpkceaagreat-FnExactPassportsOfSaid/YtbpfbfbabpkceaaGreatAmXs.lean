/- What is taken from outside is so in the program: bytes.Compare. -/
import Derived.Test.YtbpfbfbabpkceaaGreatAmChk
import Derived.Test.YtbpfbfbabpkceaaGreatAmX
import Derived.WalkKit
import Derived.ProofKit
import Derived.Lib.Walk
import Derived.Lib.Bytealg
import Derived.Laws.Externs
set_option linter.unusedVariables false
set_option linter.unusedSimpArgs false
namespace Go.Am
open Go Go.Proofs
set_option maxRecDepth 100000 in
set_option maxHeartbeats 1000000 in
theorem ael {va vb:Value} {la lb:ByteArray} {w:World} (ha:(Extern.Bytes.bytesOf va).run Tryz.prog w= .ok la w) (hb:(Extern.Bytes.bytesOf vb).run Tryz.prog w= .ok lb w):
  Calls Tryz.prog 180 #[va,vb] w fun e w'=>e= .returned (.int .i64 (Lib.compareBytes la.data.toList lb.data.toList))∧w'=w:=by
 have hc:(Extern.BytealgCompare.compare #[va,vb]).run Tryz.prog w= .ok (.int .i64 (Lib.compareBytes la.data.toList lb.data.toList)) w:=by
  show Sem.run Tryz.prog (do pure (goInt (Extern.BytealgCompare.cmp (←Extern.Bytes.bytesOf va) (←Extern.Bytes.bytesOf vb)))) w=_
  simp only [Sem.run_bind,ha,hb,Sem.run_pure,Result.andThen]
  rw [Lib.cmp_eq]
  rfl
 go_enter Tryz.func180,Tryz.ntmps180
 go_wp2
 rw [run_callFunc_extern Tryz.func198 (by kernel_rfl) (by kernel_rfl) (by kernel_rfl) (e:=Extern.BytealgCompare.compare) (by kernel_rfl),hc]
 simp only [Result.andThen]
 rw [Oper.upon_value]
 go_wp2
 go_ret
 exact ⟨rfl,rfl⟩
theorem UW {P:Program} {β:Ren} {H:AHeap} {w:World} {v u:Value} {xs:List Int} (hR:Rel φ β H w) (h:BytesAt H v xs) (hv:VR φ β v u):
  (Extern.Bytes.bytesOf u).run P w= .ok ⟨(Lib.bytesOf xs).toArray⟩ w:=by
 obtain ⟨b,o,blk,rfl,hp,hb,hc⟩:=h
 generalize hn:xs.length=n at hv hp
 cases hv with
 |plain h=>simp [plain] at h
 |slice0=>omega
 |slice hL h1 h2=>
  subst hn
  rename_i c g base N
  have hl:=Lib.run_loadBytesX (P:=P) w xs ⟨g,base+o,none⟩ .empty (fun j x hj=>by
   obtain ⟨u,hu,hr⟩:=hR.cell_at hb hL (i:=o+j) (hc j x hj)
   rw [hr.int] at hu
   have e:(⟨g,base+o,none⟩:Addr).add j=⟨g,base+(o+j),none⟩:=by
    unfold Addr.add
    split
    ·rename_i h;simp [h]
    ·simp [Nat.add_assoc]
   rw [e]
   exact hu)
  simpa [Extern.Bytes.bytesOf] using hl
theorem EX: ∀g args H v H',XB g args H v H'→SimCal Tryz.prog φ g args H v H':=by
 rintro g args H v H' ⟨rfl,rfl,a,b,xs,ys,rfl,ha,hb,rfl⟩
 refine ⟨Nat.le_refl _,id,fun q hq=>?_⟩
 have aen:φ uO=some 180:=by kernel_rfl
 rw [aen] at hq
 cases hq
 refine ⟨⟨_,Tryz.func180,by kernel_rfl,by kernel_rfl⟩,fun β us w hR hargs _=>?_⟩
 obtain ⟨hl,hvs⟩:=hargs
 match us,hl,hvs with
 |[va,vb],_,hvs=>
  refine (ael (UW hR ha (hvs 0 a va rfl rfl)) (UW hR hb (hvs 1 b vb rfl rfl))).mono fun e w' ⟨he,hw⟩=>?_
  subst hw
  exact ⟨β,_,he, .plain rfl, .refl hR⟩
end Go.Am
