/- DpNb, DpNc, DpDa, DpDg, BmQ, DpDb, DpDc, DpLz, DpDh, BmR, DpDd, DpEa, DpEb, BmU, BmV, DpDi, DpDj, DpNj -/
import Derived.Test.YtkapkmjofpoebaaGreatBmT
import Derived.Test.YtkapkmjofpoebaaGreatDpG0
import Derived.Test.YtkapkmjofpoebaaGreatDpG1
import Derived.Test.YtkapkmjofpoebaaGreatDpG11
import Derived.Test.YtkapkmjofpoebaaGreatDpG12
import Derived.Test.YtkapkmjofpoebaaGreatDpG13
import Derived.Test.YtkapkmjofpoebaaGreatDpG14
import Derived.Test.YtkapkmjofpoebaaGreatDpG15
import Derived.Test.YtkapkmjofpoebaaGreatDpG2
import Derived.Test.YtkapkmjofpoebaaGreatDpG3
import Derived.Test.YtkapkmjofpoebaaGreatDpG4
import Derived.Test.YtkapkmjofpoebaaGreatDpG6
import Derived.Test.YtkapkmjofpoebaaGreatDpG7
import Derived.Test.YtkapkmjofpoebaaGreatDpG8
import Derived.Test.YtkapkmjofpoebaaGreatDpG9
set_option linter.unusedVariables false
set_option linter.unusedSimpArgs false
set_option linter.unusedSectionVars false
namespace Go.Bm
open Go Go.Am
def bQ (s:List UInt8):Value:= .string (bs s)
def sg (ws:List (List UInt8)) (i:Nat):List UInt8:=ws.getD i []
abbrev rH (ws:List (List UInt8)):Value:=Fz ws.length 1 (ws.map bQ)
theorem uX {s:List UInt8}:NN (bQ s):= .string
theorem sF {ws:List (List UInt8)}:aT (ws.map bQ):= .map fun _=> .string
theorem vX {ws:List (List UInt8)} {k:Nat} (h:k<ws.length):bV none (ws.map bQ) k=some (bQ (sg ws k)):=by
 simp [bV,h,sg,List.getD]
theorem LY {a b:List UInt8}:jB .eql (bQ a) (bQ b)=some (.bool (decide (a=b))):=by
 rw [←La]
 rfl
theorem acC {a b:List UInt8}:jB .neq (bQ a) (bQ b)=some (.bool (decide (¬a=b))):=by
 show some (Value.bool (!(eqS a b)))=_
 rw [La]
 simp
theorem Ho {a b:List UInt8} (h:a.length+b.length≤9223372036854775807):jB .add (bQ a) (bQ b)=some (bQ (a++b)):=by
 simp only [jB,bQ,Dn]
 rw [if_pos h,acg]
theorem acE {a:List UInt8} (h:a.length≤9000000000000000000):jB .add (.string ⟨#[40]⟩) (bQ a)=some (bQ (40::a)):=Ho (a:=[40]) (by rw [List.length_singleton];omega)
theorem aoD {a:List UInt8} (h:a.length≤9000000000000000000):jB .add (.string ⟨#[41]⟩) (bQ a)=some (bQ (41::a)):=Ho (a:=[41]) (by rw [List.length_singleton];omega)
theorem QX {a:List UInt8} (h:a.length≤9000000000000000000):jB .add (bQ a) (.string ⟨#[40]⟩)=some (bQ (a++[40])):=Ho (b:=[40]) (by rw [List.length_singleton];omega)
theorem LZ {a:List UInt8} (h:a.length≤9000000000000000000):jB .add (bQ a) (.string ⟨#[41]⟩)=some (bQ (a++[41])):=Ho (b:=[41]) (by rw [List.length_singleton];omega)
theorem aoU {a b:List UInt8}:jB .lss (bQ a) (bQ b)=some (.bool (kN a b)):=rfl
theorem He {H:BH} {b bytes cn:Nat} {ws:List (List UInt8)} {y:List UInt8} (h:(ws.length+1)*bytes≤140737488355328):app1 (some [bQ y]) (some (ws.map bQ)) H b ws.length bytes cn=some (S H.length 0 (ws.length+1) 1,(H.set b none)++[some ((ws++[y]).map bQ)]):=CG (g:=bQ) rfl h
theorem DN {v:Value} {s:List UInt8}:dG (List.replicate 1 v) [(0,1,bQ s)]=some [bQ s]:=rfl
theorem aoa {xs ys:List (List UInt8)} (hl:xs.length=ys.length) (h: ∀j,j<xs.length→sg xs j=sg ys j):xs=ys:=by
 apply List.ext_getElem hl
 intro j h1 h2
 have:=h j (by omega)
 simpa [sg,List.getD,h1,h2] using this
def qm (H:BH) (v:Value) (xs:List (List UInt8)):Prop:=(v= .slice none 0 0∧xs=[])∨(∃i,v=S i 0 xs.length 1∧blk H i=some (xs.map bQ))∨v=rH xs
theorem qm.own {H:BH} {i:Nat} {xs:List (List UInt8)} (h:blk H i=some (xs.map bQ)):qm H (S i 0 xs.length 1) xs:= .inr (.inl ⟨i,rfl,h⟩)
theorem qm.fz {H:BH} {xs:List (List UInt8)}:qm H (rH xs) xs:= .inr (.inr rfl)
theorem qm.nil {H:BH}:qm H (.slice none 0 0) []:= .inl ⟨rfl,rfl⟩
theorem qm.len {H:BH} {v:Value} {xs:List (List UInt8)} (h:qm H v xs):Cc v=some (I xs.length):=by
 rcases h with ⟨rfl,rfl⟩|⟨i,rfl,_⟩|rfl<;>rfl
theorem qm.get {H:BH} {v:Value} {xs:List (List UInt8)} (h:qm H v xs) {j:Nat} (hj:j<xs.length): ∃p,wW 1 v (I j)=some p∧Ae none H p=some (bQ (sg xs j)):=by
 rcases h with ⟨rfl,rfl⟩|⟨i,rfl,hb⟩|rfl
 ·simp at hj
 ·refine ⟨_,JD (by omega),?_⟩
  rw [JG,hb,JF,vX (by omega)]
  simp
 ·refine ⟨_,JE (by omega),?_⟩
  rw [JH,vX (by omega)]
  simp
end Go.Bm
namespace Go.Bm
open Go Go.Am
def Ord (ws:List (List UInt8)):Prop:= ∀i,i+1<ws.length→kN (sg ws (i+1)) (sg ws i)=false∧sg ws (i+1)≠sg ws i
theorem aoV {x:Bool} {a:List UInt8} {H:BH} {K:Value→BH→Prop} (hK:K (.bool false) H):aJ x afo [bQ a] H K:=by
 refine dw (.cons uX .nil) ?_
 refine bf ahf ?_;simp only [yK,aG]
 refine aB ?_
 refine au @acC ?_
 refine aU ?_
 exact ⟨.bool,by simpa using hK⟩
theorem aoW {x:Bool} {a b:List UInt8} {H:BH} {K:Value→BH→Prop} (hK:K (.bool (kN a b)) H):aJ x afe [bQ a,bQ b] H K:=by
 refine dw (.cons uX (.cons uX .nil)) ?_
 refine bf ag4 ?_;simp only [yG,aG]
 refine aB ?_
 refine dB fun Kr hKr=>?_
 refine aoV ?_
 refine bP @aoU ?_
 refine aI hKr ?_
 refine aU ?_
 exact ⟨.bool,hK⟩
theorem HNs {ws:List (List UInt8)}:HN [some (ws.map bQ)]:= .cons sF .nil
theorem insertionSort_str {ws:List (List UInt8)} {K:Value→BH→Prop} (hp:ws.length≤1000000) (ho:Ord ws) (hK:K (.tuple ⟨[]⟩) [some (ws.map bQ)]):
  aJ false afd [S 0 0 ws.length 1,I 0,I ws.length] [some (ws.map bQ)] K:=by
 refine bf ag3 ?_;simp only [lu,aG]
 refine aB ?_
 refine A8 ?_
 refine bM (fun m f H'=> ∃i:Nat,1≤i∧m=ws.length-i∧f 0=S 0 0 ws.length 1∧f 1=I 0∧f 2=I ws.length∧f 6=I i∧H'=[some (ws.map bQ)]) (ws.length-1) ?_ ?_
 ·exact ⟨_,_,Gh.refl,1,by omega,by omega,ah,ah,ah,ah,rfl⟩
 ·rintro m f H' R ⟨i,hi1,rfl,g0,g1,g2,g6,rfl⟩ hN hX hR hE
  simp only [lu.l1,aG]
  refine au (aC @g2 @g6) ?_
  refine aV (i<ws.length) (fun hc=>?_) fun hc=>?_
  ·obtain ⟨j,rfl⟩: ∃j,i=j+1:=⟨i-1,by omega⟩
   have hlt:=(ho j hc).1
   have e1:((j+1:Nat):Int)-1=(j:Int):=by omega
   have e0:(0:Int)<((j+1:Nat):Int):=by omega
   refine bK ?_
   refine au @g6 ?_
   refine bM (fun m f H'=>m=0∧f 0=S 0 0 ws.length 1∧f 1=I 0∧f 2=I ws.length∧f 6=I ((j+1:Nat):Int)∧f 7=I ((j+1:Nat):Int)∧H'=[some (ws.map bQ)]) (0) ?_ ?_
   ·exact ⟨_,_,Gh.refl,rfl,ah,ah,ah,ah,ah,rfl⟩
   ·clear g0 g1 g2 g6
    rintro m f H' R2 ⟨rfl,g0,g1,g2,g6,g7,rfl⟩ iG hX2 hR2 hE2
    simp only [lu.l0,aG]
    refine aY (jM @g0 @g1 @g7 @e1 @e0 @vX) fun Kr hKr=>?_
    refine aoW ?_
    rw [hlt]
    refine aO ?_
    refine aI hKr ?_
    refine bY ?_
    refine hX2 _ _ ?_
    refine bI @g6 ?_
    exact hN (ws.length-(j+1+1)) _ _ _ _ (by omega) Gh.refl ⟨j+1+1,by omega,rfl,ah,ah,ah,ah,rfl⟩
  ·refine hX _ _ ?_
   refine wL ?_
   refine aU ?_
   exact hK
theorem aoX {ws:List (List UInt8)} {l:Int} {K:Value→BH→Prop} (hp:ws.length≤12) (ho:Ord ws) (hK:K (.tuple ⟨[]⟩) [some (ws.map bQ)]):
  aJ false aeX [S 0 0 ws.length 1,I 0,I ws.length,I l] [some (ws.map bQ)] K:=by
 refine bf agH ?_;simp only [dD,aG]
 refine aB ?_
 refine aB ?_
 refine A8 ?_
 refine bM (fun m f H'=>m=0∧f 0=S 0 0 ws.length 1∧f 1=I 0∧f 2=I ws.length∧H'=[some (ws.map bQ)]) (0) ?_ ?_
 ·exact ⟨_,_,Gh.refl,rfl,ah,ah,ah,rfl⟩
 ·rintro m f H' R ⟨rfl,g0,g1,g2,rfl⟩ hN hX hR hE
  simp only [dD.l0,aG]
  refine zU ?_
  refine iE ?_
  have hbl:(ws.length:Int)-0=(ws.length:Int):=by omega
  refine au (aX @g1 @g2 @hbl) ?_
  refine aB ?_
  refine dI ?_
  refine aY (aX @g0 @g1 @g2) fun Kr hKr=>?_
  refine insertionSort_str (by omega) ho ?_
  refine aO ?_
  refine aI hKr ?_
  refine lq ?_
  refine hR _ _ ?_
  refine aU ?_
  exact hK
theorem Sort_str {ws:List (List UInt8)} {K:Value→BH→Prop} (hp:ws.length≤12) (ho:Ord ws) (hK:K (.tuple ⟨[]⟩) [some (ws.map bQ)]):
  aJ false Ua [S 0 0 ws.length 1] [some (ws.map bQ)] K:=by
 refine bf af5 ?_;simp only [yu,aG]
 refine aB ?_
 refine oQ fun Kr hKr=>?_;simp (disch:=omega) only [RA,↓reduceIte,Nat.reduceEqDiff,RD,wu64]
 refine QC (by omega) ?_
 refine aO ?_
 refine aoX hp ho ?_
 refine aO ?_
 refine hKr _ _ ?_;clear hKr Kr
 refine aU ?_
 exact hK
theorem anY {ws:List (List UInt8)} {i:Nat} {H:BH} {K:Value→BH→Prop} (hb:blk H i=some (ws.map bQ)) (hp:ws.length≤12) (ho:Ord ws) (hK:K (.tuple ⟨[]⟩) (H.set i (some (ws.map bQ)))):
  aJ false Ua [S i 0 ws.length 1] H K:=by
 refine uf hb sF ?_
 have e:([S i 0 ws.length 1]:List Value).map (ren [i])=[S 0 0 ws.length 1]:=by simp [ren,nU,nm]
 rw [e]
 exact Sort_str hp ho ⟨NN.tuple aT.nil,HNs,hK⟩
theorem anZ {ws:List (List UInt8)} {i:Nat} {H:BH} {K:Value→BH→Prop} (hb:blk H i=some (ws.map bQ)) (hp:ws.length≤1000000) (ho:Ord ws) (hK:K (S i 0 ws.length 1) H):
  aJ false aez [S i 0 ws.length 1] H K:=by
 refine bf af6 ?_;simp only [fP,aG]
 refine aB ?_
 refine aB ?_
 refine aV (ws.length<2) (fun hc=>?_) fun hc=>?_
 ·refine aB ?_
  refine aU ?_
  exact hK
 refine aB ?_
 refine bM (fun m f H'=> ∃k:Nat,k+1≤ws.length∧m=ws.length-(k+1)∧f 0=S i 0 ws.length 1∧f 3=I ((k+1:Nat):Int)∧H'=H) (ws.length-1) ?_ ?_
 ·exact ⟨_,_,Gh.refl,0,by omega,by omega,ah,ah,rfl⟩
 ·rintro m f H' R ⟨k,hk,rfl,g0,g3,rfl⟩ hN hX hR hE
  simp only [fP.l1,aG]
  refine au (aC @g0 @g3) ?_
  refine aV (k+1<ws.length) (fun hc=>?_) fun hc=>?_
  ·have hne:=(ho k (by omega)).2
   have e1:((k+1:Nat):Int)-1=(k:Int):=by omega
   have e2:((k+1:Nat):Int)+1=((k+1+1:Nat):Int):=by omega
   refine bK ?_
   refine au (bG (bG @g0 @g3 @e1 @hb) @vX @LY @hne) ?_
   refine bY ?_
   refine bI (aC @g3 @e2) ?_
   exact hN (ws.length-(k+1+1)) _ _ _ _ (by omega) Gh.refl ⟨k+1,by omega,rfl,ah,ah,rfl⟩
  ·refine hX _ _ ?_
   refine au @g0 ?_
   refine aU ?_
   exact hK
end Go.Bm
namespace Go.Bm
open Go Go.Am
abbrev U64 (h:Int):Value:= .int .u64 h
def SC (code:List Nat) (a:Nat) (h:Int):List Value:=[Fz code.length 1 (code.map N8),I a,U64 h]
section
variable {code:List Nat} {a b:Nat} {h:Int} {H:BH}
theorem adt:bV none (SC code a h) 0=some (Fz code.length 1 (code.map N8)):=rfl
theorem Si:bV none (SC code a h) 1=some (I a):=rfl
theorem Sj:bV none (SC code a h) 2=some (U64 h):=rfl
theorem aoY {x:Nat}:fQ (some (SC code a h)) H b 1 1 (.int .i64 (x:Int))=some (undef,H.set b (some (SC code x h))):=by
 rw [CB rfl rfl rfl (by simp [SC])]
 rfl
theorem Sm {x:Int}:fQ (some (SC code a h)) H b 2 1 (.int .u64 x)=some (undef,H.set b (some (SC code a x))):=by
 rw [CB rfl rfl rfl (by simp [SC])]
 rfl
theorem aoZ {x:Int}:dG [.slice none 0 0, .int .i64 0, .int .u64 0] [(0,1,Fz code.length 1 (code.map N8)),(2,1, .int .u64 x)]=some (SC code 0 x):=by
 simp [dG,iq,SC,splice,Fz]
theorem mF:aT (SC code a h):=aT.cons .fz (aT.cons .int (aT.cons .int aT.nil))
theorem adu {x:Int}:0≤IntKind.u64.wrap ((BitVec.ofInt IntKind.u64.bits x&&&BitVec.ofInt IntKind.u64.bits 16777215).toNat:Int)∧IntKind.u64.wrap ((BitVec.ofInt IntKind.u64.bits x&&&BitVec.ofInt IntKind.u64.bits 16777215).toNat:Int)≤16777215:=by
 have h1:(BitVec.ofInt IntKind.u64.bits x&&&BitVec.ofInt IntKind.u64.bits 16777215).toNat≤16777215:=by
  rw [BitVec.toNat_and]
  exact Nat.le_trans Nat.and_le_right (by decide)
 have h2:IntKind.u64.wrap ((BitVec.ofInt IntKind.u64.bits x&&&BitVec.ofInt IntKind.u64.bits 16777215).toNat:Int)=((BitVec.ofInt IntKind.u64.bits x&&&BitVec.ofInt IntKind.u64.bits 16777215).toNat:Int):=by
  generalize (BitVec.ofInt IntKind.u64.bits x&&&BitVec.ofInt IntKind.u64.bits 16777215).toNat=k at h1
  exact wu64 (by omega) (by omega)
 rw [h2]
 omega
theorem ao0 {n:Int} {K:Value→BH→Prop} (ha:a≤code.length) (hl:code.length≤1048576) (hcd: ∀i,nl code i<256) (hn:n<4611686018427387904)
  (hK: ∀v a' h',a'≤code.length→0≤v→v≤16777470→(0<n→v<n)→(n<1→v=0)→K (I v) [some (SC code a' h')]):aJ false Ud [P 0 0,I n] [some (SC code a h)] K:=by
 refine bf agm ?_;simp only [lM,aG]
 refine aB ?_
 refine aB ?_
 refine aV (n<1) (fun hc=>?_) fun hc=>?_
 ·refine aB ?_
  refine aU ?_
  exact hK 0 a h ha (by omega) (by omega) (fun h=>by omega) (fun _=>rfl)
 ·refine au (aC @Sj @Sm) ?_
  generalize IntKind.u64.wrap (IntKind.u64.wrap (h*6364136223846793005)+1442695040888963407)=h2
  refine au (aC @Sj @Sm) ?_
  obtain ⟨y,hy,hy0,hy1⟩: ∃y,IntKind.u64.wrap ((BitVec.ofInt IntKind.u64.bits (h2.fdiv (2^min 33 IntKind.u64.bits))&&&BitVec.ofInt IntKind.u64.bits 16777215).toNat:Int)=y∧0≤y∧y≤16777215:=⟨_,rfl,adu.1,adu.2⟩
  rw [hy]
  have hyw:IntKind.i64.wrap y=y:=BA (by omega) (by omega)
  rw [hyw]
  have hend: ∀f' y' a',0≤y'→y'≤16777470→a'≤code.length→f' 1=I n→f' 5=I y'→T 1 (.seq lM.r8 .ret) (jq 1 [.tmp 4] K) f' [some (SC code a' h2)]:=by
   intro f' y' a' k1 k2 k3 g1 g5
   have hn0:n≠0:=by omega
   refine au (aX @g1 @g5 @hn0) ?_
   refine aU ?_
   have t1:=Int.tmod_nonneg n k1
   have t2:=Int.tmod_lt_of_pos y' (show 0<n by omega)
   have t3:y'.tmod n≤y':=by
    rw [Int.tmod_eq_emod_of_nonneg k1]
    have q:=Int.mul_ediv_add_emod y' n
    have q2:=Int.mul_nonneg (show 0≤n by omega) (Int.ediv_nonneg k1 (show 0≤n by omega))
    omega
   exact hK _ a' h2 k3 t1 (by omega) (fun _=>t2) (fun h=>by omega)
  refine au (aC @Si @adt) ?_
  refine aV (a<code.length) (fun hc=>?_) fun hc=>?_
  ·have hcc:=hcd a
   refine au (aC @Si @adt) ?_
   have e1:((a:Nat):Int)+1=((a+1:Nat):Int):=by omega
   refine au (aX @Si @e1 @aoY) ?_
   exact hend _ (y+nl code a) (a+1) (by omega) (by omega) (by omega) ah ah
  ·exact hend _ y a (by omega) (by omega) ha ah ah
theorem oN {n:Int} {i:Nat} {K:Value→BH→Prop} (hb:blk H i=some (SC code a h)) (ha:a≤code.length) (hl:code.length≤1048576) (hcd: ∀i,nl code i<256) (hn:n<4611686018427387904)
  (hK: ∀v a' h',a'≤code.length→0≤v→v≤16777470→(0<n→v<n)→(n<1→v=0)→K (I v) (H.set i (some (SC code a' h')))):aJ false Ud [P i 0,I n] H K:=by
 refine uf hb mF ?_
 have e:([P i 0,I n]:List Value).map (ren [i])=[P 0 0,I n]:=by simp [ren,nU,nm]
 rw [e]
 exact ao0 ha hl hcd hn fun v a' h' k1 k2 k3 k4 k5=>⟨.int,HN.cons mF HN.nil,hK v a' h' k1 k2 k3 k4 k5⟩
theorem ao1 (hl:code.length≤1048576) (hcd: ∀i,nl code i<256):aJ false TU [Fz code.length 1 (code.map N8)] [] fun v H1=> ∃j h,v=P j 0∧blk H1 j=some (SC code 0 h):=by
 refine bf afW ?_;simp only [mM,aG]
 refine aB ?_
 refine au @aoZ ?_
 refine aB ?_
 refine bM (fun d f H'=> ∃i h,i≤code.length∧d=code.length-i∧f 0=Fz code.length 1 (code.map N8)∧f 3=P 0 0∧f 4=I i∧H'=[some (SC code 0 h)]) (code.length) ?_ ?_
 ·exact ⟨_,_,Gh.refl,0,_,by omega,by omega,ah,ah,ah,rfl⟩
 ·rintro d f H' R ⟨i,h,hi,rfl,g0,g3,g4,rfl⟩ hN hX hR hE
  simp only [mM.l0,aG]
  by_cases h1:i<code.length
  ·by_cases h2:i<4096
   ·have hcc:=hcd i
    refine au (aC @g0 @g4) ?_
    refine dI ?_
    refine bK ?_
    refine au (jk @g0 @g3 @g4 @Sj @Sm) ?_
    refine bI @g4 ?_
    exact hN (code.length-(i+1)) _ _ _ _ (by omega) Gh.refl ⟨i+1,_,by omega,rfl,ah,ah,ah,rfl⟩
   ·refine au (aC @g0 @g4) ?_
    refine bY ?_
    refine hX _ _ ?_
    refine au @g3 ?_
    refine aU ?_
    exact ⟨0,h,rfl,rfl⟩
  ·refine au (aC @g0 @g4) ?_
   refine bY ?_
   refine hX _ _ ?_
   refine au @g3 ?_
   refine aU ?_
   exact ⟨0,h,rfl,rfl⟩
theorem Hq {x:Bool} {K:Value→BH→Prop} (hl:code.length≤1048576) (hcd: ∀i,nl code i<256) (hK: ∀h,K (P H.length 0) (H++[some (SC code 0 h)])):
  aJ x TU [Fz code.length 1 (code.map N8)] H K:=
 O7 (.cons .fz .nil) ((ao1 hl hcd).mono fun v H1 ⟨j,h,h1,h2⟩=>⟨j,_,_,fun ρ ρ' Z u hr hv=>by
  rw [h1] at hv
  obtain ⟨b,hb,rfl⟩:=hv.nR
  exact .ptr (by rw [hr];exact hb),h2,mF,hK h⟩)
theorem uo {xs:List Int} {i:Nat} {K:Value→BH→Prop} (hb:blk H i=some (SC code a h)) (ha:a≤code.length) (hl:code.length≤1048576) (hcd: ∀i,nl code i<256) (h0:0<xs.length) (hx:xs.length≤1000)
  (hK: ∀k a' h',k<xs.length→a'≤code.length→K (I (el xs k)) (H.set i (some (SC code a' h')))):aJ false aes [P i 0,Fz xs.length 1 (xs.map I)] H K:=by
 refine uf hb mF ?_
 have e:([P i 0,Fz xs.length 1 (xs.map I)]:List Value).map (ren [i])=[P 0 0,Fz xs.length 1 (xs.map I)]:=by simp [ren,nU,nm,Fz]
 rw [e]
 refine bf afY ?_;simp only [yh,aG]
 refine aB ?_
 refine dB fun Kr hKr=>?_
 refine oN (i:=0) rfl ha hl hcd (by omega) fun v a' h' k1 k2 k3 k4 k5=>?_
 have hv:=k4 (by omega)
 obtain ⟨k,rfl⟩: ∃k:Nat,v=k:=⟨v.toNat,by omega⟩
 refine aO ?_
 refine aI hKr ?_
 refine aU ?_
 exact ⟨.int,HN.cons mF HN.nil,hK k a' h' (by omega) k1⟩
end
end Go.Bm
namespace Go.Bm
open Go Go.Am
def pz:Nat→List Nat
 |0=>dF
 |i+1=>(pz i).set i i
def pF (n:Nat):Nat→List Nat
 |0=>dF
 |i+1=>(pF n i).set i ((i+1)%n)
theorem adv {i:Nat}:nl dF i=0:=by rw [dF,xk];split<;>rfl
theorem xW {k:Nat}:(pz k).length=16:=by
 induction k with
 |zero=>exact kM
 |succ k ih=>rw [pz,List.length_set,ih]
theorem DW {n k:Nat}:(pF n k).length=16:=by
 induction k with
 |zero=>exact kM
 |succ k ih=>rw [pF,List.length_set,ih]
theorem Bj {k i:Nat} (hk:k≤16):nl (pz k) i=if i<k then i else 0:=by
 induction k with
 |zero=>rw [pz,adv,if_neg (by omega)]
 |succ k ih=>
  rw [pz,rW,ih (by omega),xW]
  by_cases e:i=k
  ·subst e;rw [if_pos ⟨rfl,by omega⟩,if_pos (by omega)]
  ·rw [if_neg (by omega)]
   by_cases h:i<k
   ·rw [if_pos h,if_pos (by omega)]
   ·rw [if_neg h,if_neg (by omega)]
theorem D7 {n k i:Nat} (hk:k≤16):nl (pF n k) i=if i<k then (i+1)%n else 0:=by
 induction k with
 |zero=>rw [pF,adv,if_neg (by omega)]
 |succ k ih=>
  rw [pF,rW,ih (by omega),DW]
  by_cases e:i=k
  ·subst e;rw [if_pos ⟨rfl,by omega⟩,if_pos (by omega)]
  ·rw [if_neg (by omega)]
   by_cases h:i<k
   ·rw [if_pos h,if_pos (by omega)]
   ·rw [if_neg h,if_neg (by omega)]
theorem DU {k:Nat} (hk:k≤16):By 16 (pz k):=⟨xW,fun i=>by rw [Bj hk];split<;>omega⟩
theorem acI {n k:Nat} (hn:1≤n∧n≤16) (hk:k≤16):By 16 (pF n k):=⟨DW,fun i=>by
 rw [D7 hk]
 have:=Nat.mod_lt (i+1) (show 0<n by omega)
 split<;>omega⟩
theorem Perm.of {p:List Nat} {n:Nat} (hn:1≤n∧n≤16) (h0: ∀i,n≤i→i<16→nl p i=0) (h1: ∀i,i<n→nl p i<n) (h2: ∀i j,i<n→j<i→nl p j≠nl p i):Perm p n:=
 ⟨by omega,fun i hi=>⟨fun h=>h0 i (by omega) hi,fun h=>⟨by have:=h1 i (by omega);omega,fun j hj=>h2 i j (by omega) hj⟩⟩⟩
theorem Perm.zero {p:List Nat} {n:Nat} (h:Perm p n) {i:Nat} (h1:n≤i) (h2:i<16):nl p i=0:=(h.2 i h2).1 (by omega)
theorem Sr {n:Nat} (hn:1≤n∧n≤16):Perm (pz n) n:= .of hn
 (fun i h1 h2=>by rw [Bj hn.2,if_neg (by omega)]) (fun i h=>by rw [Bj hn.2,if_pos h];exact h)
 (fun i j h1 h2=>by rw [Bj hn.2,Bj hn.2,if_pos h1,if_pos (by omega)];omega)
theorem mod_one {n i:Nat} (h:i<n):(i+1)%n=if i+1=n then 0 else i+1:=by
 split
 ·rename_i e;rw [e,Nat.mod_self]
 ·exact Nat.mod_eq_of_lt (by omega)
theorem ao2 {n:Nat} (hn:1≤n∧n≤16):Perm (pF n n) n:= .of hn
 (fun i h1 h2=>by rw [D7 hn.2,if_neg (by omega)]) (fun i h=>by rw [D7 hn.2,if_pos h];exact Nat.mod_lt _ (by omega))
 (fun i j h1 h2=>by
  rw [D7 hn.2,D7 hn.2,if_pos h1,if_pos (by omega),mod_one h1,mod_one (by omega)]
  split<;>split<;>omega)
theorem Perm.swap {p:List Nat} {n:Nat} (h:Perm p n) (hl:p.length=16) {i k:Nat} (hi:i<n) (hk:k<n):Perm ((p.set i (nl p k)).set k (nl p i)) n:=by
 have hn:=h.1
 have e: ∀j,nl ((p.set i (nl p k)).set k (nl p i)) j=if j=k then nl p i else if j=i then nl p k else nl p j:=fun j=>by
  rw [rW,rW,List.length_set,hl]
  by_cases e1:j=k
  ·rw [if_pos ⟨e1,by omega⟩,if_pos e1]
  ·rw [if_neg (by omega),if_neg e1]
   by_cases e2:j=i
   ·rw [if_pos ⟨e2,by omega⟩,if_pos e2]
   ·rw [if_neg (by omega),if_neg e2]
 refine .of (by omega) (fun j h1 h2=>?_) (fun j hj=>?_) (fun j j' hj hj'=>?_)
 ·rw [e,if_neg (by omega),if_neg (by omega)];exact h.zero h1 h2
 ·rw [e];split
  ·exact h.lt hi
  ·split
   ·exact h.lt hk
   ·exact h.lt hj
 ·rw [e,e]
  intro he
  have key: ∀a b,a<n→b<n→nl p a=nl p b→a=b:=fun a b ha hb hab=>h.inj ha hb hab
  split at he<;>split at he<;>(try split at he)<;>(try split at he)
  all_goals first
   |(have:=key _ _ (by omega) (by omega) he;omega)
theorem bC.turn {w:List Nat} {n:Nat} (hn:1≤n∧n≤16) (hw:Perm w n):bC n (pF n n) w:=by
 have hb:=ao2 hn
 refine ⟨hb,hw,?_⟩
 have h0:=Kw hb hw (x:=0) (by omega)
 have hcl:=aaj hb hw (x:=0) (by omega)
 have hin:0∈ord (pF n n) w 0:=by
  obtain ⟨r,hr⟩:=h0.pre
  rw [ord,hr]
  simp
 have hall: ∀y,y<n→y∈ord (pF n n) w 0:=by
  intro y
  induction y with
  |zero=>exact fun _=>hin
  |succ y ih=>
   intro hy
   have:=(hcl y (ih (by omega))).1
   rwa [D7 hn.2,if_pos (by omega),mod_one (by omega),if_neg (by omega)] at this
 have h1:=xB h0.jX h0.lt
 have h2:=List.Nodup.length_le_of_subset (List.nodup_range (n:=n)) (l₂:=ord (pF n n) w 0) fun y hy=>hall y (List.mem_range.1 hy)
 rw [List.length_range] at h2
 have e:(Bm.reach (pF n n) w).2.length=n:=Nat.le_antisymm h1 h2
 show ((Bm.reach (pF n n) w).2.length:Int)=n
 omega
theorem Hg {x:Bool} {n:Int} {H:BH} {K:Value→BH→Prop} (hn:n≤16) (hK:K (PL (pz n.toNat)) H):aJ x ae9 [I n] H K:=by
 have hz:=kM
 refine dw (by simp only [RH]) ?_
 refine bf agY ?_;simp only [mV,aG]
 refine aB ?_
 refine aB ?_
 refine aB ?_
 refine bM (fun m f H'=> ∃k:Nat,k≤n.toNat∧m=n.toNat-k∧f 0=I n∧f 2=P 0 0∧f 3=P 1 0∧f 4=I k∧H'=[some (List.replicate 16 (.int .u8 0)),some ((pz k).map N8)]) (n.toNat) ?_ ?_
 ·exact ⟨_,_,Gh.refl,0,by omega,by omega,ah,ah,ah,ah,rfl⟩
 ·rintro m f H' R ⟨k,hk,rfl,g0,g2,g3,g4,rfl⟩ hN hX hR hE
  simp only [mV.l0,aG]
  have hlk:= @xW k
  refine au (aC @g0 @g4) ?_
  refine aV ((k:Int)<n) (fun hc=>?_) fun hc=>?_
  ·have Rt:k<16:=by omega
   refine bK ?_
   refine au (aX @g3 @g4 @hlk) ?_
   refine bI @g4 ?_
   exact hN (n.toNat-(k+1)) _ _ _ _ (by omega) Gh.refl ⟨k+1,by omega,rfl,ah,ah,ah,ah,rfl⟩
  ·refine hX _ _ ?_
   obtain rfl:k=n.toNat:=by omega
   refine au (aX @g2 @g3 @hlk) ?_
   refine lD (aC @g2 @hlk) ?_
   exact ⟨oG (by (simp only [RH])),hK⟩
theorem ao3 {x:Bool} {n:Nat} {H:BH} {K:Value→BH→Prop} (hn:1≤n∧n≤16) (hK:K (PL (pF n n)) H):aJ x afi [I n] H K:=by
 have hz:=kM
 refine dw (by simp only [RH]) ?_
 refine bf ag9 ?_;simp only [mW,aG]
 refine aB ?_
 refine aB ?_
 refine aB ?_
 refine bM (fun m f H'=> ∃k:Nat,k≤n∧m=n-k∧f 0=I n∧f 2=P 0 0∧f 3=P 1 0∧f 4=I k∧H'=[some (List.replicate 16 (.int .u8 0)),some ((pF n k).map N8)]) (n) ?_ ?_
 ·exact ⟨_,_,Gh.refl,0,by omega,by omega,ah,ah,ah,ah,rfl⟩
 ·rintro m f H' R ⟨k,hk,rfl,g0,g2,g3,g4,rfl⟩ hN hX hR hE
  simp only [mW.l0,aG]
  have hlk:= @DW n k
  refine au (aC @g0 @g4) ?_
  refine aV (k<n) (fun hc=>?_) fun hc=>?_
  ·have Rt:k<16:=by omega
   have hn0:(n:Int)≠0:=by omega
   have hm:=Nat.mod_lt (k+1) (show 0<n by omega)
   have e1:((k:Nat):Int)+1=((k+1:Nat):Int):=by omega
   have e2:(((k+1:Nat):Int)).tmod (n:Int)=(((k+1)%n:Nat):Int):=Int.ofNat_tmod (k+1) n
   refine bK ?_
   refine au (bG (bG @g0 @g3 @g4 @hlk) @hn0 @e1 @e2) ?_
   refine bI @g4 ?_
   exact hN (n-(k+1)) _ _ _ _ (by omega) Gh.refl ⟨k+1,by omega,rfl,ah,ah,ah,ah,rfl⟩
  ·refine hX _ _ ?_
   obtain rfl:k=n:=by omega
   refine au (aX @g2 @g3 @hlk) ?_
   refine lD (aC @g2 @hlk) ?_
   exact ⟨oG (by (simp only [RH])),hK⟩
theorem acH {x:Bool} {n:Nat} {H:BH} {K:Value→BH→Prop} (hn:1≤n∧n≤16) (hK:K (DV n (pF n n) (pz n)) H):aJ x ae2 [I n] H K:=by
 have h1:= @DW n n
 have h2:= @xW n
 have hz:=kM
 refine dw (by simp only [RH]) ?_
 refine bf agO ?_;simp only [yD,aG]
 refine au @aH ?_
 refine aY (aC @aH @aK) fun Kr hKr=>?_
 refine ao3 hn ?_
 refine bP (aC @aH @aK) ?_
 refine Hg (by omega) ?_
 refine bP (aC @aH @aK) ?_
 refine aI hKr ?_
 refine lD (aC @aH @aK) ?_
 exact ⟨fC,hK⟩
section
variable {code:List Nat} {a:Nat} {h:Int}
theorem ou:aT (SC code a h)=True:=eq_true mF
theorem ao4 {n:Nat} {K:Value→BH→Prop} (ha:a≤code.length) (hl:code.length≤1048576) (hcd: ∀i,nl code i<256) (hn:1≤n∧n≤16)
  (hK: ∀p a' h',By 16 p→Perm p n→a'≤code.length→K (PL p) [some (SC code a' h')]):aJ false Um [P 0 0,I n] [some (SC code a h)] K:=by
 have hz:=kM
 have hil:= @xW n
 refine bf agX ?_;simp only [jF,aG]
 refine aB ?_
 refine dB fun Kr hKr=>?_
 refine Hg (by omega) ?_
 refine aO ?_
 refine aI hKr ?_
 refine dB fun Kr hKr=>?_
 refine oN (i:=0) rfl ha hl hcd (by omega) fun v a h hA k2 k3 k4 k5=>?_
 clear ha
 refine aO ?_
 refine aI hKr ?_
 have e0:(n:Int)-1=((n-1:Nat):Int):=by omega
 refine aV (v=0) (fun hc=>?_) fun hc=>?_
 ·refine aB ?_
  refine ji (by simp (disch:=omega) only [RA,↓reduceIte,Nat.reduceEqDiff,RD,dS,gJ,hz];rfl) (dK.nrm [0] rfl rfl (by simp only [RH,ou]) (by simp only [aF,RH])) ?_;simp only [aF]
  exact hK _ _ _ (DU hn.2) (Sr hn) hA
 ·clear hc
  refine au @e0 ?_
  refine bM (fun m f H'=> ∃i a' h' p,i<n∧m=i∧a'≤code.length∧By 16 p∧Perm p n∧f 0=P 0 0∧f 4=P 1 0∧f 5=P 2 0∧f 6=I i∧H'=[some (SC code a' h'),some (List.replicate 16 (.int .u8 0)),some (p.map N8)]) (n-1) ?_ ?_
  ·exact ⟨_,_,Gh.refl,n-1,a,h,pz n,by omega,rfl,hA,DU hn.2,Sr hn,ah,ah,ah,ah,rfl⟩
  ·clear hA k2 k3 k4 k5 v
   rintro i f H' R ⟨_,a,h,p,hi,rfl,hA,hb,hp,g0,g4,g5,g6,rfl⟩ hN hX hR hE
   simp only [jF.l0,aG]
   have hlp:=hb.len
   refine au @g6 ?_
   refine aV (0<i) (fun hc=>?_) fun hc=>?_
   ·have e1:((i:Nat):Int)+1=((i+1:Nat):Int):=by omega
    have e2:((i:Nat):Int)-1=((i-1:Nat):Int):=by omega
    refine bK ?_
    refine aY (aX @g0 @g6 @e1) fun Kr hKr=>?_
    refine oN (i:=0) rfl hA hl hcd (by omega) fun v a h hA k2 k3 k4 k5=>?_
    have hv:=k4 (by omega)
    obtain ⟨k,rfl⟩: ∃k:Nat,v=k:=⟨v.toNat,by omega⟩
    have hpi:=hb.lt i
    have hpk:=hb.lt k
    have hs:=hp.swap hlp (i:=i) (k:=k) hi (by omega)
    have hl2:(p.set i (nl p k)).length=16:=by rw [List.length_set,hlp]
    refine aO ?_
    refine aI hKr ?_
    refine au (aX @g5 @g6 @hlp) ?_
    refine au (aX @g5 @g6 @hlp) ?_
    refine au (aX @g5 @hl2 @hlp) ?_
    refine bI @g6 ?_
    exact hN (i-1) _ _ _ _ (by omega) Gh.refl ⟨i-1,a,h,_,by omega,rfl,hA,(hb.set hpk).set hpi,hs,ah,ah,ah,ah,rfl⟩
   ·refine hX _ _ ?_
    refine au (aX @g4 @g5 @hlp) ?_
    refine ji (by simp (disch:=omega) only [RA,↓reduceIte,Nat.reduceEqDiff,RD,dS,gJ,g4,hlp];rfl) (dK.nrm [0] rfl rfl (by simp only [RH,ou]) (by simp only [aF,RH])) ?_;simp only [aF]
    exact hK _ _ _ hb hp hA
theorem QY {n:Nat} {i:Nat} {H:BH} {K:Value→BH→Prop} (hb:blk H i=some (SC code a h)) (ha:a≤code.length) (hl:code.length≤1048576) (hcd: ∀i,nl code i<256) (hn:1≤n∧n≤16)
  (hK: ∀p a' h',By 16 p→Perm p n→a'≤code.length→K (PL p) (H.set i (some (SC code a' h')))):aJ false Um [P i 0,I n] H K:=by
 refine uf hb mF ?_
 have e:([P i 0,I n]:List Value).map (ren [i])=[P 0 0,I n]:=by simp [ren,nU,nm]
 rw [e]
 exact ao4 ha hl hcd hn fun p a' h' k1 k2 k3=>⟨oG (by (simp only [RH])),HN.cons mF HN.nil,hK p a' h' k1 k2 k3⟩
end
end Go.Bm
namespace Go.Bm
open Go Go.Am
def rP (g:Value→Value) (H:BH):BH:=H.map (Option.map (List.map g))
theorem adw {g:Value→Value} {H:BH} {j:Nat} {cs:List Value} (h:blk (rP g H) j=some cs): ∃cs0,blk H j=some cs0∧cs=cs0.map g:=by
 unfold blk rP at h
 rw [List.getElem?_map] at h
 unfold blk
 cases h1:H[j]? with
 |none=>rw [h1] at h;cases h
 |some o=>
  rw [h1] at h
  cases o with
  |none=>cases h
  |some cs0=>exact ⟨cs0,rfl,by simpa using h.symm⟩
theorem Gh.fzA {k:Nat} {f:Fr} {H:BH} {i:Nat} {cs:List Value} (hc:blk H i=some cs) (hn:aT cs):Gh k f H (fun t=>fU i cs (f t)) ((rP (fU i cs) H).set i none):=
 ⟨fun h=>by simpa [rP] using h,fun ρ Z fA HA h1 h2=>by
  obtain ⟨Z',h3,h4,h5⟩:=FU h2 hc hn
  have hi:=yZ hc
  have hset: ∀j cs',blk ((rP (fU i cs) H).set i none) j=some cs'→j≠i∧ ∃cs0,blk H j=some cs0∧cs'=cs0.map (fU i cs):=fun j cs' h=>by
   rw [jW (by simpa [rP] using hi)] at h
   split at h
   ·cases h
   ·rename_i hne
    exact ⟨hne,adw h⟩
  have hold: ∀j cs0,j≠i→blk H j=some cs0→blk (H.set i none) j=some cs0:=fun j cs0 hne h=>by rw [jW hi,if_neg hne];exact h
  refine ⟨ρ,Z',fun t=>h5 _ _ (h1 t),⟨fun j cs' h=>?_,fun j j' c1 c2 b e1 e2 e3 e4=>?_,fun j cs' b e1 e2=>?_,h3.jl,fun j hj=>h2.top j (by simpa [rP] using hj)⟩,fun _ _=>rfl,⟨h4.n,h4.keep,fun j cs' b e1 e2=>?_,h4.zx,h4.zn⟩⟩
  ·obtain ⟨hne,cs0,g1,rfl⟩:=hset j cs' h
   obtain ⟨b,bk,k1,k2,k3,k4,k5⟩:=h2.gK j cs0 g1
   refine ⟨b,bk,k1,k2,k3,k4,by simpa using k5.1,fun q c d q1 q2=>?_⟩
   rw [List.getElem?_map] at q1
   obtain ⟨p,hp,rfl⟩:=map_inj q1
   exact h5 _ _ (k5.2 q p d hp q2)
  ·obtain ⟨n1,x1,g1,_⟩:=hset j c1 e1
   obtain ⟨n2,x2,g2,_⟩:=hset j' c2 e2
   exact h2.inj j j' x1 x2 b g1 g2 e3 e4
  ·obtain ⟨n1,x1,g1,_⟩:=hset j cs' e1
   exact h3.iW j x1 b (hold j x1 n1 g1) e2
  ·obtain ⟨n1,x1,g1,_⟩:=hset j cs' e1
   exact h4.own j x1 b (hold j x1 n1 g1) e2⟩
end Go.Bm
namespace Go.Bm
open Go Go.Am
def zo:Nat→Nat→Nat→List (List Nat)
 |0,_,_=>[[]]
 |k+1,n,m=>if n=0 then [[]] else (List.range (min n m)).flatMap fun i=>(zo k (n-(i+1)) (i+1)).map fun r=>(i+1)::r
end Go.Bm
namespace Go.Bm
open Go Go.Am
theorem acB {k:IntKind} {x y:Int}:ku min2 [.int k x, .int k y]=some (.int k (if y<x then y else x)):=by
 simp [ku,min2]
end Go.Bm
namespace Go.Bm
open Go Go.Am
def mG (p e:List Nat) (k:Nat):List Nat:=if k<e.length then ch p (e.take (k+1)) else fZ p e
theorem MH {p e:List Nat}:mG p e 0=p:=by
 cases e with
 |nil=>rfl
 |cons a l=>rfl
theorem Ry {p e:List Nat} {k:Nat}:(mG p e k).length=p.length:=by
 unfold mG fZ
 split
 ·exact KU
 ·split
  ·rfl
  ·rw [List.length_set,KU]
theorem ao5 {e:List Nat} {k:Nat} (h:k<e.length):(e.take (k+1)).getLastD 0=nl e k:=by
 have:e.take (k+1)=e.take k++[e[k]]:=by rw [List.take_add_one,List.getElem?_eq_getElem h,Option.toList_some]
 rw [this,List.getLastD_concat]
 simp [nl,List.getD,h]
theorem MI {p e:List Nat} {k:Nat} (h:k<e.length):(mG p e k).set (nl e k) (nl e ((k+1)%e.length))=mG p e (k+1):=by
 have hl:=ao5 h
 rw [mG,if_pos h]
 by_cases h1:k+1<e.length
 ·rw [mG,if_pos h1,Nat.mod_eq_of_lt h1]
  have h2:e.take (k+1+1)=e.take (k+1)++[nl e (k+1)]:=by
   rw [List.take_add_one (i:=k+1),List.getElem?_eq_getElem h1,Option.toList_some]
   simp [nl,List.getD,h1]
  rw [h2,Qd (by intro q;have:=congrArg List.length q;rw [List.length_take,List.length_nil] at this;omega),hl]
 ·have hk:k+1=e.length:=by omega
  have hn:e≠[]:=by rintro rfl;simp at h
  rw [mG,if_neg h1,hk,Nat.mod_self,fZ,if_neg hn,List.take_of_length_le (Nat.le_refl _)]
  rw [hk,List.take_of_length_le (Nat.le_refl _)] at hl
  rw [hl]
  congr 1
  cases e with
  |nil=>exact absurd rfl hn
  |cons a l=>rfl
theorem Hw {p e:List Nat}:mG p e e.length=fZ p e:=by rw [mG,if_neg (by omega)]
theorem QU {e:List Nat} (hn:e.Nodup) {j k:Nat} (hj:j<e.length) (hk:k<e.length) (h:nl e j=nl e k):j=k:=by
 simp only [nl,List.getD,List.getElem?_eq_getElem hj,List.getElem?_eq_getElem hk,Option.getD_some] at h
 exact (List.getElem_inj hn).1 h
theorem Bh {e:List Nat} {x:Nat} (h:x∈e): ∃k,k<e.length∧x=nl e k:=by
 obtain ⟨k,hk,rfl⟩:=List.mem_iff_getElem.1 h
 exact ⟨k,hk,by simp [nl,List.getD,hk]⟩
theorem Sv {p e:List Nat} (hn:e.Nodup) (hl: ∀x∈e,x<p.length): ∀k,k≤e.length→(∀j,j<k→nl (mG p e k) (nl e j)=nl e ((j+1)%e.length))∧ ∀x,(∀j,j<k→x≠nl e j)→nl (mG p e k) x=nl p x
 |0,_=>⟨fun j h=>absurd h (by omega),fun x _=>by rw [MH]⟩
 |k+1,hk=>by
  obtain ⟨h1,h2⟩:=Sv hn hl k (by omega)
  have hlt:nl e k<p.length:=hl _ (iM (by omega))
  rw [←MI (by omega)]
  refine ⟨fun j hj=>?_,fun x hx=>?_⟩
  ·rw [rW]
   by_cases e1:j=k
   ·subst e1
    rw [if_pos ⟨rfl,by rw [Ry];exact hlt⟩]
   ·rw [if_neg fun q=>e1 (QU hn (by omega) (by omega) q.1)]
    exact h1 j (by omega)
  ·rw [rW,if_neg fun q=>hx k (by omega) q.1]
   exact h2 x fun j hj=>hx j (by omega)
theorem DT {p e:List Nat} (hn:e.Nodup) (hl: ∀x∈e,x<p.length) {j:Nat} (hj:j<e.length):nl (fZ p e) (nl e j)=nl e ((j+1)%e.length):=by
 rw [←Hw]
 exact (Sv hn hl _ (Nat.le_refl _)).1 j hj
theorem zN {p e:List Nat} (hn:e.Nodup) (hl: ∀x∈e,x<p.length) {x:Nat} (hx:x∉e):nl (fZ p e) x=nl p x:=by
 rw [←Hw]
 exact (Sv hn hl _ (Nat.le_refl _)).2 x fun j hj q=>hx (by rw [q];exact iM hj)
theorem Perm.aP {n:Nat} {p e:List Nat} (h:Perm p n) (hl:p.length=16) (hn:e.Nodup) (h16: ∀x∈e,x<n) (hf: ∀x∈e,nl p x=x):Perm (fZ p e) n:=by
 have hN:=h.1
 have hb: ∀x∈e,x<p.length:=fun x hx=>by have:=h16 x hx;omega
 have hin: ∀x∈e,nl (fZ p e) x∈e:=fun x hx=>by
  obtain ⟨k,hk,rfl⟩:=Bh hx
  rw [DT hn hb hk]
  exact iM (Nat.mod_lt _ (by omega))
 have hout: ∀x,x<n→x∉e→nl p x∉e:=fun x hx he hq=>he (by
  have:=h.inj hx (h16 _ hq) (hf _ hq).symm
  rw [this];exact hq)
 refine .of (by omega) (fun i h1 h2=>?_) (fun i hi=>?_) fun i j hi hj he=>?_
 ·have:i∉e:=fun q=>absurd (h16 i q) (by omega)
  rw [zN hn hb this]
  exact h.zero h1 h2
 ·by_cases he:i∈e
  ·exact h16 _ (hin i he)
  ·rw [zN hn hb he];exact h.lt hi
 ·have hj':j<n:=by omega
  by_cases h1:i∈e
  ·by_cases h2:j∈e
   ·obtain ⟨a,ha,rfl⟩:=Bh h1
    obtain ⟨b,hb',rfl⟩:=Bh h2
    rw [DT hn hb ha,DT hn hb hb'] at he
    have hm:=QU hn (Nat.mod_lt _ (by omega)) (Nat.mod_lt _ (by omega)) he
    have e1:b=a:=by
     by_cases c1:a+1<e.length
     ·by_cases c2:b+1<e.length
      ·rw [Nat.mod_eq_of_lt c1,Nat.mod_eq_of_lt c2] at hm;omega
      ·have:b+1=e.length:=by omega
       rw [Nat.mod_eq_of_lt c1,this,Nat.mod_self] at hm;omega
     ·have c1':a+1=e.length:=by omega
      by_cases c2:b+1<e.length
      ·rw [Nat.mod_eq_of_lt c2,c1',Nat.mod_self] at hm;omega
      ·omega
    rw [e1] at hj
    omega
   ·have:=hin i h1
    rw [←he,zN hn hb h2] at this
    exact hout j hj' h2 this
  ·rw [zN hn hb h1] at he
   by_cases h2:j∈e
   ·have:=hin j h2
    rw [he] at this
    exact hout i hi h1 this
   ·rw [zN hn hb h2] at he
    have:=h.inj hj' hi he
    omega
end Go.Bm
namespace Go.Bm
open Go Go.Am
theorem xU {xs:List Int} {k:Nat} (h:k<xs.length):el xs k∈xs:=by simp [el,List.getD,h]
section
variable {code:List Nat} {a:Nat} {h:Int}
theorem ao6 {n:Nat} {size:Int} {K:Value→BH→Prop} (ha:a≤code.length) (hl:code.length≤1048576) (hcd: ∀i,nl code i<256) (hn:1≤n∧n≤16) (hs:size<4611686018427387904)
  (hK: ∀p a' h',By 16 p→Perm p n→a'≤code.length→K (PL p) [some (SC code a' h')]):aJ false Uh [P 0 0,I n,I size] [some (SC code a h)] K:=by
 have hil:= @xW n
 refine bf agC ?_;simp only [jy,aG]
 refine aB ?_
 refine dB fun Kr hKr=>?_
 refine QY (i:=0) rfl ha hl hcd hn fun q a h hq hp hA=>?_
 have hlq:=hq.len
 clear ha
 refine aO ?_
 refine Hg (by omega) ?_
 refine aO ?_
 refine aI hKr ?_
 have adx: ∀i,nl q i<16:=fun i=>hp.qM hlq i
 refine aB ?_
 refine bM (fun m f H'=> ∃t a' h' p,t≤n∧m=n-t∧a'≤code.length∧(By 16 p∧Perm p n∧ ∀j,t≤j→j<n→nl p (nl q j)=nl q j)∧f 0=P 0 0∧f 1=I n∧f 2=I size∧f 6=P 1 0∧f 7=P 2 0∧f 8=P 3 0∧f 9=I t∧H'=[some (SC code a' h'),some (List.replicate 16 (.int .u8 0)),some (q.map N8),some (p.map N8)]) (n) ?_ ?_
 ·exact ⟨_,_,Gh.refl,0,a,h,pz n,by omega,by omega,hA,⟨DU hn.2,Sr hn,fun j _ hj=>by rw [Bj (by omega),if_pos (hp.lt hj)]⟩,ah,ah,ah,ah,ah,ah,ah,rfl⟩
 ·clear hA
  rintro m f H' R ⟨t,a,h,p,ht,rfl,hA,⟨hb,hpp,hfix⟩,g0,g1,g2,g6,g7,g8,g9,rfl⟩ hN hX hR hE
  simp only [jy.l1,aG]
  have hlp:=hb.len
  refine au (aC @g1 @g9) ?_
  refine aV (t<n) (fun hc=>?_) fun hc=>?_
  ·have htn:t<n:=hc
   clear hc
   refine bK ?_
   refine aY (aC @g0 @g2) fun Kr hKr=>?_
   refine oN (i:=0) rfl hA hl hcd (by omega) fun v a h hA k2 k3 k4 k5=>?_
   have hk: ∃k:Nat,1≤k∧t+k≤n∧(if (n:Int)-t<1+v then (n:Int)-t else 1+v)=k:=by
    by_cases hc:(n:Int)-t<1+v
    ·exact ⟨n-t,by omega,by omega,by rw [if_pos hc];omega⟩
    ·exact ⟨(1+v).toNat,by omega,by omega,by rw [if_neg hc];omega⟩
   obtain ⟨k,hk1,hk2,hk3⟩:=hk
   obtain ⟨e,hed⟩: ∃e,e=(List.range k).map fun j=>nl q (t+j):=⟨_,rfl⟩
   have hel:e.length=k:=by rw [hed];simp
   have hen: ∀j,j<k→nl e j=nl q (t+j):=fun j hj=>by rw [hed];simp [nl,List.getD,hj]
   have hmem: ∀x∈e,∃j,j<k∧x=nl q (t+j):=fun x hx=>by
    obtain ⟨j,hj,rfl⟩:=Bh hx
    exact ⟨j,by omega,hen j (by omega)⟩
   have sG:e.Nodup:=by
    rw [hed,List.Nodup,List.pairwise_map]
    refine List.Pairwise.imp_of_mem ?_ List.nodup_range
    intro a b ha hb hab hq
    rw [List.mem_range] at ha hb
    exact hab (by have:=hp.inj (by omega) (by omega) hq;omega)
   have GY: ∀{i:Nat} {p1:List Nat},i=k→p1=mG p e i→Perm p1 n∧ ∀j,t+k≤j→j<n→nl p1 (nl q j)=nl q j:=fun {i p1} hik h1=>by
    rw [hik,←hel,Hw] at h1
    have h16: ∀x∈e,x<n:=fun x hx=>by
     obtain ⟨j,hj,rfl⟩:=hmem x hx
     exact hp.lt (by omega)
    rw [h1]
    refine ⟨hpp.aP hlp sG h16 fun x hx=>?_,fun j hj hjn=>?_⟩
    ·obtain ⟨j,hj,rfl⟩:=hmem x hx
     exact hfix _ (by omega) (by omega)
    ·rw [zN sG (fun x hx=>by have:=h16 x hx;omega)]
     ·exact hfix _ (by omega) hjn
     ·intro hx
      obtain ⟨j',hj',he⟩:=hmem _ hx
      have:=hp.inj hjn (by omega) he
      omega
   refine bP (bG @g1 @g9 @acB @hk3) ?_
   refine aI hKr ?_
   refine aB ?_
   refine bM (fun m f H'=> ∃i p1,i≤k∧m=k-i∧(By 16 p1∧p1=mG p e i)∧f 0=P 0 0∧f 1=I n∧f 2=I size∧f 6=P 1 0∧f 7=P 2 0∧f 8=P 3 0∧f 9=I t∧f 10=I k∧f 11=I i∧H'=[some (SC code a h),some (List.replicate 16 (.int .u8 0)),some (q.map N8),some (p1.map N8)]) (k) ?_ ?_
   ·exact ⟨_,_,Gh.refl,0,p,by omega,by omega,⟨hb,MH.symm⟩,ah,ah,ah,ah,ah,ah,ah,ah,ah,rfl⟩
   ·clear g0 g1 g2 g6 g7 g8 g9 hb
    rintro m f H' R1 ⟨i,p1,hi,rfl,⟨hb,hp1⟩,g0,g1,g2,g6,g7,g8,g9,g10,g11,rfl⟩ hN1 hX1 hR1 hE1
    simp only [jy.l0,aG]
    have ao7:=hb.len
    refine au (aC @g10 @g11) ?_
    refine aV (i<k) (fun hc=>?_) fun hc=>?_
    ·have hik:i<k:=hc
     clear hc
     have hk0:(k:Int)≠0:=by omega
     have hm:=Nat.mod_lt (i+1) (show 0<k by omega)
     have e1:((i:Nat):Int)+1=((i+1:Nat):Int):=by omega
     have e2:(((i+1:Nat):Int)).tmod (k:Int)=(((i+1)%k:Nat):Int):=Int.ofNat_tmod (i+1) k
     have e3:((t:Nat):Int)+((i:Nat):Int)=((t+i:Nat):Int):=by omega
     have e4:((t:Nat):Int)+(((i+1)%k:Nat):Int)=((t+(i+1)%k:Nat):Int):=by omega
     have hq1:=adx (t+i)
     have hq2:=adx (t+(i+1)%k)
     refine bK ?_
     refine au (jM (bG (bG @g7 @g8 @g9 @g10) @g11 @hlq @ao7) @hk0 @e1 @e2 @e3 @e4) ?_
     refine bI @g11 ?_
     exact hN1 (k-(i+1)) _ _ _ _ (by omega) Gh.refl ⟨i+1,_,by omega,rfl,⟨hb.set (by omega),by rw [hp1,←MI (by omega),hel,hen i hik,hen _ hm]⟩,ah,ah,ah,ah,ah,ah,ah,ah,ah,rfl⟩
    ·refine hX1 _ _ ?_
     have e5:((t:Nat):Int)+((k:Nat):Int)=((t+k:Nat):Int):=by omega
     refine bI (aX @g9 @g10 @e5) ?_
     exact hN (n-(t+k)) _ _ _ _ (by omega) Gh.refl ⟨t+k,a,h,p1,by omega,rfl,hA,⟨hb,GY (by omega) hp1⟩,ah,ah,ah,ah,ah,ah,ah,rfl⟩
  ·refine hX _ _ ?_
   refine au (aX @g6 @g8 @hlp) ?_
   refine ji (by simp (disch:=omega) only [RA,↓reduceIte,Nat.reduceEqDiff,RD,dS,gJ,g6,hlp];rfl) (dK.nrm [0] rfl rfl (by simp only [RH,ou]) (by simp only [aF,RH])) ?_;simp only [aF]
   exact hK _ _ _ hb hpp hA
theorem Q9 {n:Nat} {size:Int} {i:Nat} {H:BH} {K:Value→BH→Prop} (hb:blk H i=some (SC code a h)) (ha:a≤code.length) (hl:code.length≤1048576) (hcd: ∀i,nl code i<256) (hn:1≤n∧n≤16) (hs:size<4611686018427387904)
  (hK: ∀p a' h',By 16 p→Perm p n→a'≤code.length→K (PL p) (H.set i (some (SC code a' h')))):aJ false Uh [P i 0,I n,I size] H K:=by
 refine uf hb mF ?_
 have e:([P i 0,I n,I size]:List Value).map (ren [i])=[P 0 0,I n,I size]:=by simp [ren,nU,nm]
 rw [e]
 exact ao6 ha hl hcd hn hs fun p a' h' k1 k3 k2=>⟨oG (by (simp only [RH])),HN.cons mF HN.nil,hK p a' h' k1 k3 k2⟩
theorem ao8 {most:Int} {K:Value→BH→Prop} (ha:a≤code.length) (hl:code.length≤1048576) (hcd: ∀i,nl code i<256) (hm:1≤most∧most≤16)
  (hK: ∀(n:Nat) b w a' h',By 16 b→By 16 w→bC n b w→(n:Int)≤most→a'≤code.length→K (DV n b w) [some (SC code a' h')]):aJ false Uo [P 0 0,I most] [some (SC code a h)] K:=by
 have hz:=kM
 refine bf ag7 ?_;simp only [jT,aG]
 refine au @aH ?_
 refine dB fun Kr hKr=>?_
 refine oN (i:=0) rfl ha hl hcd (by omega) fun v a h hA k2 k3 k4 k5=>?_
 clear ha
 have hv:=k4 (by omega)
 obtain ⟨n,hn⟩: ∃n:Nat,1+v=n:=⟨(1+v).toNat,by omega⟩
 have hn1:1≤n∧n≤16:=by omega
 have hnm:(n:Int)≤most:=by omega
 refine bP @hn ?_
 refine aI hKr ?_
 clear k2 k3 k4 k5
 refine aB ?_
 refine bM (fun m f H'=> ∃k a' h',k≤8∧m=8-k∧a'≤code.length∧f 0=P 0 0∧f 4=P 1 0∧f 5=I n∧f 6=I k∧H'=[some (SC code a' h'),some (DC 0 dF dF)]) (8) ?_ ?_
 ·exact ⟨_,_,Gh.refl,0,a,h,by omega,by omega,hA,ah,ah,ah,ah,rfl⟩
 ·clear hA
  rintro m f H' R ⟨k,a,h,hk,rfl,hA,g0,g4,g5,g6,rfl⟩ hN hX hR hE
  simp only [jT.l0,aG]
  refine au @g6 ?_
  refine aV (k<8) (fun hc=>?_) fun hc=>?_
  ·have hk8:k<8:=hc
   clear hc
   refine bK ?_
   refine aY (aC @g0 @g5) fun Kr hKr=>?_
   refine rU 2 rfl (by simp only [RH]) ?_;simp only [RZ,kS]
   refine uo (xs:=[2,3,4,(n:Int)]) (i:=0) rfl hA hl hcd (by simp) (by simp) fun j a h hj hA=>?_
   have hj1:=xU hj
   refine bP (aC @g0 @g5) ?_
   refine Q9 (i:=0) rfl hA hl hcd hn1 (by simp at hj1;omega) fun p a h hp _ hA=>?_
   refine bP (aC @g0 @g5) ?_
   refine rU 3 rfl (by simp only [RH]) ?_;simp only [RZ,kS]
   refine uo (xs:=[2,2,3,(n:Int)]) (i:=0) rfl hA hl hcd (by simp) (by simp) fun j a h hj hA=>?_
   have hj2:=xU hj
   refine bP (aC @g0 @g5) ?_
   refine Q9 (i:=0) rfl hA hl hcd hn1 (by simp at hj2;omega) fun q a h hq _ hA=>?_
   have hlp:=hp.len
   have hlq:=hq.len
   refine bP (aC @aH @aK) ?_
   refine aI hKr ?_
   refine aY (aC @aH @aK) fun Kr hKr=>?_
   refine F6 hp hq ?_
   refine aO ?_
   refine aI hKr ?_
   refine aV (bC n p q) (fun hc=>?_) fun hc=>?_
   ·refine au (aX @g4 @aH @aK) ?_
    refine hR _ _ ?_
    refine ji (by simp (disch:=omega) only [RA,↓reduceIte,Nat.reduceEqDiff,RD,dS,gJ,g4,aK];rfl) (dK.nrm [0] rfl rfl (by simp only [RH,ou,l9]) (by simp only [aF,RH])) ?_;simp only [aF]
    exact hK n p q _ _ hp hq hc hnm hA
   ·refine bI @g6 ?_
    exact hN (8-(k+1)) _ _ _ _ (by omega) (Gh.nrm [0,1] rfl rfl (by simp only [RH,ou,l9])) ⟨k+1,a,h,by omega,rfl,hA,ah,ah,ah,ah,rfl⟩
  ·refine hX _ _ ?_
   have h1:= @DW n n
   have h2:= @xW n
   refine aY @g5 fun Kr hKr=>?_
   refine acH hn1 ?_
   refine bP (aC @aH @aK) ?_
   refine aI hKr ?_
   refine aY (aC @g0 @g5) fun Kr hKr=>?_
   refine QY (i:=0) rfl hA hl hcd hn1 fun q a h hq hp hA=>?_
   have hlq:=hq.len
   refine bP (aC @aH @aK) ?_
   refine aI hKr ?_
   refine au (aX @g4 @aH @aK) ?_
   refine ji (by simp (disch:=omega) only [RA,↓reduceIte,Nat.reduceEqDiff,RD,dS,gJ,g4,aK];rfl) (dK.nrm [0] rfl rfl (by simp only [RH,ou,l9]) (by simp only [aF,RH])) ?_;simp only [aF]
   exact hK n _ q _ _ (acI hn1 hn1.2) hq (bC.turn hn1 hp) hnm hA
theorem an8 {most:Int} {i:Nat} {H:BH} {K:Value→BH→Prop} (hb:blk H i=some (SC code a h)) (ha:a≤code.length) (hl:code.length≤1048576) (hcd: ∀i,nl code i<256) (hm:1≤most∧most≤16)
  (hK: ∀(n:Nat) b w a' h',By 16 b→By 16 w→bC n b w→(n:Int)≤most→a'≤code.length→K (DV n b w) (H.set i (some (SC code a' h')))):aJ false Uo [P i 0,I most] H K:=by
 refine uf hb mF ?_
 have e:([P i 0,I most]:List Value).map (ren [i])=[P 0 0,I most]:=by simp [ren,nU,nm]
 rw [e]
 exact ao8 ha hl hcd hm fun n b w a' h' k1 k2 k3 k4 k5=>⟨fC,HN.cons mF HN.nil,hK n b w a' h' k1 k2 k3 k4 k5⟩
end
end Go.Bm
namespace Go.Bm
open Go Go.Am
theorem ac2 {g:Nat} {args:List Value} {H:BH} {K:Value→BH→Prop} {i:Nat} {cs0:List Value} (hc0:blk H i=some cs0) (hn0:aT cs0)
  (h:aJ false g (args.map (ren [i])) [some cs0] fun v H1=> ∃j l e cs,v= .slice (some ⟨j,0,none⟩) l e∧j≠0∧blk H1 j=some cs∧aT cs∧K (.slice (some ⟨H.length,0,none⟩) l e) ((H.set i none)++[some cs])):aJ false g args H K:=by
 intro ρ Z as HA h1 h2
 have hi:=yZ hc0
 obtain ⟨b0,Sz,r1,r2,r3,r4,r5⟩:=h2.gK i cs0 hc0
 obtain ⟨qV,H9⟩: ∃qV:Nat→Option Nat,qV=fun j=>if j=0 then some b0 else none:=⟨_,rfl⟩
 have wI:qV 0=some b0:=by rw [H9];rfl
 have hR0:Rel qV Z [some cs0] HA:=by
  refine ⟨fun j cs hj=>?_,fun j j' c1 c2 b e1 e2 _ _=>?_,fun j cs b e1 e2=>?_,h2.jl,fun j hj=>?_⟩
  ·cases j with
   |zero=>
    simp [blk] at hj;subst hj
    exact ⟨b0,Sz,wI,r2,r3,r4,(hn0.vz r5).vl⟩
   |succ j=>simp [blk] at hj
  ·cases j with
   |zero=>cases j' with
    |zero=>rfl
    |succ j'=>simp [blk] at e2
   |succ j=>simp [blk] at e1
  ·cases j with
   |zero=>
    rw [wI] at e2;cases e2
    exact h2.iW i cs0 b0 hc0 r1
   |succ j=>simp [blk] at e1
  ·rw [H9]
   simp only [List.length_singleton] at hj
   simp only
   rw [if_neg (by omega)]
 have hargs:VL qV Z (args.map (ren [i])) as:=by
  refine ⟨by simpa using h1.1,fun q c d q1 q2=>?_⟩
  rw [List.getElem?_map] at q1
  obtain ⟨p,hp,rfl⟩:=map_inj q1
  refine CU (fun x y hxy=>?_) (h1.2 q p d hp q2)
  cases y with
  |zero=>
   simp at hxy
   subst hxy
   rw [wI,r1]
  |succ y=>simp at hxy
 obtain ⟨v',HA',h3,_,eU,Z1,v,H1,h4,h5,_,h7,h6,j,l,e,cs,rfl,hj0,hj,hn,hK⟩:=h qV Z as HA hargs hR0
 obtain ⟨bn,bk1,hb0,e2,e3,e4,e5⟩:=h5.gK j cs hj
 have xY: ∀q cs' b,blk ([some cs0]:BH) q=some cs'→qV q=some b→b=b0:=fun q cs' b e1 e2=>by
  cases q with
  |zero=>rw [wI] at e2;cases e2;rfl
  |succ q=>simp [blk] at e1
 have hge:HA.n≤bn∨bn=b0:=by
  rcases h6.own j cs bn hj hb0 with h9|⟨q,cs',h9,h10⟩
  ·exact .inl h9
  ·exact .inr (xY q cs' bn h9 h10)
 have hkeep: ∀b,b<HA.n→b≠b0→HA'.get b=HA.get b:=fun b hb hne=>h6.keep b hb fun q cs' e1 e2=>hne (xY q cs' b e1 e2)
 have hne: ∀q cs' b,q≠i→blk H q=some cs'→ρ q=some b→b≠b0:=fun q cs' b hq e1 e2 e=>hq (h2.inj q i cs' cs0 b e1 hc0 e2 (by rw [e];exact r1))
 have hold: ∀q cs',blk ((H.set i none)++[some cs]) q=some cs'→(q=H.length∧cs'=cs)∨(q<H.length∧q≠i∧blk H q=some cs'):=fun q cs' hc=>by
  rcases Nat.lt_trichotomy q H.length with hq|hq|hq
  ·right
   have hc':blk (H.set i none) q=some cs':=by
    unfold blk at hc⊢
    rwa [List.getElem?_append_left (by simpa using hq)] at hc
   rw [jW hi] at hc'
   split at hc'
   ·cases hc'
   ·exact ⟨hq,by assumption,hc'⟩
  ·left
   subst hq
   unfold blk at hc
   rw [List.getElem?_append_right (by simp)] at hc
   simp at hc
   exact ⟨rfl,hc.symm⟩
  ·unfold blk at hc
   rw [List.getElem?_eq_none (by simp;omega)] at hc
   cases hc
 have hρ: ∀q,q<H.length→put ρ H.length bn q=ρ q:=fun q hq=>by simp only [put];rw [if_neg (by omega)]
 have lF:put ρ H.length bn H.length=some bn:=by simp [put]
 have hv:VR (put ρ H.length bn) Z1 (.slice (some ⟨H.length,0,none⟩) l e) v':=by
  obtain ⟨b,hb,rfl⟩:=h4.ng
  rw [hb0] at hb;cases hb
  exact .slice lF
 refine ⟨v',HA',h3,(fun h=>by cases h),put ρ H.length bn,Z1,_,_,hv,⟨fun q cs' hc=>?_,fun q q' c1 c2 b k1 k2 k3 k4=>?_,fun q cs' b k1 k2=>?_,h5.jl,fun q hq=>?_⟩,by simp,hρ,⟨h6.n,fun b hb hno=>?_,fun q cs' b k1 k2=>?_,h6.zx,fun b bk hb=>?_⟩,hK⟩
 ·rcases hold q cs' hc with ⟨rfl,rfl⟩|⟨hq,hqi,hc⟩
  ·exact ⟨bn,bk1,lF,e2,e3,e4,(hn.vz e5).vl⟩
  ·obtain ⟨b,bk,k1,k2,k3,k4,k5⟩:=h2.gK q cs' hc
   refine ⟨b,bk,by rw [hρ q hq];exact k1,Nat.lt_of_lt_of_le k2 h6.n,by rw [hkeep b k2 (hne q cs' b hqi hc k1)];exact k3,k4,k5.mono (fun p d hp=>?_) h6.zx⟩
   rcases Nat.lt_or_ge p H.length with hpl|hpl
   ·rw [hρ p hpl];exact hp
   ·rw [h2.top p hpl] at hp;cases hp
 ·rcases hold q c1 k1 with ⟨rfl,rfl⟩|⟨hq,hqi,hc⟩<;>rcases hold q' c2 k2 with ⟨rfl,_⟩|⟨hq',SA,hc'⟩
  ·rfl
  ·rw [lF] at k3;cases k3
   rw [hρ q' hq'] at k4
   rcases hge with h|h
   ·have:=h2.lt hc' k4;omega
   ·exact absurd h (hne q' _ _ SA hc' k4)
  ·rw [lF] at k4;cases k4
   rw [hρ q hq] at k3
   rcases hge with h|h
   ·have:=h2.lt hc k3;omega
   ·exact absurd h (hne q _ _ hqi hc k3)
  ·rw [hρ q hq] at k3;rw [hρ q' hq'] at k4
   exact h2.inj q q' c1 c2 b hc hc' k3 k4
 ·rcases hold q cs' k1 with ⟨rfl,rfl⟩|⟨hq,hqi,hc⟩
  ·rw [lF] at k2;cases k2
   exact h5.iW j _ bn hj hb0
  ·rw [hρ q hq] at k2
   cases hz:Z1 b with
   |none=>rfl
   |some bk=>
    rcases h6.zn b bk hz with h9|h9|⟨p,cs',h9,h10⟩
    ·rw [h2.iW q cs' b hc k2] at h9;cases h9
    ·have:=h2.lt hc k2;omega
    ·exact absurd (xY p cs' b h9 h10) (hne q _ b hqi hc k2)
 ·simp only [List.length_append,List.length_set,List.length_singleton] at hq
  simp only [put]
  rw [if_neg (by omega)]
  exact h2.top q (by omega)
 ·refine hkeep b hb fun e=>?_
  rw [e] at hno
  exact hno i cs0 hc0 r1
 ·rcases hold q cs' k1 with ⟨rfl,rfl⟩|⟨hq,hqi,hc⟩
  ·rw [lF] at k2;cases k2
   rcases hge with h|h
   ·exact .inl h
   ·rw [h];exact .inr ⟨i,cs0,hc0,r1⟩
  ·rw [hρ q hq] at k2
   exact .inr ⟨q,cs',hc,k2⟩
 ·rcases h6.zn b bk hb with h9|h9|⟨p,cs',h9,h10⟩
  ·exact .inl h9
  ·exact .inr (.inl h9)
  ·rw [xY p cs' b h9 h10]
   exact .inr (.inr ⟨i,cs0,hc0,r1⟩)
end Go.Bm
namespace Go.Bm
open Go Go.Am
def MO (c:Option (List Value)) (H:BH) (bytes cn:Nat):Option (Value×BH):=
 match c with
 |some [v]=>if bytes≤140737488355328 then some (S H.length 0 1 1,H++[some [v]]) else lY 1 bytes (.slice none 0 0) (S cn 0 1 1) H
 | _=>lY 1 bytes (.slice none 0 0) (S cn 0 1 1) H
theorem aoF {H:BH} {c bytes:Nat}:lY 1 bytes (.slice none 0 0) (S c 0 1 1) H=MO (blk H c) H bytes c:=by
 unfold MO
 split
 ·rename_i v hc
  split
  ·rename_i h
   simp [lY,newC,hc,h]
  ·rfl
 ·rfl
theorem aoG {H:BH} {v:Value} {bytes cn:Nat} (h:bytes≤140737488355328):MO (some [v]) H bytes cn=some (S H.length 0 1 1,H++[some [v]]):=by
 simp only [MO]
 rw [if_pos h]
end Go.Bm
namespace Go.Bm
open Go Go.Am
end Go.Bm
namespace Go.Bm
open Go Go.Am
def kE (xs:List Int):Nat→Int
 |0=>0
 |i+1=>kE xs i+el xs i
def dQ (xs:List Int):Int:=kE xs xs.length
def su (xs:List Int) (i:Nat):Prop:=(1≤el xs i∧el xs i≤16)∧(0<i→el xs i≤el xs (i-1))
instance (xs:List Int) (i:Nat):Decidable (su xs i):=by unfold su;infer_instance
def oL (xs:List Int):Prop:=(1≤xs.length∧xs.length≤16)∧(∀i,i<xs.length→su xs i)∧dQ xs≤16
instance (xs:List Int):Decidable (oL xs):=by unfold oL;infer_instance
theorem SB {xs:List Int}: ∀{i:Nat},(∀j,j<i→su xs j)→(i:Int)≤kE xs i∧kE xs i≤16*i
 |0,_=>by simp [kE]
 |i+1,h=>by
  have ih:=SB (i:=i) fun j hj=>h j (by omega)
  have:=(h i (by omega)).1
  simp only [kE]
  omega
theorem ady {xs:List Int} {i:Nat}: ∀{k:Nat},(∀j,j<k→su xs j)→i≤k→kE xs i≤kE xs k
 |0,_,h=>by
  obtain rfl:i=0:=by omega
  exact Int.le_refl _
 |k+1,hk,h=>by
  by_cases e:i=k+1
  ·rw [e];exact Int.le_refl _
  ·have ih:=ady (i:=i) (k:=k) (fun j hj=>hk j (by omega)) (by omega)
   have:=(hk k (by omega)).1
   simp only [kE]
   omega
theorem oL.pos {xs:List Int} (h:oL xs):1≤dQ xs:=by
 have:=(SB h.2.1).1
 have:=h.1
 rw [dQ]
 omega
theorem Bg {x:Bool} {xs:List Int} {H:BH} {K:Value→BH→Prop} (hl:xs.length≤1048576) (hK:K (I (if oL xs then dQ xs else 0)) H):aJ x TY [FI xs] H K:=by
 refine dw (.cons .fz .nil) ?_
 refine bf UA ?_;simp only [fO,aG]
 refine aB ?_
 refine aB ?_
 refine aB ?_
 refine bM (fun m f H'=> ∃i,i≤xs.length∧m=xs.length-i∧(∀j,j<i→su xs j)∧kE xs i≤16∧f 0=FI xs∧f 3=I (kE xs i)∧f 6=FI xs∧f 7=I xs.length∧f 8=I i∧H'=[]) (xs.length) ?_ ?_
 ·exact ⟨_,_,Gh.refl,0,by omega,by omega,fun j hj=>by omega,by simp [kE],ah,ah,ah,ah,ah,rfl⟩
 ·rintro m f H' R ⟨i,hi,rfl,hall,ao9,g0,g3,g6,g7,g8,rfl⟩ hN hX hR hE
  simp only [fO.l0,aG]
  have hs:=SB hall
  refine au (aC @g7 @g8) ?_
  refine aV (i<xs.length) (fun hc=>?_) fun hc=>?_
  ·have hil:i<xs.length:=by assumption
   have hno: ¬su xs i→(if oL xs then dQ xs else 0)=0:=fun h=>if_neg fun ht=>h (ht.2.1 i hil)
   have hbad: ∀f' rest,¬oL xs→T 0 (.seq fO.r6 (.seq .ret rest)) R f' []:=fun f' rest h=>by
    rw [if_neg h] at hK
    refine aB ?_
    refine hR _ _ ?_
    refine aU ?_
    exact ⟨.int,hK⟩
   have hgood: ∀f',su xs i→f' 0=FI xs→f' 3=I (kE xs i)→f' 5=I (el xs i)→f' 6=FI xs→f' 7=I xs.length→f' 8=I i→
     T 0 (.seq fO.r7 (.seq (.seq fO.r8 (.cond (.t 36) (.seq fO.r9 .ret) .skip)) fO.r10)) R f' []:=by
    clear g0 g3 g6 g7 g8
    intro f' ho g0 g3 g5 g6 g7 g8
    have ho1:=ho.1
    have e1:kE xs (i+1)=kE xs i+el xs i:=rfl
    have BQ: ∀j,j<i+1→su xs j:=fun j hj=>by
     by_cases e:j=i
     ·rw [e];exact ho
     ·exact hall j (by omega)
    refine au (aC @g3 @g5) ?_
    refine aB ?_
    refine aV (16<kE xs i+el xs i) (fun hc=>?_) fun hc=>?_
    ·have hnt: ¬oL xs:=fun ht=>by
      have:=ady (i:=i+1) ht.2.1 (by omega)
      have:=ht.2.2
      rw [dQ] at this
      omega
     rw [if_neg hnt] at hK
     refine aB ?_
     refine hR _ _ ?_
     refine aU ?_
     exact ⟨.int,hK⟩
    ·refine iE ?_
     refine bI @g8 ?_
     refine hN (xs.length-(i+1)) _ _ _ _ (by omega) Gh.refl ⟨i+1,by omega,rfl,BQ,by omega,ah,?_,ah,ah,ah,rfl⟩
     all_goals (rw [e1];simp (disch:=omega) only [RA,↓reduceIte,Nat.reduceEqDiff,RD, *])
   refine bK ?_
   refine au (aC @g6 @g8) ?_
   by_cases h1:el xs i<1
   ·refine aB ?_
    refine dI ?_
    exact hbad _ _ fun ht=>by have:=(ht.2.1 i hil).1;omega
   by_cases h2:16<el xs i
   ·refine aB ?_
    refine dI ?_
    exact hbad _ _ fun ht=>by have:=(ht.2.1 i hil).1;omega
   by_cases h3:i=0
   ·subst h3
    refine aB ?_
    refine bY ?_
    refine iE ?_
    exact hgood _ ⟨by omega,fun h=>by omega⟩ ah ah ah ah ah ah
   ·have e2:(i:Int)-1=((i-1:Nat):Int):=by omega
    have h5:i-1<xs.length:=by omega
    by_cases h4:el xs (i-1)<el xs i
    ·refine au (aC @g0 @e2) ?_
     refine dI ?_
     exact hbad _ _ fun ht=>by have:=(ht.2.1 i hil).2;omega
    ·refine au (aC @g0 @e2) ?_
     refine bY ?_
     refine iE ?_
     exact hgood _ ⟨by omega,fun h=>by omega⟩ ah ah ah ah ah ah
  ·refine hX _ _ ?_
   obtain rfl:i=xs.length:=by omega
   have e:(if oL xs then dQ xs else 0)=kE xs xs.length:=by
    by_cases ht:oL xs
    ·rw [if_pos ht];rfl
    ·rw [if_neg ht]
     rcases Nat.eq_zero_or_pos xs.length with h|h
     ·rw [h];rfl
     ·exact absurd ⟨⟨h,by omega⟩,hall,ao9⟩ ht
   rw [e] at hK
   refine au @g3 ?_
   refine aU ?_
   exact ⟨.int,hK⟩
def at3 (xss:List (List Int)) (i:Nat):List Int:=xss.getD i []
def Rx (xss:List (List Int)):Prop:=xss.length=3∧ ∀i,i<3→oL (at3 xss i)∧dQ (at3 xss i)=dQ (at3 xss 0)
instance (xss:List (List Int)):Decidable (Rx xss):=by unfold Rx;infer_instance
end Go.Bm
namespace Go.Bm
open Go Go.Am
theorem aqm {g:Nat} {args:List Value} {H:BH} {K:Value→BH→Prop} {i:Nat} {cs0:List Value} (hc0:blk H i=some cs0) (hn0:aT cs0)
  (h:aJ false g (args.map (ren [i])) [some cs0] fun v H1=> ∃j l e cs,v= .slice (some ⟨j,0,none⟩) l e∧j≠0∧blk H1 j=some cs∧aT cs∧ ∃cu,blk H1 0=some cu∧aT cu∧K (.slice (some ⟨H.length,0,none⟩) l e) ((H.set i (some cu))++[some cs])):aJ false g args H K:=by
 intro ρ Z as HA h1 h2
 have hi:=yZ hc0
 obtain ⟨b0,Sz,r1,r2,r3,r4,r5⟩:=h2.gK i cs0 hc0
 obtain ⟨qV,H9⟩: ∃qV:Nat→Option Nat,qV=fun j=>if j=0 then some b0 else none:=⟨_,rfl⟩
 have wI:qV 0=some b0:=by rw [H9];rfl
 have hR0:Rel qV Z [some cs0] HA:=by
  refine ⟨fun j cs hj=>?_,fun j j' c1 c2 b e1 e2 _ _=>?_,fun j cs b e1 e2=>?_,h2.jl,fun j hj=>?_⟩
  ·cases j with
   |zero=>
    simp [blk] at hj;subst hj
    exact ⟨b0,Sz,wI,r2,r3,r4,(hn0.vz r5).vl⟩
   |succ j=>simp [blk] at hj
  ·cases j with
   |zero=>cases j' with
    |zero=>rfl
    |succ j'=>simp [blk] at e2
   |succ j=>simp [blk] at e1
  ·cases j with
   |zero=>
    rw [wI] at e2;cases e2
    exact h2.iW i cs0 b0 hc0 r1
   |succ j=>simp [blk] at e1
  ·rw [H9]
   simp only [List.length_singleton] at hj
   simp only
   rw [if_neg (by omega)]
 have hargs:VL qV Z (args.map (ren [i])) as:=by
  refine ⟨by simpa using h1.1,fun q c d q1 q2=>?_⟩
  rw [List.getElem?_map] at q1
  obtain ⟨p,hp,rfl⟩:=map_inj q1
  refine CU (fun x y hxy=>?_) (h1.2 q p d hp q2)
  cases y with
  |zero=>
   simp at hxy
   subst hxy
   rw [wI,r1]
  |succ y=>simp at hxy
 obtain ⟨v',HA',h3,_,eU,Z1,v,H1,h4,h5,_,h7,h6,j,l,e,cs,rfl,hj0,hj,hn,cu,hu,hnu,hK⟩:=h qV Z as HA hargs hR0
 obtain ⟨bn,bk1,hb0,e2,e3,e4,e5⟩:=h5.gK j cs hj
 have xY: ∀q cs' b,blk ([some cs0]:BH) q=some cs'→qV q=some b→b=b0:=fun q cs' b e1 e2=>by
  cases q with
  |zero=>rw [wI] at e2;cases e2;rfl
  |succ q=>simp [blk] at e1
 obtain ⟨bu,bku,hbu,u2,u3,u4,u5⟩:=h5.gK 0 cu hu
 obtain rfl:bu=b0:=by
  have:=h7 0 (by simp)
  rw [hbu,wI] at this
  injection this
 have SE:bn≠bu:=fun e=>hj0 (h5.inj j 0 cs cu bn hj hu hb0 (by rw [e];exact hbu))
 have hge:HA.n≤bn:=by
  rcases h6.own j cs bn hj hb0 with h9|⟨q,cs',h9,h10⟩
  ·exact h9
  ·exact absurd (xY q cs' bn h9 h10) SE
 have hkeep: ∀b,b<HA.n→b≠bu→HA'.get b=HA.get b:=fun b hb hne=>h6.keep b hb fun q cs' e1 e2=>hne (xY q cs' b e1 e2)
 have hne: ∀q cs' b,q≠i→blk H q=some cs'→ρ q=some b→b≠bu:=fun q cs' b hq e1 e2 e=>hq (h2.inj q i cs' cs0 b e1 hc0 e2 (by rw [e];exact r1))
 have hold: ∀q cs',blk ((H.set i (some cu))++[some cs]) q=some cs'→(q=H.length∧cs'=cs)∨(q<H.length∧q≠i∧blk H q=some cs')∨(q<H.length∧q=i∧cs'=cu):=fun q cs' hc=>by
  rcases Nat.lt_trichotomy q H.length with hq|hq|hq
  ·right
   have hc':blk (H.set i (some cu)) q=some cs':=by
    unfold blk at hc⊢
    rwa [List.getElem?_append_left (by simpa using hq)] at hc
   rw [jW hi] at hc'
   split at hc'
   ·rename_i e
    injection hc' with hc'
    exact .inr ⟨hq,e,hc'.symm⟩
   ·exact .inl ⟨hq,by assumption,hc'⟩
  ·left
   subst hq
   unfold blk at hc
   rw [List.getElem?_append_right (by simp)] at hc
   simp at hc
   exact ⟨rfl,hc.symm⟩
  ·unfold blk at hc
   rw [List.getElem?_eq_none (by simp;omega)] at hc
   cases hc
 have hρ: ∀q,q<H.length→put ρ H.length bn q=ρ q:=fun q hq=>by simp only [put];rw [if_neg (by omega)]
 have lF:put ρ H.length bn H.length=some bn:=by simp [put]
 have hv:VR (put ρ H.length bn) Z1 (.slice (some ⟨H.length,0,none⟩) l e) v':=by
  obtain ⟨b,hb,rfl⟩:=h4.ng
  rw [hb0] at hb;cases hb
  exact .slice lF
 have hat: ∀q cs' b,blk ((H.set i (some cu))++[some cs]) q=some cs'→put ρ H.length bn q=some b→(q=H.length∧b=bn)∨(q≠i∧q<H.length∧ρ q=some b∧blk H q=some cs')∨(q=i∧b=bu):=fun q cs' b hc hb=>by
  rcases hold q cs' hc with ⟨rfl,rfl⟩|⟨hq,hqi,hc⟩|⟨hq,rfl,rfl⟩
  ·rw [lF] at hb;cases hb
   exact .inl ⟨rfl,rfl⟩
  ·rw [hρ q hq] at hb
   exact .inr (.inl ⟨hqi,hq,hb,hc⟩)
  ·rw [hρ q hq,r1] at hb
   cases hb
   exact .inr (.inr ⟨rfl,rfl⟩)
 refine ⟨v',HA',h3,(fun h=>by cases h),put ρ H.length bn,Z1,_,_,hv,⟨fun q cs' hc=>?_,fun q q' c1 c2 b k1 k2 k3 k4=>?_,fun q cs' b k1 k2=>?_,h5.jl,fun q hq=>?_⟩,by simp,hρ,⟨h6.n,fun b hb hno=>?_,fun q cs' b k1 k2=>?_,h6.zx,fun b bk hb=>?_⟩,hK⟩
 ·rcases hold q cs' hc with ⟨rfl,rfl⟩|⟨hq,hqi,hc⟩|⟨hq,rfl,rfl⟩
  ·exact ⟨bn,bk1,lF,e2,e3,e4,(hn.vz e5).vl⟩
  ·obtain ⟨b,bk,k1,k2,k3,k4,k5⟩:=h2.gK q cs' hc
   refine ⟨b,bk,by rw [hρ q hq];exact k1,Nat.lt_of_lt_of_le k2 h6.n,by rw [hkeep b k2 (hne q cs' b hqi hc k1)];exact k3,k4,k5.mono (fun p d hp=>?_) h6.zx⟩
   rcases Nat.lt_or_ge p H.length with hpl|hpl
   ·rw [hρ p hpl];exact hp
   ·rw [h2.top p hpl] at hp;cases hp
  ·exact ⟨bu,bku,by rw [hρ q hq];exact r1,u2,u3,u4,(hnu.vz u5).vl⟩
 ·rcases hat q c1 b k1 k3 with ⟨rfl,rfl⟩|⟨hqi,hq,k3,hc⟩|⟨rfl,rfl⟩<;>rcases hat q' c2 _ k2 k4 with ⟨rfl,e⟩|⟨SA,hq',k4,hc'⟩|⟨rfl,e⟩
  ·rfl
  ·have:=h2.lt hc' k4;omega
  ·exact absurd e SE
  ·have:=h2.lt hc k3;omega
  ·exact h2.inj q q' c1 c2 b hc hc' k3 k4
  ·exact absurd e (hne q _ b hqi hc k3)
  ·exact absurd e.symm SE
  ·exact absurd rfl (hne q' _ _ SA hc' k4)
  ·rfl
 ·rcases hat q cs' b k1 k2 with ⟨rfl,rfl⟩|⟨hqi,hq,k2,hc⟩|⟨rfl,rfl⟩
  ·exact h5.iW j _ b hj hb0
  ·cases hz:Z1 b with
   |none=>rfl
   |some bk=>
    rcases h6.zn b bk hz with h9|h9|⟨p,cs',h9,h10⟩
    ·rw [h2.iW q _ b hc k2] at h9;cases h9
    ·have:=h2.lt hc k2;omega
    ·exact absurd (xY p cs' b h9 h10) (hne q _ b hqi hc k2)
  ·exact h5.iW 0 cu b hu hbu
 ·simp only [List.length_append,List.length_set,List.length_singleton] at hq
  simp only [put]
  rw [if_neg (by omega)]
  exact h2.top q (by omega)
 ·refine hkeep b hb fun e=>?_
  rw [e] at hno
  exact hno i cs0 hc0 r1
 ·rcases hat q cs' b k1 k2 with ⟨rfl,rfl⟩|⟨hqi,hq,k2,hc⟩|⟨rfl,rfl⟩
  ·exact .inl hge
  ·exact .inr ⟨q,cs',hc,k2⟩
  ·exact .inr ⟨q,cs0,hc0,r1⟩
 ·rcases h6.zn b bk hb with h9|h9|⟨p,cs',h9,h10⟩
  ·exact .inl h9
  ·exact .inr (.inl h9)
  ·rw [xY p cs' b h9 h10]
   exact .inr (.inr ⟨i,cs0,hc0,r1⟩)
end Go.Bm
namespace Go.Bm
open Go Go.Am
def qA (ns:List Nat) (H:BH):BH:=ns.map fun i=>(blk H i).map (List.map (ren ns))
theorem Ia {ns:List Nat} {H:BH} {j:Nat} {cs:List Value} (h:blk (qA ns H) j=some cs): ∃i cs0,ns[j]? =some i∧blk H i=some cs0∧cs=cs0.map (ren ns):=by
 unfold blk qA at h
 rw [List.getElem?_map] at h
 cases h1:ns[j]? with
 |none=>rw [h1] at h;cases h
 |some i=>
  rw [h1] at h
  simp only [Option.map_some,Option.getD_some] at h
  change (blk H i).map _=some cs at h
  cases h2:blk H i with
  |none=>rw [h2] at h;cases h
  |some cs0=>rw [h2] at h;exact ⟨i,cs0,rfl,h2,by simpa using h.symm⟩
theorem Gh.wG {k:Nat} {f:Fr} {H:BH} (ns:List Nat) (hd:ns.Nodup) (hk: ∀j,j<k→ns[j]? =some j):Gh k f H (fun t=>ren ns (f t)) (qA ns H):=by
 refine ⟨fun _=>?_,fun ρ Z fA HA h1 h2=>?_⟩
 ·rcases Nat.lt_or_ge ns.length k with h|h
  ·have:=hk ns.length h
   simp at this
  ·simpa [qA] using h
 ·have hr: ∀(i j:Nat),ns[j]? =some i→(match ns[j]? with|some i=>ρ i|none=>none)=ρ i:=fun i j h=>by rw [h]
  refine ⟨fun j=>match ns[j]? with|some i=>ρ i|none=>none,Z,fun t=>CU hr (h1 t),⟨fun j cs hc=>?_,fun j j' cs cs' b hc hc' hb hb'=>?_,fun j cs b hc hb=>?_,h2.jl,fun j hj=>?_⟩,fun j hj=>?_,⟨Nat.le_refl _,fun _ _ _=>rfl,fun j cs b hc hb=>?_,fun _ _ h=>h,fun _ _ h=> .inl h⟩⟩
  ·obtain ⟨i,cs0,hi,hc',rfl⟩:=Ia hc
   obtain ⟨b,bk,e1,e2,e3,e4,e5⟩:=h2.gK i cs0 hc'
   refine ⟨b,bk,by rw [hi];exact e1,e2,e3,e4,by simpa using e5.1,fun q c d q1 q2=>?_⟩
   rw [List.getElem?_map] at q1
   obtain ⟨p,hp,rfl⟩:=map_inj q1
   exact CU hr (e5.2 q p d hp q2)
  ·obtain ⟨i,c0,hi,hci,_⟩:=Ia hc
   obtain ⟨i',c0',hi',rV,_⟩:=Ia hc'
   rw [hi] at hb;rw [hi'] at hb'
   have:=h2.inj i i' c0 c0' b hci rV hb hb'
   subst this
   obtain ⟨e1,e2⟩:=List.getElem?_eq_some_iff.1 hi
   obtain ⟨e3,e4⟩:=List.getElem?_eq_some_iff.1 hi'
   have hp:=List.pairwise_iff_getElem.1 hd
   rcases Nat.lt_trichotomy j j' with hl|hl|hl
   ·exact absurd (e2.trans e4.symm) (hp j j' e1 e3 hl)
   ·exact hl
   ·exact absurd (e4.trans e2.symm) (hp j' j e3 e1 hl)
  ·obtain ⟨i,c0,hi,hci,_⟩:=Ia hc
   rw [hi] at hb
   exact h2.iW i c0 b hci hb
  ·have:ns[j]? =none:=List.getElem?_eq_none (by simpa [qA] using hj)
   rw [this]
  ·exact hr j j (hk j hj)
  ·obtain ⟨i,c0,hi,hci,_⟩:=Ia hc
   rw [hi] at hb
   exact .inr ⟨i,c0,hci,hb⟩
theorem dK.wG {k:Nat} {v:Value} {H:BH} (ns:List Nat) (hd:ns.Nodup) (hk: ∀j,j<k→ns[j]? =some j) (hv:NN v):dK k v H v (qA ns H):=
 ⟨(Gh.wG (f:=fun _=>v) ns hd hk).1,fun ρ Z u HA h1 h2=>by
  obtain ⟨ρ',Z',h3,h4,h5,h6⟩:=(Gh.wG (f:=fun _=>v) ns hd hk).2 ρ Z (fun _=>u) HA (fun _=>h1) h2
  refine ⟨ρ',Z',?_,h4,h5,h6⟩
  exact (hv ρ Z u h1).mono h6.zx|> .z⟩
theorem apa {ρ:Nat→Option Nat} {Z:Nat→Option dh} {HA:aA} {H:BH} {i:Nat} {cs:List Value} (h2:Rel ρ Z H HA) (hc:blk H i=some cs) (hn:aT cs):
  ∃Z',Rel ρ Z' ((rP (fU i cs) H).set i none) HA∧jh ρ Z H HA ρ Z' ((rP (fU i cs) H).set i none) HA∧ ∀v u,VR ρ Z v u→VR ρ Z' (fU i cs v) u:=by
 obtain ⟨Z',h3,h4,h5⟩:=FU h2 hc hn
 have hi:=yZ hc
 have hset: ∀j cs',blk ((rP (fU i cs) H).set i none) j=some cs'→j≠i∧ ∃cs0,blk H j=some cs0∧cs'=cs0.map (fU i cs):=fun j cs' h=>by
  rw [jW (by simpa [rP] using hi)] at h
  split at h
  ·cases h
  ·rename_i hne
   exact ⟨hne,adw h⟩
 have hold: ∀j cs0,j≠i→blk H j=some cs0→blk (H.set i none) j=some cs0:=fun j cs0 hne h=>by rw [jW hi,if_neg hne];exact h
 refine ⟨Z',⟨fun j cs' h=>?_,fun j j' c1 c2 b e1 e2 e3 e4=>?_,fun j cs' b e1 e2=>?_,h3.jl,fun j hj=>h2.top j (by simpa [rP] using hj)⟩,⟨h4.n,h4.keep,fun j cs' b e1 e2=>?_,h4.zx,h4.zn⟩,h5⟩
 ·obtain ⟨hne,cs0,g1,rfl⟩:=hset j cs' h
  obtain ⟨b,bk,k1,k2,k3,k4,k5⟩:=h2.gK j cs0 g1
  refine ⟨b,bk,k1,k2,k3,k4,by simpa using k5.1,fun q c d q1 q2=>?_⟩
  rw [List.getElem?_map] at q1
  obtain ⟨p,hp,rfl⟩:=map_inj q1
  exact h5 _ _ (k5.2 q p d hp q2)
 ·obtain ⟨n1,x1,g1,_⟩:=hset j c1 e1
  obtain ⟨n2,x2,g2,_⟩:=hset j' c2 e2
  exact h2.inj j j' x1 x2 b g1 g2 e3 e4
 ·obtain ⟨n1,x1,g1,_⟩:=hset j cs' e1
  exact h3.iW j x1 b (hold j x1 n1 g1) e2
 ·obtain ⟨n1,x1,g1,_⟩:=hset j cs' e1
  exact h4.own j x1 b (hold j x1 n1 g1) e2
theorem dK.fzA {k:Nat} {v:Value} {H:BH} {i:Nat} {cs:List Value} (hc:blk H i=some cs) (hn:aT cs):dK k v H (kL i cs v) ((rP (fU i cs) H).set i none):=
 ⟨fun h=>by simpa [rP] using h,fun ρ Z u HA h1 h2=>by
  obtain ⟨Z',h3,h4,h5⟩:=apa h2 hc hn
  refine ⟨ρ,Z',?_,h3,fun _ _=>rfl,h4⟩
  unfold kL
  split
  ·rename_i vs
   obtain ⟨ds,rfl,hl⟩:=h1.uO
   obtain ⟨ds⟩:=ds
   refine .tuple (by simpa using hl.1) fun i c d k1 k2=>?_
   rw [List.getElem?_map] at k1
   obtain ⟨q,hq,rfl⟩:=map_inj k1
   exact h5 _ _ (hl.2 i q d hq k2)
  ·exact h5 _ _ h1⟩
end Go.Bm
namespace Go.Bm
open Go Go.Am
theorem aar {xs:List (List Nat)} {k:Nat} (h:k<xs.length):xs.getD k []∈xs:=by simp [List.getD,h]
section
variable {code:List Nat} {a:Nat} {h:Int}
theorem aoh {x:Bool} {p:List Nat} {n:Nat} {H:BH} {K:Value→BH→Prop} (hb:By 16 p) (hp:Perm p n) (hK:K (S H.length 0 (typ p n).length 1) (H++[some ((typ p n).map bT)])):aJ x ER [PL p,I n] H K:=
 J3 (by (simp only [RH])) oh (ab1 hb hp) hK
def gY (r:List Nat):List Int:=r.map fun x:Nat=>(x:Int)
theorem xC {r:List Nat}:(gY r).length=r.length:=by simp [gY]
theorem acF {r:List Nat}:r.map bT=(gY r).map I:=by
 rw [gY,List.map_map]
 rfl
theorem xM {r:List Nat}:FN r=FI (gY r):=by
 rw [FI,xC,←acF]
theorem L8 {ns:List Nat}:(SC code a h).map (ren ns)=SC code a h:=rfl
section
variable {x y z:Value} {H:BH} {b j o l e:Nat}
end
end
end Go.Bm
namespace Go.Bm
open Go Go.Am
section
variable {code:List Nat} {a:Nat} {h:Int}
theorem G8 {p:List Nat} {n:Nat} (hp:Perm p n):(typ p n).length≤100:=by
 have hn:=hp.1
 have:=xA hp
 rw [Dz hp]
 omega
end
end Go.Bm
namespace Go.Bm
open Go Go.Am
theorem MP {α:Type} {l:List α} {s:α} {a k:Nat} (h:s∈l.drop a):s∈(l.drop a).take k∨s∈l.drop (a+k):=by
 rw [←List.take_append_drop k (l.drop a)] at h
 rcases List.mem_append.1 h with h|h
 ·exact .inl h
 ·rw [List.drop_drop] at h
  exact .inr h
theorem apb:(wl 8).length≤1432:=by decide+kernel
theorem adz {p:List UInt8→Bool} (h0:(((wl 8).drop 0).take 358).all p=true) (h1:(((wl 8).drop 358).take 358).all p=true) (h2:(((wl 8).drop 716).take 358).all p=true) (h3:(((wl 8).drop 1074).take 358).all p=true) {s:List UInt8} (hs:s∈wl 8):p s=true:=by
 have hs:s∈(wl 8).drop 0:=hs
 rcases MP (k:=358) hs with h|hs
 ·exact List.all_eq_true.1 h0 s h
 rcases MP (k:=358) hs with h|hs
 ·exact List.all_eq_true.1 h1 s h
 rcases MP (k:=358) hs with h|hs
 ·exact List.all_eq_true.1 h2 s h
 rcases MP (k:=358) hs with h|hs
 ·exact List.all_eq_true.1 h3 s h
 rw [List.drop_eq_nil_of_le apb] at hs
 cases hs
theorem adA {n:Nat} (h1:1≤n) (h7:n≤7):n∈[1,2,3,4,5,6,7]:=by simp;omega
theorem adB {n:Nat} (h1:1≤n) (h7:n≤8):n∈[1,2,3,4,5,6,7,8]:=by simp;omega
theorem apc {n:Nat} (h1:1≤n) (h8:n≤8) {s:List UInt8} (hs:s∈wl n):Bv s=true:=by
 by_cases h:n≤7
 ·exact List.all_eq_true.1 (List.all_eq_true.1 apd n (adA h1 h)) s hs
 ·obtain rfl:n=8:=by omega
  exact adz ape apf apg aph hs
theorem apj {n:Nat} (h1:1≤n) (h8:n≤8) {s:List UInt8} (hs:s∈wl n):Bz s=true:=by
 by_cases h:n≤7
 ·exact List.all_eq_true.1 (List.all_eq_true.1 apk n (adA h1 h)) s hs
 ·obtain rfl:n=8:=by omega
  exact adz apl apm apn apo hs
theorem half {n:Nat}:2*n/2=n:=by omega
theorem PS {n:Nat} (h1:1≤n) (h8:n≤8) {s:List UInt8} (hs:s∈wl n):bC n (dY s) (eX s)∧Tree n (dY s) (eX s):=by
 have h:=apc h1 h8 hs
 rw [Bv,(CY h1 h8 hs).2,half] at h
 simpa using h
theorem adC: ∀{a b c:List UInt8},Op.bytesLess a b=true→Op.bytesLess b c=true→Op.bytesLess a c=true
 |[],[],_,h,_=>by simp [Op.bytesLess] at h
 | _,_,[],_,h=>by simp [Op.bytesLess] at h
 |[],_::_,_::_,_,_=>rfl
 | _::_,[],_::_,h,_=>by simp [Op.bytesLess] at h
 |a::x,b::y,c::z,h1,h2=>by
  simp only [Op.bytesLess,Bool.or_eq_true,decide_eq_true_eq,Bool.and_eq_true,beq_iff_eq] at h1 h2⊢
  rcases h1 with h1|⟨h1,h1'⟩
  ·rcases h2 with h2|⟨h2,_⟩
   ·exact .inl (UInt8.lt_trans h1 h2)
   ·exact .inl (h2▸h1)
  ·rcases h2 with h2|⟨h2,h2'⟩
   ·exact .inl (h1▸h2)
   ·exact .inr ⟨h1.trans h2,adC h1' h2'⟩
theorem adD: ∀{a b:List UInt8},Op.bytesLess a b=false→Op.bytesLess b a=false→a=b
 |[],[],_,_=>rfl
 |[],_::_,h,_=>by simp [Op.bytesLess] at h
 | _::_,[],_,h=>by simp [Op.bytesLess] at h
 |a::x,b::y,h1,h2=>by
  simp only [Op.bytesLess,Bool.or_eq_false_iff,decide_eq_false_iff_not,Bool.and_eq_false_iff] at h1 h2
  have e:a=b:=by
   rcases UInt8.lt_or_lt_of_ne (a:=a) (b:=b)|>fun h=>(Decidable.em (a=b)) with h|h
   ·exact h
   ·rcases UInt8.lt_or_lt_of_ne h with h|h
    ·exact absurd h h1.1
    ·exact absurd h h2.1
  subst e
  have h3:=h1.2
  have h4:=h2.2
  simp at h3 h4
  rw [adD h3 h4]
theorem adE {a b c:List UInt8} (h1:kN a b=true) (h2:kN b c=true):kN a c=true:=by
 rw [zy] at*
 exact adC h1 h2
theorem apq {a b:List UInt8} (h1:kN a b=false) (h2:kN b a=false):a=b:=by
 rw [zy] at*
 exact adD h1 h2
theorem adF {b w:List Nat}: ∀k,(∃x,x≤k∧(iZ b w k).1=wd b w x)∧ ∀x,x≤k→kN (wd b w x) (iZ b w k).1=false
 |0=>⟨⟨0,Nat.le_refl _,rfl⟩,fun x hx=>by
  obtain rfl:x=0:=by omega
  exact Dw _⟩
 |k+1=>by
  obtain ⟨⟨y,hy,ey⟩,hm⟩:=adF (b:=b) (w:=w) k
  rw [iZ]
  split
  ·rename_i he
   rw [La,decide_eq_true_eq] at he
   refine ⟨⟨y,by omega,ey⟩,fun x hx=>?_⟩
   by_cases e:x=k+1
   ·rw [e,he];exact Dw _
   ·exact hm x (by omega)
  ·split
   ·rename_i hl
    refine ⟨⟨k+1,Nat.le_refl _,rfl⟩,fun x hx=>?_⟩
    by_cases e:x=k+1
    ·rw [e];exact Dw _
    ·cases hc:kN (wd b w x) (wd b w (k+1)) with
     |false=>rfl
     |true=>
      have:=adE hc hl
      rw [hm x (by omega)] at this
      cases this
   ·rename_i hl
    refine ⟨⟨y,by omega,ey⟩,fun x hx=>?_⟩
    by_cases e:x=k+1
    ·rw [e];simpa using hl
    ·exact hm x (by omega)
def wF (s:List UInt8):List UInt8:=(iZ (dY s) (eX s) (s.length/2-1)).1
theorem apr {n:Nat} (h1:1≤n) (h8:n≤8) {s:List UInt8} (hs:s∈wl n):decide (wF s=s)=(lits n).contains (bitsOf s):=by
 have hc:=apj h1 h8 hs
 have hl:=(CY h1 h8 hs).2
 rw [Bz,hl,half,Bool.and_eq_true,beq_iff_eq,adG,decide_eq_true_eq] at hc
 obtain ⟨hr,hn⟩:=hc
 rw [←hn]
 obtain ⟨⟨y,hy,ey⟩,hm⟩:=adF (b:=dY s) (w:=eX s) (s.length/2-1)
 rw [Bool.eq_iff_iff,decide_eq_true_eq,adH,List.all_eq_true]
 constructor
 ·intro he x hx
  rw [List.mem_range] at hx
  have:=hm (x+1) (by omega)
  rw [show (iZ (dY s) (eX s) (s.length/2-1)).1=s from he,zy] at this
  rw [this]
  rfl
 ·intro ha
  have hall: ∀x,x≤s.length/2-1→kN (wd (dY s) (eX s) x) s=false:=fun x hx=>by
   cases x with
   |zero=>rw [hr];exact Dw _
   |succ x=>
    have:=ha x (List.mem_range.2 (by omega))
    rw [zy]
    simpa using this
  have e1:=hall y hy
  have e2:=hm 0 (Nat.zero_le _)
  rw [hr] at e2
  rw [←ey] at e1
  exact apq e1 e2
def okW (xs ys:List Int) (n:Nat) (s:List UInt8):Bool:=decide (wF s=s)&&(decide (gY (typ (dY s) n)=xs)&&decide (gY (typ (eX s) n)=ys))
def ni (xs ys:List Int) (n:Nat):List (List UInt8):=(wl n).filter (okW xs ys n)
theorem KF {a b:List Nat} (h:gY a=gY b):a=b:=by
 unfold gY at h
 exact List.map_inj_right (fun x y e=>by omega)|>.1 h
theorem aaB {xs ys:List Int} {n:Nat} (h1:1≤n) (h8:n≤8):ni xs ys n=(DL n).filter fun s=>decide (gY (typ (dY s) n)=xs)&&decide (gY (typ (eX s) n)=ys):=by
 unfold ni DL
 rw [List.filter_filter]
 refine List.filter_congr fun s hs=>?_
 rw [okW,apr h1 h8 hs,Bool.and_comm]
theorem aaw {xs ys:List Int} {n:Nat} (h1:1≤n) (h8:n≤8):(ni xs ys n).length≤12:=by
 rw [aaB h1 h8,←List.countP_eq_length_filter]
 have ht:=List.all_eq_true.1 aaA n (adB h1 h8)
 rw [decide_eq_true_eq] at ht
 have h12:=List.all_eq_true.1 aps n (adB h1 h8)
 by_cases he: ∃s∈DL n,(decide (gY (typ (dY s) n)=xs)&&decide (gY (typ (eX s) n)=ys))=true
 ·obtain ⟨s,hs,e⟩:=he
  simp only [Bool.and_eq_true,decide_eq_true_eq] at e
  have hm:(typ (dY s) n,typ (eX s) n)∈tys n:=by
   rw [←ht]
   exact List.mem_map.2 ⟨s,hs,rfl⟩
  have hc:=List.all_eq_true.1 h12 _ hm
  rw [decide_eq_true_eq,←ht,List.count,List.countP_map] at hc
  refine Nat.le_trans (List.countP_mono_left fun t _ h=>?_) hc
  simp only [Bool.and_eq_true,decide_eq_true_eq] at h
  have e1:=KF (h.1.trans e.1.symm)
  have e2:=KF (h.2.trans e.2.symm)
  simp [e1,e2]
 ·have:(DL n).countP (fun s=>decide (gY (typ (dY s) n)=xs)&&decide (gY (typ (eX s) n)=ys))=0:=List.countP_eq_zero.2 fun s hs h=>he ⟨s,hs,h⟩
  omega
theorem anX {xs ys:List Int} {n:Nat}:Ord (ni xs ys n):=fun i hi=>by
 have hp:(ni xs ys n).Pairwise fun a b=>kN a b=true:=(Qj (2*n) 0 n).filter _
 have h:=List.pairwise_iff_getElem.1 hp i (i+1) (by omega) hi (by omega)
 have e1:sg (ni xs ys n) i=(ni xs ys n)[i]:=by simp [sg,List.getD,show i<(ni xs ys n).length by omega]
 have e2:sg (ni xs ys n) (i+1)=(ni xs ys n)[i+1]:=by simp [sg,List.getD,hi]
 rw [e1,e2]
 refine ⟨?_,fun e=>?_⟩
 ·cases hc:kN (ni xs ys n)[i+1] (ni xs ys n)[i] with
  |false=>rfl
  |true=>
   have:=adE h hc
   rw [Dw] at this
   cases this
 ·rw [e,Dw] at h
  cases h
end Go.Bm
