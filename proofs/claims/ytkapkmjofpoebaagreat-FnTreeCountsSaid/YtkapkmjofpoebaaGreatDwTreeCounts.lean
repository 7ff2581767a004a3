/- FnTreeCounts, in the second machine. -/
import Derived.Test.YtkapkmjofpoebaaGreatDpG22
set_option linter.unusedVariables false
set_option linter.unusedSimpArgs false
set_option linter.unusedSectionVars false
namespace Go.Bm
open Go Go.Am
def PE:aj:=(.seq aQ.UR (.seq aQ.UU (.seq aQ.UW (.seq aQ.UY .ret))))
def PG:aj:=(.seq aQ.UG (.seq aQ.UH (.seq aQ.UJ (.seq aQ.UK (.seq aQ.UL (.seq (.seq aQ.UM (.cond (.t 299) (.seq aQ.UN .ret) .skip)) (.seq (.seq aQ.UO (.cond (.t 316) (.seq aQ.UQ .ret) .skip)) PE)))))))
def PK:aj:=(.seq aQ.qG (.seq aQ.r27 (.seq aQ.r28 (.seq (.seq aQ.oV (.cond (.t 182) (.seq aQ.pX .ret) .skip)) (.seq (.seq aQ.tu (.cond (.t 184) (.seq aQ.r32 (.seq aQ.vJ (.seq (.seq aQ.vK (.cond (.t 220) (.seq aQ.vM .ret) .skip)) (.seq (.seq aQ.uG (.block 2 (.loop aQ.l2))) (.seq aQ.UE (.cond (.t 258) (.seq aQ.UF .ret) .skip)))))) .skip)) PG)))))
def tC2:aj:=(.seq aQ.nD (.seq aQ.r22 (.seq aQ.pV (.seq (.seq aQ.pW (.cond (.t 153) (.seq aQ.r25 .ret) .skip)) PK))))
theorem alU {n:Int} {b w:List Nat} (hb:By 16 b) (hw:By 16 w):(zi n b w).length≤1000:=by
 unfold zi
 split
 ·rename_i h
  rw [xC]
  have:=alV hb hw h
  omega
 ·simp
theorem alW {n:Int} {b w:List Nat} (hb:By 16 b) (hw:By 16 w):(CW n b w).length≤1000:=by
 unfold CW
 split
 ·rename_i h
  rw [xC]
  exact alX hb hw h
 ·simp
theorem aan {ws:List Int} {c:List Nat} (hc: ∀x∈c,1≤el ws x∧el ws x≤1000000000): ∀j,j≤c.length→0≤nX ws c j∧nX ws c j≤1000000000*j
 |0,_=>by simp [nX]
 |j+1,hj=>by
  have:=aan hc j (by omega)
  have h1:=hc _ (iM (show j<c.length by omega))
  rw [Kz (by omega)]
  omega
section
variable {code:List Nat} (hl:code.length≤1048576) (hcd: ∀i,nl code i<256)
include hl hcd
theorem tc5 {f:Fr} (g0:f 0=FB code):T 0 PE (jq 0 [.tmp 2] fun v _=>v= .bool true) f []:=by
 have hz:=kM
 unfold PE
 refine aY (aC @g0 @aH) fun Kr hKr=>?_
 refine alY hl hcd fun n b w hb hw hn=>?_
 have hlb:=hb.len
 have cZ:=hw.len
 have hll:= @alW n b w hb hw
 refine bP (aC @aH @aK) ?_
 refine aI hKr ?_
 refine aY (aC @aH @aK) fun Kr hKr=>?_
 refine alZ hb hw ?_
 refine bP (aC @aH @aK) ?_
 refine aI hKr ?_
 refine aY (aC @aH @aK) fun Kr hKr=>?_
 refine al0 hb hw ?_
 refine bP (aC @aH @aK) ?_
 refine aI hKr ?_
 refine dB fun Kr hKr=>?_
 refine PN (by omega) (by omega) ?_
 rw [decide_eq_true rfl]
 refine aO ?_
 refine aI hKr ?_
 exact Zu
theorem tc4 {f:Fr} (g0:f 0=FB code):T 0 PG (jq 0 [.tmp 2] fun v _=>v= .bool true) f []:=by
 have hz:=kM
 unfold PG
 refine aY (aC @g0 @aH) fun Kr hKr=>?_
 refine al1 hl hcd fun n b w hb hw hn=>?_
 have hlb:=hb.len
 have cZ:=hw.len
 have hll:= @alU n b w hb hw
 refine bP (aC @aH @aK) ?_
 refine aI hKr ?_
 refine aY (aC @aH @aK) fun Kr hKr=>?_
 refine al2 hb hw fun hC=>?_
 refine bP (aC @aH @aK) ?_
 refine aI hKr ?_
 refine aY (aC @aH @aK) fun Kr hKr=>?_
 refine al3 hb hw ?_
 refine bP (aC @aH @aK) ?_
 refine aI hKr ?_
 refine aY (aC @aH @aK) fun Kr hKr=>?_
 refine al4 hb hw ?_
 refine bP (aC @aH @aK) ?_
 refine aI hKr ?_
 refine aY (aC @aH @aK) fun Kr hKr=>?_
 refine al5 hb hw ?_
 refine bP (aC @aH @aK) ?_
 refine aI hKr ?_
 refine dB fun Kr hKr=>?_
 refine PN (by omega) (by omega) ?_
 rw [decide_eq_true rfl]
 refine aO ?_
 refine aI hKr ?_
 refine bY ?_
 by_cases ht:fV n b w []=0
 ·obtain ⟨u,v,h1,h2⟩:=al6 (hC ht)
  have h3:zi n b w=[(u:Int),(v:Int)]:=by rw [zi,if_pos ht,h1];rfl
  have h4:xE n b w (rY n b w)=(((rY n b w:Nat):Int),0):=if_pos ht
  have h5:decide ((u:Int)=2)=decide (((rY n b w:Nat):Int).tmod 2=1):=by
   rw [CX]
   exact decide_eq_decide.2 ⟨fun h=>h2.1 (by omega),fun h=>by have:=h2.2 h;omega⟩
  rw [h3,h4]
  have h6:wW 1 (FI [(u:Int),(v:Int)]) (.int .i64 0)=some (Fp 0 [I u,I v]):=rfl
  have h7:bV none [I (u:Nat),I (v:Nat)] 0=some (I u):=rfl
  refine au (bG @ht @h6 @h7 @h5) ?_
  refine bY ?_
  refine jO (xF [] (by simp) rfl) (tc5 hl hcd ?_)
  exact ah
 ·refine au @ht ?_
  refine bY ?_
  refine jO (xF [] (by simp) rfl) (tc5 hl hcd ?_)
  exact ah
theorem tc3 {f:Fr} (g0:f 0=FB code):T 0 PK (jq 0 [.tmp 2] fun v _=>v= .bool true) f []:=by
 have hz:=kM
 unfold PK
 refine aY (aC @g0 @aH) fun Kr hKr=>?_
 refine al7 hl hcd fun n b w xs ys hb hw hn hxl hyl=>?_
 have hlb:=hb.len
 have cZ:=hw.len
 have ex2:wJ 2 (.tuple ⟨[DV n b w,FI xs,FI ys]⟩)=some (FI ys):=rfl
 refine bP (aX @aH @aK @ex2) ?_
 refine aI hKr ?_
 have hi:=al8 (n:=n) (bl:=xs) (wh:=ys) hb hw (by omega) (by omega)
 have hs:=al9 (n:=n) (bl:=xs) (wh:=ys) hb hw (by omega) (by omega)
 have hrl:=fun W c=> @ama n b w xs ys W c
 have hrf:=fun W c=> @amb b w xs ys n W c
 have hrn:=fun c=> @amc b w xs ys n c
 generalize nY n b w xs ys=r at hi hs hrl hrf hrn
 refine aY (aC @aH @aK) fun Kr hKr=>?_
 refine aao aap hi ?_
 refine bP (aC @aH @aK) ?_
 refine aI hKr ?_
 refine aY (aC @aH @aK) fun Kr hKr=>?_
 refine aao aap hs ?_
 have hrw:(r.1.getD []).length≤16:=by
  obtain ⟨o,c⟩:=r
  cases o with
  |none=>simp
  |some W=>exact hrl W c rfl
 refine bP (aC @aH @aK) ?_
 refine aI hKr ?_
 refine dB fun Kr hKr=>?_
 refine PN (by omega) (by omega) ?_
 rw [decide_eq_true rfl]
 refine aO ?_
 refine aI hKr ?_
 refine bY ?_
 obtain ⟨o,c⟩:=r
 cases o with
 |none=>
  have h0:=hrn c rfl
  simp only
  refine au @h0 ?_
  refine bY ?_
  refine jO (xF [] (by simp) rfl) (tc4 hl hcd ?_)
  exact ah
 |some W=>
  obtain ⟨rfl,hd,hW⟩:=hrf W c rfl
  obtain ⟨m,rfl,hm1,hm2⟩:=hd.n0
  rw [Int.toNat_natCast] at hW
  simp only [Option.getD_some]
  have hWl:=hW.len
  have hxb:=hW.lx
  have hyb:=hW.ly
  have hc1:=xA hd.1
  have hc2:=xA hd.2.1
  refine aB ?_
  refine dI ?_
  refine aY (aC @aH @aK) fun Kr hKr=>?_
  refine aaq hb hd.1 ?_
  rw [Int.toNat_natCast]
  refine bP (aC @aH @aK) ?_
  refine aI hKr ?_
  refine aY (aC @aH @aK) fun Kr hKr=>?_
  refine aaq hw hd.2.1 ?_
  rw [Int.toNat_natCast]
  refine bP (aC @aH @aK) ?_
  refine aI hKr ?_
  have hWb: ∀i,i<W.length→1≤el W i∧el W i≤1000000000:=fun i hi=>hW.bd i (by omega)
  refine dB fun Kr hKr=>?_
  refine KA (by omega) hWb ?_
  refine aO ?_
  refine KA (by omega) hW.bx ?_
  rw [←hW.sx]
  refine aO ?_
  refine KA (by omega) hWb ?_
  refine aO ?_
  refine KA (by omega) hW.by' ?_
  rw [←hW.sy]
  refine aO ?_
  refine aI hKr ?_
  refine bY ?_
  refine aB ?_
  refine bM (fun mm f H'=> ∃v,v≤(aP b m).length∧mm=(aP b m).length-v∧f 0=FB code∧f 24=FI xs∧f 25=FI ys∧f 26=FI W∧f 30=Fz (aP b m).length 1 ((aP b m).map FN)∧f 32=Fz (aP w m).length 1 ((aP w m).map FN)∧f 34=I v∧H'=[some (DC m b w)]) ((aP b m).length) ?_ ?_
  ·exact ⟨_,_,Gh.refl,0,by omega,by omega,ah,ah,ah,ah,ah,ah,ah,rfl⟩
  ·clear g0
   rintro mm f H' R ⟨v,hv,rfl,g0,g24,F9,AB,Gf,PO,xG,rfl⟩ hN hX hR hE
   simp only [aQ.l2,aG]
   refine au (aC @Gf @xG) ?_
   refine aV (v<(aP b m).length) (fun hc=>?_) fun hc=>?_
   ·have hvl:v<(aP b m).length:=by omega
    clear hc
    refine bK ?_
    obtain ⟨c,hcc⟩: ∃c,(aP b m).getD v []=c:=⟨_,rfl⟩
    have hcm:c∈aP b m:=by rw [←hcc];exact aar hvl
    have hcy:=oJ hd.1 hcm
    have hcl:=Ku hd.1 hcm
    have hce:=hW.at_ v hvl
    rw [hcc] at hce
    have hxv:=hW.bx v (by omega)
    refine aB ?_
    refine aB ?_
    refine bM (fun mm f H'=> ∃j,j≤c.length∧mm=c.length-j∧f 0=FB code∧f 24=FI xs∧f 25=FI ys∧f 26=FI W∧f 30=Fz (aP b m).length 1 ((aP b m).map FN)∧f 32=Fz (aP w m).length 1 ((aP w m).map FN)∧f 34=I v∧f 35=I (nX W c j)∧f 36=I j∧H'=[some (DC m b w)]) (c.length) ?_ ?_
    ·exact ⟨_,_,Gh.refl,0,by omega,by omega,ah,ah,ah,ah,ah,ah,ah,ah,ah,rfl⟩
    ·clear g0 g24 F9 AB Gf PO xG
     rintro mm f H' R2 ⟨j,hj,rfl,g0,g24,F9,AB,Gf,PO,xG,Gg,zk,rfl⟩ iG hX2 hR2 hE2
     simp only [aQ.l1,aG]
     refine au (jk @Gf @xG @zk @qO @hcc) ?_
     refine aV (j<c.length) (fun hc=>?_) fun hc=>?_
     ·have hjl:j<c.length:=by omega
      clear hc
      have hxn:=hcy.lt _ (iM hjl)
      have hb3:=aan (ws:=W) (c:=c) (fun x hx=>hW.bd x (hcy.lt x hx)) j (by omega)
      have hs3:=Kz (ws:=W) hjl
      have hw3:=hW.bd _ hxn
      refine bK ?_
      refine au (jM (bG @AB @Gf @xG @Gg) @zk @qO @hcc @mD @hWl) ?_
      refine bI @zk ?_
      exact iG (c.length-(j+1)) _ _ _ _ (by omega) Gh.refl ⟨j+1,by omega,rfl,ah,ah,ah,ah,ah,ah,ah,ah,ah,rfl⟩
     ·refine hX2 _ _ ?_
      obtain rfl:j=c.length:=by omega
      rw [amd,hce] at Gg
      refine iE ?_
      refine au (aX @g24 @xG @Gg) ?_
      refine bY ?_
      refine bI @xG ?_
      exact hN ((aP b m).length-(v+1)) _ _ _ _ (by omega) Gh.refl ⟨v+1,by omega,rfl,ah,ah,ah,ah,ah,ah,ah,rfl⟩
   ·refine hX _ _ ?_
    refine iE ?_
    refine au (aX @F9 @PO @hyb) ?_
    refine bY ?_
    refine jO (xF [] (by simp) rfl) (tc4 hl hcd ?_)
    exact ah
theorem tc2 {f:Fr} (g0:f 0=FB code):T 0 tC2 (jq 0 [.tmp 2] fun v _=>v= .bool true) f []:=by
 unfold tC2
 refine aY @g0 fun Kr hKr=>?_
 refine ame hl hcd fun xs ys hx hy=>?_
 refine aO ?_
 refine aI hKr ?_
 refine dB fun Kr hKr=>?_
 refine aas (by omega) (by omega) ?_
 refine aO ?_
 refine aI hKr ?_
 refine dB fun Kr hKr=>?_
 refine amf (by omega) (by omega) ?_
 refine aO ?_
 refine aI hKr ?_
 refine aB ?_
 refine bY ?_
 refine tc3 hl hcd ?_
 exact ah
omit hl hcd in
theorem aat {n:Nat} (h8:n≤8): ∀{l:List (List UInt8)},(∀s∈l,s.length=2*n)→(l.map oK).sum≤8*l.length
 |[],_=>by simp
 |s::l,h=>by
  have h1:=aat h8 (l:=l) fun t ht=>h t (by simp [ht])
  have h2:=h s (by simp)
  have h3:oK s≤8:=by
   rw [oK,h2,half]
   exact Nat.le_trans (Nat.div_le_self _ _) h8
  rw [List.map_cons,List.sum_cons,List.length_cons]
  omega
omit hl in
theorem adQ:aJ false SI [FB code] [] fun v _=>v= .bool true:=by
 have hz:=kM
 refine bf afD ?_;simp only [aQ,aG]
 refine aB ?_
 refine dB fun Kr hKr=>?_
 refine amg ?_
 refine aO ?_
 refine aI hKr ?_
 refine aV (4096<code.length) (fun hc=>?_) fun hc=>?_
 ·refine aB ?_
  exact Zu
 have hl:code.length≤1048576:=by omega
 refine dB fun Kr hKr=>?_
 refine amh hl hcd fun xs ys hx hy=>?_
 refine aO ?_
 refine aI hKr ?_
 have hi:=ami (xs:=xs) (ys:=ys) (by omega) (by omega)
 have hs:=amj (xs:=xs) (ys:=ys) (by omega) (by omega)
 refine dB fun Kr hKr=>?_
 refine aau (aT.cons .fz (aT.cons .fz aT.nil)) hi ?_
 refine aO ?_
 refine aI hKr ?_
 refine dB fun Kr hKr=>?_
 refine aau (aT.cons .fz (aT.cons .fz aT.nil)) hs ?_
 clear hi hs
 by_cases hok: ¬rZ xs ys
 ·have hr:resT xs ys=(none,2):=if_neg hok
  rw [hr]
  simp only [Option.getD_none]
  refine aO ?_
  refine aI hKr ?_
  refine dB fun Kr hKr=>?_
  refine aav qm.fz qm.fz (by simp) (by simp) ?_
  rw [decide_eq_true rfl]
  refine aO ?_
  refine aI hKr ?_
  refine bY ?_
  refine aB ?_
  refine bY ?_
  refine tc2 hl hcd ?_
  exact ah
 have hok:=Decidable.not_not.1 hok
 have hr:resT xs ys=(some (ni xs ys (dQ xs).toNat),0):=if_pos hok
 rw [hr]
 simp only [Option.getD_some]
 obtain ⟨hsum,hcode⟩:=amk hok
 have hp:=hok.1.1.pos
 have h8:=hok.2
 have hn1:1≤(dQ xs).toNat:=by omega
 have nZ:(dQ xs).toNat≤8:=by omega
 have hfew:= @aaw xs ys (dQ xs).toNat hn1 nZ
 have hmem: ∀s∈ni xs ys (dQ xs).toNat,s∈wl (dQ xs).toNat:=fun s hs=>(List.mem_filter.1 hs).1
 clear hp h8 hr
 generalize (dQ xs).toNat=n at*
 generalize ni xs ys n=W at*
 refine aO ?_
 refine aI hKr ?_
 refine dB fun Kr hKr=>?_
 refine aav qm.fz qm.fz (by omega) (by omega) ?_
 rw [decide_eq_true rfl]
 refine aO ?_
 refine aI hKr ?_
 refine bY ?_
 refine aB ?_
 refine dI ?_
 refine dB fun Kr hKr=>?_
 refine aas (by omega) (by omega) ?_
 rw [hcode,←hsum]
 refine aO ?_
 refine aI hKr ?_
 refine aB ?_
 refine aB ?_
 refine bM (fun m f H'=> ∃i,i≤W.length∧m=W.length-i∧f 0=FB code∧f 5=rH W∧f 9=I ((W.map oK).sum:Nat)∧f 10=I 0∧f 11=I (((W.take i).map oK).sum:Nat)∧f 12=I i∧H'=[]) (W.length) ?_ ?_
 ·exact ⟨_,_,Gh.refl,0,by omega,by omega,ah,ah,ah,ah,ah,ah,rfl⟩
 ·rintro m f H' R ⟨i,hi,rfl,g0,g5,g9,g10,g11,g12,rfl⟩ hN hX hR hE
  simp only [aQ.l0,aG]
  refine au (aC @g5 @g12) ?_
  refine aV (i<W.length) (fun hc=>?_) fun hc=>?_
  ·have hil:i<W.length:=by omega
   clear hc
   have hsm:sg W i∈W:=Gi hil
   obtain ⟨hwd,hsl⟩:=CY hn1 nZ (hmem _ hsm)
   obtain ⟨hd,ht⟩:=PS hn1 nZ (hmem _ hsm)
   have htk:W.take (i+1)=W.take i++[sg W i]:=KC hil
   obtain ⟨s,hse⟩: ∃s,sg W i=s:=⟨_,rfl⟩
   rw [hse] at hsm hwd hsl hd ht htk
   obtain ⟨hb,hw⟩:=zl hwd
   have hsn:s.length/2=n:=by omega
   have hlb:=hb.len
   have cZ:=hw.len
   have hsy:CZ n (dY s) (eX s)=(((vW s:Nat):Int),0):=by
    have htc:fV n (dY s) (eX s) []=0:=by
     rw [fV,if_neg (by simpa using hd),if_neg (by simp),if_neg (by rw [Int.toNat_natCast];simpa using ht)]
    unfold CZ
    rw [if_pos htc,Int.toNat_natCast,vW,hsn]
   have hs1:= @aml s
   have hs2:vW s≤16:=by
    have:= @KD (dY s) (eX s) (s.length/2-1)
    unfold vW
    omega
   have hq:(n:Int).tdiv (vW s:Nat)=((oK s:Nat):Int):=by rw [oK,hsn];rfl
   have hq8:oK s≤8:=by
    rw [oK,hsn]
    exact Nat.le_trans (Nat.div_le_self _ _) nZ
   have aax:((W.take (i+1)).map oK).sum=((W.take i).map oK).sum+oK s:=by
    rw [htk,List.map_append,List.sum_append];simp
   have hle:=aat nZ (l:=W.take i) fun t ht=>(CY hn1 nZ (hmem _ (List.mem_of_mem_take ht))).2
   rw [List.length_take] at hle
   refine bK ?_
   refine aY (bG @g5 @g12 @vX @hse) fun Kr hKr=>?_
   refine amm hwd ?_
   rw [hsn]
   refine bP (aC @aH @aK) ?_
   refine aI hKr ?_
   refine aY (aC @aH @aK) fun Kr hKr=>?_
   refine amn hb hw ?_
   rw [hsy]
   refine bP (aC @aH @aK) ?_
   refine aI hKr ?_
   refine aB ?_
   refine bY ?_
   have hs0:((vW s:Nat):Int)≠0:=by omega
   have e11:(((W.take i).map oK).sum:Int)+(oK s:Int)=((((W.take (i+1)).map oK).sum:Nat):Int):=by rw [aax];omega
   refine au (jM @g11 @aH @aK @hq @hs0 @e11) ?_
   clear e11 aax
   refine bI @g12 ?_
   exact hN (W.length-(i+1)) _ _ _ _ (by omega) (xF [] (by simp) rfl) ⟨i+1,by omega,rfl,ah,ah,ah,ah,ah,ah,rfl⟩
  ·refine hX _ _ ?_
   obtain rfl:i=W.length:=by omega
   rw [List.take_length] at g11
   refine iE ?_
   refine au (aX @g9 @g10 @g11) ?_
   refine bY ?_
   refine tc2 hl hcd ?_
   exact ah
end
end Go.Bm
