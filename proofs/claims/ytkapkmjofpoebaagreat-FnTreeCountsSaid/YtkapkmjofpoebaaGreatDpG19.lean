/- DpNk, DpWa, BmX, DpY, Dp0b, Dp6, Dp6b, DpX, DpZ, DpDm, DpDn, DpWd, DpWe, DpWf, DpWh -/
import Derived.Test.YtkapkmjofpoebaaGreatBmS
import Derived.Test.YtkapkmjofpoebaaGreatDpG0
import Derived.Test.YtkapkmjofpoebaaGreatDpG16
import Derived.Test.YtkapkmjofpoebaaGreatDpG18
import Derived.Test.YtkapkmjofpoebaaGreatDpG2
set_option linter.unusedVariables false
set_option linter.unusedSimpArgs false
set_option linter.unusedSectionVars false
namespace Go.Bm
open Go Go.Am
def resT (xs ys:List Int):Option (List (List UInt8))×Int:=if rZ xs ys then (some (ni xs ys (dQ xs).toNat),0) else (none,2)
def P9 (r:Option (List (List UInt8))×Int) (v:Value) (H:BH):Prop:=
 match r with
 |(some W,c)=> ∃j,v= .tuple ⟨[S j 0 W.length 1,I c]⟩∧blk H j=some (W.map bQ)
 |(none,c)=>v= .tuple ⟨[.slice none 0 0,I c]⟩
theorem acp {l:List UInt8}:Value.string (bs l)=bQ l:=rfl
theorem acr {p:List UInt8→Bool} {ws:List (List UInt8)} {i:Nat} (h:i<ws.length):(ws.take (i+1)).filter p=(ws.take i).filter p++if p (sg ws i)=true then [sg ws i] else []:=by
 rw [KC h,List.filter_append]
 congr 1
 by_cases hp:p (sg ws i)=true
 ·rw [if_pos hp];simp [hp]
 ·rw [if_neg hp];simp [hp]
section
variable {xs ys:List Int}
theorem ami (hx:xs.length≤1048576) (hy:ys.length≤1048576):aJ false aeb [FI xs,FI ys] [] fun v H1=>P9 (resT xs ys) v H1:=by
 by_cases hok:rZ xs ys
 ·have hres:resT xs ys=(some (ni xs ys (dQ xs).toNat),0):=if_pos hok
  have hp:=hok.1.1.pos
  have h8:=hok.2
  obtain ⟨n,hn⟩: ∃n:Nat,dQ xs=n:=⟨(dQ xs).toNat,by omega⟩
  have hnt:(dQ xs).toNat=n:=by omega
  have hn1:1≤n:=by omega
  have nZ:n≤8:=by omega
  rw [hres,hnt]
  refine bf Ur ?_;simp only [gZ,aG]
  refine aB ?_
  refine dB fun Kr hKr=>?_
  refine acs hx hy ?_
  rw [decide_eq_true hok]
  refine aO ?_
  refine aI hKr ?_
  refine bY ?_
  refine aB ?_
  refine dB fun Kr hKr=>?_
  refine Bg hx ?_
  rw [if_pos hok.1.1,hn]
  refine aO ?_
  refine QO (2*n) (o:=0) (l:=n) (by omega) (by omega) ?_
  have hwl:(wl n).length≤65536:=by
   have h1:=xO (2*n) 0 n
   have h2:=Nat.pow_le_pow_right (n:=2) (by omega) (show 2*n≤16 by omega)
   exact Nat.le_trans h1 h2
  rw [show jP (2*n) 0 n=wl n from rfl]
  refine aO ?_
  refine aI hKr ?_
  refine bM (fun m f H'=> ∃(i:Nat) (us:List (List UInt8)),i≤(wl n).length∧m=(wl n).length-i∧us=((wl n).take i).filter (okW xs ys n)∧us.length≤65536∧f 0=FI xs∧f 1=FI ys∧f 6=S 0 0 us.length 1∧f 20=rH (wl n)∧f 21=I (wl n).length∧f 22=I i∧H'=[some (us.map bQ)]) ((wl n).length) ?_ ?_
  ·exact ⟨_,_,Gh.refl,0,[],by omega,by omega,by simp,by simp,ah,ah,ah,ah,ah,ah,rfl⟩
  ·rintro m f H' R ⟨i,us,hi,rfl,he,QS,g0,g1,g6,g20,g21,g22,rfl⟩ hN hX hR hE
   simp only [gZ.l0,aG]
   refine au (aC @g21 @g22) ?_
   refine aV (i<(wl n).length) (fun hc=>?_) fun hc=>?_
   ·have hm:=Gi hc
    have hft:=acr (p:=okW xs ys n) hc
    obtain ⟨hwd,hwn⟩:=CY hn1 nZ hm
    obtain ⟨hd,ht⟩:=PS hn1 nZ hm
    obtain ⟨hb,hw⟩:=zl hwd
    have hlb:=hb.len
    have cZ:=hw.len
    have anW:=kM
    have QT:(((wl n).take (i+1)).filter (okW xs ys n)).length≤65536:=by
     have:=List.length_filter_le (okW xs ys n) ((wl n).take (i+1))
     rw [List.length_take] at this
     omega
    have t1:=G8 hd.1
    have t2:=G8 hd.2.1
    refine bK ?_
    refine au (aX @g20 @g22 @vX) ?_
    have G9:wF (sg (wl n) i)=(iZ (dY (sg (wl n) i)) (eX (sg (wl n) i)) (n-1)).1:=by rw [wF,hwn,half]
    obtain ⟨s,hs⟩: ∃s,sg (wl n) i=s:=⟨_,rfl⟩
    rw [hs] at hm hft hwd hwn hd ht hb hw hlb cZ G9 t1 t2
    rw [hs]
    have h2:s.length/2=n:=by omega
    have hnext: ∀(f':Fr) (us':List (List UInt8)) (c:BH),f' 0=FI xs→f' 1=FI ys→f' 6=S 0 0 us'.length 1→f' 20=rH (wl n)→f' 21=I (wl n).length→f' 22=I i→us'=((wl n).take (i+1)).filter (okW xs ys n)→c=[some (us'.map bQ)]→T 0 gZ.r12 R f' c:=by
     clear g0 g1 g6 g20 g21 g22
     intro f' us' c g0 g1 g6 g20 g21 g22 e1 hc'
     subst hc'
     refine bI @g22 ?_
     exact hN ((wl n).length-(i+1)) _ _ _ _ (by omega) Gh.refl ⟨i+1,us',by omega,rfl,e1,by rw [e1];exact QT,ah,ah,ah,ah,ah,ah,rfl⟩
    refine aY (aC @aH @aK) fun Kr hKr=>?_
    refine aaZ hwd ?_
    rw [h2]
    refine bP (aC @aH @aK) ?_
    refine aI hKr ?_
    refine aY (aC @aH @aK) fun Kr hKr=>?_
    refine ab3 hb hw hd ?_
    refine bP (aC @aH @aK) ?_
    refine aI hKr ?_
    refine aY (aC @aH @aK) fun Kr hKr=>?_
    refine abt hb hw hd ht ?_
    rw [←G9]
    refine bP @acp ?_
    refine aI hKr ?_
    have p3:(pass (dY s) (eX s) n).length=3:=rfl
    have p0:bV none ((pass (dY s) (eX s) n).map FN) 0=some (FI (gY (typ (dY s) n))):=by rw [←xM];rfl
    have p1:bV none ((pass (dY s) (eX s) n).map FN) 1=some (FI (gY (typ (eX s) n))):=by rw [←xM];rfl
    have l1:= @xC (typ (dY s) n)
    have l2:= @xC (typ (eX s) n)
    have hno: ∀f',f' 0=FI xs→f' 1=FI ys→f' 6=S 0 0 us.length 1→f' 20=rH (wl n)→f' 21=I (wl n).length→f' 22=I i→okW xs ys n s=false→T 0 gZ.r12 R f' [some (us.map bQ),some (DC n (dY s) (eX s))]:=by
     intro f' g0 g1 g6 g20 g21 g22 hk
     refine jO (Gh.wG [0] (by simp) fun j hj=>absurd hj (Nat.not_lt_zero j)) ?_
     refine hnext _ us _ ?_ ?_ ?_ ?_ ?_ ?_ (by rw [hft,hk,he];simp) (by show [some ((us.map bQ).map (ren [0]))]=_;rw [List.map_map];rfl)
     all_goals exact ah
    by_cases e1:wF s=s
    ·refine aY (jM @e1 @LY @p0 @p1 @g0 @g1) fun Kr hKr=>?_
     refine acu (xs:=gY (typ (dY s) n)) (ys:=xs) (by omega) (by omega) ?_
     by_cases e2:gY (typ (dY s) n)=xs
     ·rw [decide_eq_true e2]
      refine bP (bG @p0 @p1 @g0 @g1) ?_
      refine acu (xs:=gY (typ (eX s) n)) (ys:=ys) (by omega) (by omega) ?_
      by_cases e3:gY (typ (eX s) n)=ys
      ·rw [decide_eq_true e3]
       refine aO ?_
       refine aI hKr ?_
       refine dI ?_
       have hk:okW xs ys n s=true:=by simp [okW,e1,e2,e3]
       refine au (bG @g6 @DN @DR @He) ?_
       refine jO (Gh.wG [3] (by simp) fun j hj=>absurd hj (Nat.not_lt_zero j)) ?_
       have hlen:us.length+1=(us++[s]).length:=by simp
       refine hnext _ (us++[s]) _ ?_ ?_ ?_ ?_ ?_ ?_ (by rw [hft,hk,he];simp) (by show [some (((us++[s]).map bQ).map (ren [3]))]=_;rw [List.map_map];rfl)
       all_goals first|exact ah|(rw [←hlen];exact ah)
      ·rw [decide_eq_false e3]
       refine aO ?_
       refine aI hKr ?_
       refine bY ?_
       exact hno _ ah ah ah ah ah ah (by simp [okW,e3])
     ·rw [decide_eq_false e2]
      refine aO ?_
      refine aI hKr ?_
      refine bY ?_
      exact hno _ ah ah ah ah ah ah (by simp [okW,e2])
    ·refine au (aC @e1 @LY) ?_
     refine bY ?_
     exact hno _ ah ah ah ah ah ah (by simp [okW,e1])
   ·refine hX _ _ ?_
    refine iE ?_
    obtain rfl:i=(wl n).length:=by omega
    rw [List.take_length] at he
    have he:us=ni xs ys n:=he
    have h12:=aaw (xs:=xs) (ys:=ys) hn1 nZ
    rw [←he] at h12
    have hord:Ord us:=by rw [he];exact anX
    refine aY @g6 fun Kr hKr=>?_
    refine anY (i:=0) rfl h12 hord ?_
    refine aO ?_
    refine aI hKr ?_
    refine aY @g6 fun Kr hKr=>?_
    refine anZ (i:=0) rfl (by omega) hord ?_
    refine aO ?_
    refine aI hKr ?_
    refine aU ?_
    rw [←he]
    exact ⟨0,rfl,rfl⟩
 ·have hres:resT xs ys=(none,2):=if_neg hok
  rw [hres]
  refine bf Ur ?_;simp only [gZ,aG]
  refine aB ?_
  refine dB fun Kr hKr=>?_
  refine acs hx hy ?_
  rw [decide_eq_false hok]
  refine aO ?_
  refine aI hKr ?_
  refine dI ?_
  refine aB ?_
  refine aU ?_
  exact rfl
theorem acv {n:Nat} {s:List UInt8} (h: ¬gY (typ (dY s) n)=xs∨ ¬gY (typ (eX s) n)=ys):okW xs ys n s=false:=by
 rcases h with h|h<;>simp [okW,h]
theorem amj (hx:xs.length≤1048576) (hy:ys.length≤1048576):aJ false aec [FI xs,FI ys] [] fun v H1=>P9 (resT xs ys) v H1:=by
 by_cases hok:rZ xs ys
 ·have hres:resT xs ys=(some (ni xs ys (dQ xs).toNat),0):=if_pos hok
  have hp:=hok.1.1.pos
  have h8:=hok.2
  obtain ⟨n,hn⟩: ∃n:Nat,dQ xs=n:=⟨(dQ xs).toNat,by omega⟩
  have hnt:(dQ xs).toNat=n:=by omega
  have hn1:1≤n:=by omega
  have nZ:n≤8:=by omega
  rw [hres,hnt]
  refine bf Us ?_;simp only [iC,aG]
  refine aB ?_
  refine dB fun Kr hKr=>?_
  refine acw hx hy fun c hc=>?_
  obtain rfl:c=(n:Int):=by rw [hc hok.1,hn]
  rw [decide_eq_true hok.1]
  refine aO ?_
  refine aI hKr ?_
  refine aB ?_
  refine bY ?_
  have hwl:(wl n).length≤65536:=by
   have h1:=xO (2*n) 0 n
   have h2:=Nat.pow_le_pow_right (n:=2) (by omega) (show 2*n≤16 by omega)
   exact Nat.le_trans h1 h2
  refine dB fun Kr hKr=>?_
  refine an0 nZ ?_
  refine aO ?_
  refine aI hKr ?_
  refine aB ?_
  refine bM (fun m f H'=> ∃(i:Nat) (us:List (List UInt8)),i≤(wl n).length∧m=(wl n).length-i∧us=((wl n).take i).filter (okW xs ys n)∧us.length≤65536∧f 0=FI xs∧f 1=FI ys∧f 6=I n∧f 8=rH (wl n)∧f 9=S 0 0 us.length 1∧f 10=I i∧H'=[some (us.map bQ)]) ((wl n).length) ?_ ?_
  ·exact ⟨_,_,Gh.refl,0,[],by omega,by omega,by simp,by simp,ah,ah,ah,ah,ah,ah,rfl⟩
  ·rintro m f H' R ⟨i,us,hi,rfl,he,QS,g0,g1,g6,g8,g9,g10,rfl⟩ hN hX hR hE
   simp only [iC.l0,aG]
   refine au (aC @g8 @g10) ?_
   refine aV (i<(wl n).length) (fun hc=>?_) fun hc=>?_
   ·have hm:=Gi hc
    have hft:=acr (p:=okW xs ys n) hc
    obtain ⟨hwd,hwn⟩:=CY hn1 nZ hm
    obtain ⟨hd,ht⟩:=PS hn1 nZ hm
    obtain ⟨hb,hw⟩:=zl hwd
    have hlb:=hb.len
    have cZ:=hw.len
    have anW:=kM
    have QT:(((wl n).take (i+1)).filter (okW xs ys n)).length≤65536:=by
     have:=List.length_filter_le (okW xs ys n) ((wl n).take (i+1))
     rw [List.length_take] at this
     omega
    have t1:=G8 hd.1
    have t2:=G8 hd.2.1
    have G9:wF (sg (wl n) i)=(iZ (dY (sg (wl n) i)) (eX (sg (wl n) i)) (n-1)).1:=by rw [wF,hwn,half]
    obtain ⟨s,hs⟩: ∃s,sg (wl n) i=s:=⟨_,rfl⟩
    rw [hs] at hm hft hwd hwn hd ht hb hw hlb cZ G9 t1 t2
    have h2:s.length/2=n:=by omega
    have hnext: ∀(f':Fr) (us':List (List UInt8)) (c:BH),f' 0=FI xs→f' 1=FI ys→f' 6=I n→f' 8=rH (wl n)→f' 9=S 0 0 us'.length 1→f' 10=I i→us'=((wl n).take (i+1)).filter (okW xs ys n)→c=[some (us'.map bQ)]→T 0 iC.r7 R f' c:=by
     clear g0 g1 g6 g8 g9 g10
     intro f' us' c g0 g1 g6 g8 g9 g10 e1 hc'
     subst hc'
     refine bI @g10 ?_
     exact hN ((wl n).length-(i+1)) _ _ _ _ (by omega) Gh.refl ⟨i+1,us',by omega,rfl,e1,by rw [e1];exact QT,ah,ah,ah,ah,ah,ah,rfl⟩
    have l1:= @xC (typ (dY s) n)
    have l2:= @xC (typ (eX s) n)
    have hno: ∀f',f' 0=FI xs→f' 1=FI ys→f' 6=I n→f' 8=rH (wl n)→f' 9=S 0 0 us.length 1→f' 10=I i→okW xs ys n s=false→T 0 iC.r7 R f' [some (us.map bQ),some (DC n (dY s) (eX s))]:=by
     intro f' g0 g1 g6 g8 g9 g10 hk
     refine jO (Gh.wG [0] (by simp) fun j hj=>absurd hj (Nat.not_lt_zero j)) ?_
     refine hnext _ us _ ?_ ?_ ?_ ?_ ?_ ?_ (by rw [hft,hk,he];simp) (by show [some ((us.map bQ).map (ren [0]))]=_;rw [List.map_map];rfl)
     all_goals exact ah
    refine yY ?_
    refine aY (jk @g8 @g10 @vX @aH @aK) fun Kr hKr=>?_
    rw [hs]
    refine Gz hwd ?_
    rw [h2]
    refine bP (aC @aH @aK) ?_
    refine aI hKr ?_
    refine aY (aX @aH @aK @g6) fun Kr hKr=>?_
    refine DF hb hd.1 ?_
    rw [xM]
    refine bP @g0 ?_
    refine acy (xs:=gY (typ (dY s) n)) (ys:=xs) (by omega) (by omega) ?_
    by_cases e2:gY (typ (dY s) n)=xs
    ·rw [decide_eq_true e2]
     refine bP (aX @aH @aK @g6) ?_
     refine DF hw hd.2.1 ?_
     rw [xM]
     refine bP @g1 ?_
     refine acy (xs:=gY (typ (eX s) n)) (ys:=ys) (by omega) (by omega) ?_
     by_cases e3:gY (typ (eX s) n)=ys
     ·rw [decide_eq_true e3]
      refine aO ?_
      refine aI hKr ?_
      refine bY ?_
      refine aY (aC @aH @aK) fun Kr hKr=>?_
      refine am2 hb hw hd ht ?_
      rw [←G9]
      refine bP @acp ?_
      refine aI hKr ?_
      refine au (jk @g8 @g10 @vX @hs @LY) ?_
      refine xg (wF s=s) (fun hc=>?_) fun hc=>?_
      ·have e1:wF s=s:=by assumption
       have hk:okW xs ys n s=true:=by simp [okW,e1,e2,e3]
       refine bI (jk @g9 @e1 @DN @DR @He) ?_
       refine lq ?_
       refine jO (Gh.wG [3] (by simp) fun j hj=>absurd hj (Nat.not_lt_zero j)) ?_
       have hlen:us.length+1=(us++[s]).length:=by simp
       refine hnext _ (us++[s]) _ ?_ ?_ ?_ ?_ ?_ ?_ (by rw [hft,hk,he];simp) (by show [some (((us++[s]).map bQ).map (ren [3]))]=_;rw [List.map_map];rfl)
       all_goals first|exact ah|(rw [←hlen];exact ah)
      ·have e1: ¬wF s=s:=by assumption
       refine lq ?_
       exact hno _ ah ah ah ah ah ah (by simp [okW,e1])
     ·rw [decide_eq_false e3]
      refine aO ?_
      refine aI hKr ?_
      refine dI ?_
      refine lq ?_
      exact hno _ ah ah ah ah ah ah (acv (.inr e3))
    ·rw [decide_eq_false e2]
     refine aO ?_
     refine aI hKr ?_
     refine dI ?_
     refine lq ?_
     exact hno _ ah ah ah ah ah ah (acv (.inl e2))
   ·refine hX _ _ ?_
    refine iE ?_
    obtain rfl:i=(wl n).length:=by omega
    rw [List.take_length] at he
    have he:us=ni xs ys n:=he
    refine au @g9 ?_
    refine aU ?_
    rw [←he]
    exact ⟨0,rfl,rfl⟩
 ·have hres:resT xs ys=(none,2):=if_neg hok
  rw [hres]
  refine bf Us ?_;simp only [iC,aG]
  refine aB ?_
  refine dB fun Kr hKr=>?_
  refine acw hx hy fun c hc=>?_
  by_cases h1:xR xs ys
  ·have h8: ¬c≤8:=fun h=>hok ⟨h1,by rw [←hc h1];exact h⟩
   rw [decide_eq_true h1]
   refine aO ?_
   refine aI hKr ?_
   refine aB ?_
   refine dI ?_
   refine aB ?_
   refine aU ?_
   exact rfl
  ·rw [decide_eq_false h1]
   refine aO ?_
   refine aI hKr ?_
   refine aB ?_
   refine dI ?_
   refine aB ?_
   refine aU ?_
   exact rfl
end
end Go.Bm
namespace Go.Bm
open Go Go.Am
structure CP (n:Nat) (F p:List Nat):Prop where
 z: ∀i,(n≤i∨i∈F)→nl p i=0
 cl: ∀i,i<n→i∉F→nl p i<n∧nl p i∉F
 inj: ∀i j,i<n→i∉F→j<n→j∉F→nl p i=nl p j→i=j
theorem CP.aP {n:Nat} {F G p e:List Nat} (h:CP n F p) (hl:p.length=16) (hn:e.Nodup) (h16: ∀x∈e,x<n∧x<16) (hF: ∀x,x∈F↔x∈e∨x∈G) (hd: ∀x∈e,x∉G):CP n G (fZ p e):=by
 have hb: ∀x∈e,x<p.length:=fun x hx=>by rw [hl];exact (h16 x hx).2
 have hin: ∀x∈e,nl (fZ p e) x∈e:=fun x hx=>by
  obtain ⟨k,hk,rfl⟩:=Bh hx
  rw [DT hn hb hk]
  exact iM (Nat.mod_lt _ (by omega))
 have hout: ∀x,x<n→x∉e→x∉G→nl (fZ p e) x=nl p x∧nl p x<n∧nl p x∉F:=fun x hx he hg=>by
  have hf:x∉F:=fun q=>by rcases (hF x).1 q with q|q<;>contradiction
  exact ⟨zN hn hb he,h.cl x hx hf⟩
 refine ⟨fun i hi=>?_,fun i hi hg=>?_,fun i j hi hgi hj hgj he=>?_⟩
 ·have:i∉e:=fun q=>by
   rcases hi with hi|hi
   ·exact absurd (h16 i q).1 (by omega)
   ·exact hd i q hi
  rw [zN hn hb this]
  exact h.z i (hi.imp id fun q=>(hF i).2 (.inr q))
 ·by_cases he:i∈e
  ·have:=hin i he
   exact ⟨(h16 _ this).1,hd _ this⟩
  ·obtain ⟨q1,q2,q3⟩:=hout i hi he hg
   rw [q1]
   exact ⟨q2,fun q=>q3 ((hF _).2 (.inr q))⟩
 ·by_cases h1:i∈e
  ·by_cases h2:j∈e
   ·obtain ⟨a,ha,rfl⟩:=Bh h1
    obtain ⟨b,hb',rfl⟩:=Bh h2
    rw [DT hn hb ha,DT hn hb hb'] at he
    have hm:=QU hn (Nat.mod_lt _ (by omega)) (Nat.mod_lt _ (by omega)) he
    have e1:a=b:=by
     by_cases c1:a+1<e.length
     ·by_cases c2:b+1<e.length
      ·rw [Nat.mod_eq_of_lt c1,Nat.mod_eq_of_lt c2] at hm;omega
      ·have:b+1=e.length:=by omega
       rw [Nat.mod_eq_of_lt c1,this,Nat.mod_self] at hm;omega
     ·have c1':a+1=e.length:=by omega
      by_cases c2:b+1<e.length
      ·rw [Nat.mod_eq_of_lt c2,c1',Nat.mod_self] at hm;omega
      ·omega
    rw [e1]
   ·obtain ⟨q1,q2,q3⟩:=hout j hj h2 hgj
    have:=hin i h1
    rw [he,q1] at this
    exact absurd ((hF _).2 (.inl this)) q3
  ·obtain ⟨q1,q2,q3⟩:=hout i hi h1 hgi
   by_cases h2:j∈e
   ·have:=hin j h2
    rw [←he,q1] at this
    exact absurd ((hF _).2 (.inl this)) q3
   ·obtain ⟨r1,r2,r3⟩:=hout j hj h2 hgj
    rw [q1,r1] at he
    exact h.inj i j hi (fun q=>by rcases (hF i).1 q with q|q<;>contradiction) hj (fun q=>by rcases (hF j).1 q with q|q<;>contradiction) he
def CS (s:MS):Prop:=CP s.next (lvl 0 s.ways).flatten s.b∧CP s.next (lvl 1 s.ways).flatten s.w
theorem CP.open {n c:Nat} {p e:List Nat} {r:List (List Nat)} (hc:c=0∨c=1) (h:CP n (lvl c (e::r)).flatten p):CP (n+1) (lvl c ([n]::(e++[n])::r)).flatten p:=by
 have hF: ∀x,x∈(lvl c ([n]::(e++[n])::r)).flatten↔x=n∨x∈(lvl c (e::r)).flatten:=by
  intro x
  simp only [lvl,List.length_cons]
  by_cases h1:r.length%2=c
  ·rw [if_neg (by omega),if_pos h1,if_pos h1]
   simp only [List.flatten_cons,List.mem_append,List.mem_singleton]
   rw [or_assoc,or_left_comm]
  ·rw [if_pos (by omega),if_neg h1,if_neg h1]
   simp only [List.flatten_cons,List.mem_append,List.mem_singleton]
 have hi: ∀i,i<n+1→i∉(lvl c ([n]::(e++[n])::r)).flatten→i<n∧i∉(lvl c (e::r)).flatten:=fun i h1 h2=>by
  rw [hF,not_or] at h2
  exact ⟨by omega,h2.2⟩
 refine ⟨fun i h1=>?_,fun i h1 h2=>?_,fun i j h1 h2 h3 h4 he=>?_⟩
 ·rw [hF] at h1
  exact h.z i (by
   rcases h1 with h1|h1|h1
   ·exact .inl (by omega)
   ·exact .inl (by omega)
   ·exact .inr h1)
 ·obtain ⟨q1,q2⟩:=hi i h1 h2
  obtain ⟨q3,q4⟩:=h.cl i q1 q2
  exact ⟨by omega,by rw [hF,not_or];exact ⟨by omega,q4⟩⟩
 ·obtain ⟨q1,q2⟩:=hi i h1 h2
  obtain ⟨q3,q4⟩:=hi j h3 h4
  exact h.inj i j q1 q2 q3 q4 he
theorem an1 {c:Nat} {e:List Nat} {r:List (List Nat)} (hc:r.length%2=c) (h:(lvl c (e::r)).flatten.Nodup):e.Nodup:=by
 rw [lvl,if_pos hc,List.flatten_cons,List.nodup_append] at h
 exact h.1
theorem CP.close {n c:Nat} {p e:List Nat} {r:List (List Nat)} (h:CP n (lvl c (e::r)).flatten p) (hn:(lvl c (e::r)).flatten.Nodup) (hl:p.length=16) (h16: ∀x∈e,x<n∧x<16):CP n (lvl c r).flatten (if r.length%2=c then fZ p e else p):=by
 by_cases hc:r.length%2=c
 ·rw [if_pos hc]
  refine h.aP hl (an1 hc hn) h16 (fun x=>?_) ((Qi hn).2 hc)
  rw [lvl,if_pos hc,List.flatten_cons,List.mem_append]
 ·rw [if_neg hc]
  rw [lvl,if_neg hc] at h
  exact h
theorem acz {s:List UInt8} (h:kG s): ∀i,i≤s.length→CS (dO (s.take i))
 |0,_=>⟨⟨fun i _=>by show nl (List.replicate 16 0) i=0;rw [xk];split<;>rfl,fun i hi _=>absurd hi (Nat.not_lt_zero _),fun i j hi _ _ _ _=>absurd hi (Nat.not_lt_zero _)⟩,⟨fun i _=>by show nl (List.replicate 16 0) i=0;rw [xk];split<;>rfl,fun i hi _=>absurd hi (Nat.not_lt_zero _),fun i j hi _ _ _ _=>absurd hi (Nat.not_lt_zero _)⟩⟩
 |i+1,hi=>by
  obtain ⟨h1,h2⟩:=acz h i (by omega)
  obtain ⟨m1,m2,m3⟩:=AV h i (by omega)
  have hnl:=Dk h i (by omega)
  have h16:=h.1.2
  rw [KX (by omega)]
  unfold CS Dj
  cases hw:(dO (s.take i)).ways with
  |nil=>rw [hw] at h1 h2;simp only;rw [hw];exact ⟨h1,h2⟩
  |cons e r=>
   rw [hw] at h1 h2
   simp only
   split
   ·exact ⟨h1.open (.inl rfl),h2.open (.inr rfl)⟩
   ·have hb: ∀x∈e,x<(dO (s.take i)).next∧x<16:=fun x hx=>by
     have:=m1.lt e (by rw [hw];simp) x hx
     omega
    have c0:=h1.close (by have:=m1.jX 0;rw [hw] at this;exact this) m1.bb.len hb
    have c1:=h2.close (by have:=m1.jX 1;rw [hw] at this;exact this) m1.bw.len hb
    split
    ·rename_i hr
     rw [if_neg (by omega)] at c0
     rw [if_pos hr] at c1
     exact ⟨c0,c1⟩
    ·rename_i hr
     rw [if_pos (by omega)] at c0
     rw [if_neg hr] at c1
     exact ⟨c0,c1⟩
theorem an2 {s:List UInt8} (h:kG s):s.countP (fun c=>c.toNat==40)=s.length/2:=by
 have h1:=h.2.2.2
 have h2:=Qn h.2.1
 unfold dep at h1
 omega
theorem CP.perm {n:Nat} {p:List Nat} (h:CP n [] p) (hn:1≤n∧n≤16):Perm p n:=
 .of hn (fun i h1 _=>h.z i (.inl h1)) (fun i hi=>(h.cl i hi (by simp)).1) fun i j hi hj he=>by
  have:=h.inj j i (by omega) (by simp) hi (by simp) he
  omega
theorem QV {s:List UInt8} (h:kG s):Perm (dY s) (s.length/2:Nat)∧Perm (eX s) (s.length/2:Nat):=by
 obtain ⟨m1,m2,m3⟩:=AV h s.length (Nat.le_refl _)
 obtain ⟨h1,h2⟩:=acz h s.length (Nat.le_refl _)
 rw [List.take_length] at m1 m2 m3 h1 h2
 rw [an2 h] at m3
 have hl:=h.1
 have hd:=h.2.2.2
 rw [hd] at m2
 have hw: ∃e,(dO s).ways=[e]:=by
  match hq:(dO s).ways,m2 with
  |[e],_=>exact ⟨e,rfl⟩
  |a::b::r,m2=>simp at m2;omega
 obtain ⟨e,hw⟩:=hw
 rw [hw] at h1 h2
 rw [m3] at h1 h2
 have sG:=m1.jX 0
 rw [hw] at sG
 refine ⟨?_,?_⟩
 ·unfold dY
  rw [hw,List.headD_cons]
  have:=h1.close (r:=[]) sG m1.bb.len fun x hx=>by
   have:=m1.lt e (by rw [hw];simp) x hx
   rw [m3] at this
   omega
  rw [List.length_nil,if_pos rfl] at this
  exact CP.perm this (by omega)
 ·exact CP.perm h2 (by omega)
end Go.Bm
namespace Go.Bm
open Go Go.Am
end Go.Bm
namespace Go.Bm
open Go Go.Am
theorem Hf {p nm:List Nat} (hl: ∀i,nl nm i<256): ∀{k:Nat},By 16 (rG p nm k)
 |0=>By.rep
 |k+1=>(Hf hl).set (hl _)
end Go.Bm
namespace Go.Bm
open Go Go.Am
end Go.Bm
namespace Go.Bm
open Go Go.Am
section
variable {H:BH} {i:Nat} {n m:Int} {c t s p c' t' s':List Nat}
end
def QW (l:List Nat) (n:Int) (x:Nat):Prop:=(n≤(x:Int)→nl l x=0)∧((x:Int)<n→(nl l x:Int)<n∧nl l x≠x∧nl l (nl l x)=x)
instance (l:List Nat) (n:Int) (x:Nat):Decidable (QW l n x):=by unfold QW;infer_instance
def Pairs (l:List Nat) (n:Int):Prop:= ∀x,x<32→QW l n x
instance (l:List Nat) (n:Int):Decidable (Pairs l n):=by unfold Pairs;infer_instance
end Go.Bm
namespace Go.Bm
open Go Go.Am
end Go.Bm
namespace Go.Bm
open Go Go.Am
end Go.Bm
namespace Go.Bm
open Go Go.Am
end Go.Bm
namespace Go.Bm
open Go Go.Am
end Go.Bm
namespace Go.Bm
open Go Go.Am
section
variable {n:Int} {b w:List Nat} {H:BH} {i:Nat}
theorem an3 (h:0<b.length):bV none (DC n b w) 1=some (N8 (nl b 0)):=Px (k:=0) h
theorem an4 {x:Nat} (h:0<b.length):fQ (some (DC n b w)) H i 1 1 (.int .u8 (x:Int))=some (undef,H.set i (some (DC n (b.set 0 x) w))):=Kt (k:=0) h
theorem an5 {x:Nat} (hb:b.length=16) (hw:w.length=16):fQ (some (DC n b w)) H i 32 1 (.int .u8 (x:Int))=some (undef,H.set i (some (DC n b (w.set 15 x)))):=Pv (k:=15) hb (by omega)
end
theorem an6 {n:Int} {b w:List Nat}:wX (some (DC n b w)) (some (DC n b w))=True:=Xh alN
section
variable {code:List Nat} {a:Nat} {h:Int}
theorem an7 {most:Int} {K:Value→BH→Prop} (ha:a≤code.length) (hl:code.length≤1048576) (hcd: ∀i,nl code i<256) (hm:1≤most∧most≤16)
  (hK: ∀(n:Int) b w a' h',By 16 b→By 16 w→ -1≤n∧n≤17→a'≤code.length→K (DV n b w) [some (SC code a' h')]):aJ false Uk [P 0 0,I most] [some (SC code a h)] K:=by
 have hz:=kM
 refine bf agM ?_;simp only [jS,aG]
 refine au @aH ?_
 refine dB fun Kr hKr=>?_
 refine an8 (i:=0) rfl ha hl hcd hm fun n b w a h hb hw hd hnm hA=>?_
 have hlb:=hb.len
 have cZ:=hw.len
 have hn:=hd.1.1
 refine bP (aC @aH @aK) ?_
 refine aI hKr ?_
 refine dB fun Kr hKr=>?_
 refine oN (i:=0) rfl hA hl hcd (by omega) fun v a h hA k2 k3 k4 k5=>?_
 refine aO ?_
 refine aI hKr ?_
 clear k2 k3 k4 k5
 have hend: ∀(f':Fr) (m:Int) b w a' h',By 16 b→By 16 w→ -1≤m∧m≤17→a'≤code.length→f' 4=P 1 0→f' 5=P 2 0→T 1 (.seq jS.r11 .ret) (jq 1 [.cell 4 (some 33)] K) f' [some (SC code a' h'),some (DC 0 dF dF),some (DC m b w)]:=by
  intro f' m b w a' h' hb hw hm ha g4 g5
  have hlb:=hb.len
  have cZ:=hw.len
  refine au (bG @g4 @g5 @aH @aK) ?_
  refine ji (by simp (disch:=omega) only [RA,↓reduceIte,Nat.reduceEqDiff,RD,dS,gJ,g4,aK];rfl) (dK.nrm [0] rfl rfl (by simp only [RH,ou,l9]) (by simp only [aF,RH])) ?_;simp only [aF]
  exact hK m b w _ _ hb hw hm ha
 refine bK ?_
 refine aB ?_
 refine aV (v=0) (fun hc=>?_) fun hc=>?_
 ·have h0:=hd.1.lt (i:=0) (by omega)
  have e1:((nl b 0:Nat):Int)+1=((nl b 0+1:Nat):Int):=by omega
  refine au (jk @aH @aK @an3 @an4 @e1) ?_
  exact hend _ n (b.set 0 (nl b 0+1)) w a h (hb.set (by omega)) hw (by omega) hA ah ah
 refine aB ?_
 refine aV (v=1) (fun hc=>?_) fun hc=>?_
 ·refine aY (aC @aH @aK) fun Kr hKr=>?_
  refine rU 3 rfl (by simp only [RH]) ?_;simp only [RZ,kS]
  refine uo (xs:=[0,17,-1,(n:Int)+1,(n:Int)-1]) (i:=0) rfl hA hl hcd (by simp) (by simp) fun j a h hj hA=>?_
  have hj1:=xU hj
  generalize el [0,17,-1,(n:Int)+1,(n:Int)-1] j=m at hj1⊢
  have acA: -1≤m∧m≤17:=by simp at hj1;omega
  refine bP (aC @aH @aK) ?_
  refine aI hKr ?_
  refine jO (Gh.nrm [0,1,2] rfl rfl (by simp only [RH,ou,l9])) ?_
  exact hend _ m b w a h hb hw acA hA ah ah
 refine aB ?_
 refine aV (v=2) (fun hc=>?_) fun hc=>?_
 ·have hil:= @xW n
  refine aY (aX @aH @aK @acB) fun Kr hKr=>?_
  refine Hg (by omega) ?_
  rw [Int.toNat_natCast]
  refine bP (aC @aH @aK) ?_
  refine aI hKr ?_
  exact hend _ n b (pz n) a h hb (DU (by omega)) (by omega) hA ah ah
 refine aB ?_
 refine aV (v=3) (fun hc=>?_) fun hc=>?_
 ·refine aY (aC @aH @aK) fun Kr hKr=>?_
  refine rU 3 rfl (by simp only [RH]) ?_;simp only [RZ,kS]
  refine uo (xs:=[1,255]) (i:=0) rfl hA hl hcd (by simp) (by simp) fun j a h hj hA=>?_
  have hj1:=xU hj
  generalize el [1,255] j=m at hj1⊢
  have acA:0≤m∧m<256:=by simp at hj1;omega
  obtain ⟨q,rfl⟩: ∃q:Nat,m=q:=⟨m.toNat,by omega⟩
  refine bP (aX @aH @aK @an5) ?_
  refine aI hKr ?_
  refine jO (Gh.nrm [0,1,2] rfl rfl (by simp only [RH,ou,l9])) ?_
  exact hend _ n b (w.set 15 q) a h hb (hw.set (by omega)) (by omega) hA ah ah
 ·exact hend _ n b w a h hb hw (by omega) hA ah ah
theorem an9 {most:Int} {i:Nat} {H:BH} {K:Value→BH→Prop} (hb:blk H i=some (SC code a h)) (ha:a≤code.length) (hl:code.length≤1048576) (hcd: ∀i,nl code i<256) (hm:1≤most∧most≤16)
  (hK: ∀(n:Int) b w a' h',By 16 b→By 16 w→ -1≤n∧n≤17→a'≤code.length→K (DV n b w) (H.set i (some (SC code a' h')))):aJ false Uk [P i 0,I most] H K:=by
 refine uf hb mF ?_
 have e:([P i 0,I most]:List Value).map (ren [i])=[P 0 0,I most]:=by simp [ren,nU,nm]
 rw [e]
 exact an7 ha hl hcd hm fun n b w a' h' k1 k2 k3 k4=>⟨fC,HN.cons mF HN.nil,hK n b w a' h' k1 k2 k3 k4⟩
end
section
variable {code:List Nat} {H:BH} {K:Value→BH→Prop} {x:Bool} (hl:code.length≤1048576) (hcd: ∀i,nl code i<256)
include hl hcd
end
end Go.Bm
namespace Go.Bm
open Go Go.Am
theorem aav {v u:Value} {xs ys:List (List UInt8)} {H:BH} {K:Value→BH→Prop} (hv:qm H v xs) (hu:qm H u ys) (hl:xs.length<4611686018427387904) (hl':ys.length<4611686018427387904) (hK:K (.bool (decide (xs=ys))) H):
  aJ false aed [v,u] H K:=by
 have v1:=hv.len
 have u1:=hu.len
 refine bf afG ?_;simp only [kW,aG]
 refine aB ?_
 refine au (aC @v1 @u1) ?_
 refine aV (¬xs.length=ys.length) (fun hc=>?_) fun hc=>?_
 ·refine aB ?_
  refine aU ?_
  rw [show decide (xs=ys)=false by simp;intro e;exact hc (by rw [e])] at hK
  exact hK
 have hll:=Decidable.not_not.1 hc
 clear hc
 refine aB ?_
 refine bM (fun m f H'=> ∃i,i≤xs.length∧m=xs.length-i∧(∀j,j<i→sg xs j=sg ys j)∧f 0=v∧f 1=u∧f 5=I i∧H'=H) (xs.length) ?_ ?_
 ·exact ⟨_,_,Gh.refl,0,by omega,by omega,fun j hj=>by omega,ah,ah,ah,rfl⟩
 ·rintro m f H' R ⟨i,hi,rfl,he,g0,g1,g5,rfl⟩ hN hX hR hE
  simp only [kW.l0,aG]
  refine au (aX @g0 @g5 @v1) ?_
  refine aV (i<xs.length) (fun hc=>?_) fun hc=>?_
  ·obtain ⟨p,p1,p2⟩:=hv.get hc
   obtain ⟨q,q1,q2⟩:=hu.get (show i<ys.length by omega)
   refine bK ?_
   refine au (jk (bG @g0 @g1 @g5 @p1) @p2 @q1 @q2 @acC) ?_
   refine aV (¬sg xs i=sg ys i) (fun hc=>?_) fun hc=>?_
   ·refine aB ?_
    refine hR _ _ ?_
    refine aU ?_
    rw [show decide (xs=ys)=false by simp;intro e;exact hc (by rw [e])] at hK
    exact hK
   have hee:=Decidable.not_not.1 hc
   refine bI @g5 ?_
   have he': ∀j,j<i+1→sg xs j=sg ys j:=fun j hj=>by
    by_cases e:j=i
    ·rw [e];exact hee
    ·exact he j (by omega)
   exact hN (xs.length-(i+1)) _ _ _ _ (by omega) Gh.refl ⟨i+1,by omega,rfl,he',ah,ah,ah,rfl⟩
  ·refine hX _ _ ?_
   have e:xs=ys:=aoa hll fun j hj=>he j (by omega)
   rw [show decide (xs=ys)=true by simp [e]] at hK
   refine aB ?_
   refine aU ?_
   exact hK
def qR (n o c:Nat) (s:List UInt8):Prop:=(∀x∈s,x.toNat=40∨x.toNat=41)∧(∀i,i≤s.length→0≤dep (s.take i))∧dep s=c∧s.length+2*o+c=2*n
theorem qR.z {n:Nat}:qR n n 0 []:=⟨by simp,fun i _=>by simp [dep],rfl,by simp⟩
theorem qR.snoc {n o c o' c':Nat} {s:List UInt8} {x:UInt8} (h:qR n o c s) (hx:x.toNat=40∨x.toNat=41) (hd:dep (s++[x])=c') (hl:1+2*o'+c'=2*o+c):qR n o' c' (s++[x]):=by
 obtain ⟨h1,h2,h3,h4⟩:=h
 refine ⟨fun y hy=>?_,fun i hi=>?_,hd,by rw [List.length_append,List.length_singleton];omega⟩
 ·rcases List.mem_append.1 hy with hy|hy
  ·exact h1 y hy
  ·rw [List.mem_singleton.1 hy];exact hx
 ·rw [List.length_append,List.length_singleton] at hi
  by_cases e:i≤s.length
  ·rw [List.take_append_of_le_length e];exact h2 i e
  ·rw [List.take_of_length_le (by rw [List.length_append,List.length_singleton];omega),hd]
   omega
theorem qR.open {n o c:Nat} {s:List UInt8} (h:qR n o c s) (ho:0<o):qR n (o-1) (c+1) (s++[40]):=
 h.snoc (.inl rfl) (by rw [Qb,h.2.2.1,if_pos (by decide)];omega) (by omega)
theorem qR.close {n o c:Nat} {s:List UInt8} (h:qR n o c s) (hc:0<c):qR n o (c-1) (s++[41]):=
 h.snoc (.inr rfl) (by rw [Qb,h.2.2.1,if_neg (by decide),if_pos (by decide)];omega) (by omega)
theorem qR.word {n:Nat} {s:List UInt8} (h:qR n 0 0 s) (hn:1≤n∧n≤16):kG s∧s.length=2*n:=
 ⟨⟨by have:=h.2.2.2;omega,h.1,h.2.1,h.2.2.1⟩,by have:=h.2.2.2;omega⟩
section
variable {code:List Nat} {a:Nat} {h:Int}
theorem aob {n:Nat} {K:Value→BH→Prop} (ha:a≤code.length) (hl:code.length≤1048576) (hcd: ∀i,nl code i<256) (hn:1≤n∧n≤16)
  (hK: ∀s a' h',kG s→s.length=2*n→a'≤code.length→K (bQ s) [some (SC code a' h')]):aJ false Ug [P 0 0,I n] [some (SC code a h)] K:=by
 refine bf agB ?_;simp only [jw,aG]
 refine aB ?_
 refine aB ?_
 refine bM (fun m f H'=> ∃o c s a' h',qR n o c s∧m=2*o+c∧a'≤code.length∧f 0=P 0 0∧f 5=bQ s∧f 6=I o∧f 7=I c∧H'=[some (SC code a' h')]) (2*n) ?_ ?_
 ·exact ⟨_,_,Gh.refl,n,0,[],a,h,qR.z,by omega,ha,ah,ah,ah,ah,rfl⟩
 ·clear ha
  rintro m f H' R ⟨o,c,s,a,h,hw,rfl,hA,g0,g5,g6,g7,rfl⟩ hN hX hR hE
  simp only [jw.l0,aG]
  have hs:=hw.2.2.2
  have ha0:=QX (a:=s) (by omega)
  have ha1:=LZ (a:=s) (by omega)
  have hopen: ∀f' a' h',0<o→a'≤code.length→f' 0=P 0 0→f' 5=bQ s→f' 6=I o→f' 7=I c→T 1 (.seq jw.r4 (.seq jw.r5 jw.r6)) R f' [some (SC code a' h')]:=by
   intro f' a' h' ho hA' k0 k5 k6 k7
   have e1:(o:Int)-1=((o-1:Nat):Int):=by omega
   have e2:(c:Int)+1=((c+1:Nat):Int):=by omega
   refine au (aC @k5 @ha0) ?_
   refine au (aC @k6 @e1) ?_
   refine bI (aC @k7 @e2) ?_
   exact hN (2*(o-1)+(c+1)) _ _ _ _ (by omega) Gh.refl ⟨o-1,c+1,s++[40],a',h',hw.open ho,rfl,hA',ah,ah,ah,ah,rfl⟩
  have hclose: ∀f' a' h',0<c→a'≤code.length→f' 0=P 0 0→f' 5=bQ s→f' 6=I o→f' 7=I c→T 1 (.seq jw.r7 jw.r8) R f' [some (SC code a' h')]:=by
   intro f' a' h' ho hA' k0 k5 k6 k7
   have e1:(c:Int)-1=((c-1:Nat):Int):=by omega
   refine au (aC @k5 @ha1) ?_
   refine bI (aC @k7 @e1) ?_
   exact hN (2*o+(c-1)) _ _ _ _ (by omega) Gh.refl ⟨o,c-1,s++[41],a',h',hw.close ho,rfl,hA',ah,ah,ah,ah,rfl⟩
  by_cases ho:0<o
  ·refine au (aC @g6 @g7) ?_
   refine dI ?_
   refine bK ?_
   by_cases hc:0<c
   ·refine aY (aX @g0 @g6 @g7) fun Kr hKr=>?_
    refine oN (i:=0) rfl hA hl hcd (by omega) fun v a h hA k2 k3 k4 k5=>?_
    have hv:=k4 (by omega)
    by_cases h0:v=0
    ·refine bP @h0 ?_
     refine aI hKr ?_
     refine pJ (t:=true) (by simp (disch:=omega) only [RA,↓reduceIte,Nat.reduceEqDiff,RD]) ?_;(try simp only [RN,reduceIte]);try refine eG rfl ?_
     exact hopen _ _ _ ho hA ah ah ah ah
    ·refine bP @h0 ?_
     refine aI hKr ?_
     refine pJ (t:=false) (by simp (disch:=omega) only [RA,↓reduceIte,Nat.reduceEqDiff,RD]) ?_;(try simp only [RN,reduceIte]);try refine eG rfl ?_
     exact hclose _ _ _ hc hA ah ah ah ah
   ·obtain rfl:c=0:=by omega
    refine au (aX @g0 @g6 @g7) ?_
    refine pJ (t:=true) (by simp (disch:=omega) only [RA,↓reduceIte,Nat.reduceEqDiff,RD]) ?_;(try simp only [RN,reduceIte]);try refine eG rfl ?_
    exact hopen _ _ _ ho hA ah ah ah ah
  ·obtain rfl:o=0:=by omega
   by_cases hc:0<c
   ·refine au (aC @g6 @g7) ?_
    refine dI ?_
    refine bK ?_
    refine au (aX @g0 @g6 @g7) ?_
    refine pJ (t:=false) (by simp (disch:=omega) only [RA,↓reduceIte,Nat.reduceEqDiff,RD]) ?_;(try simp only [RN,reduceIte]);try refine eG rfl ?_
    exact hclose _ _ _ hc hA ah ah ah ah
   ·obtain rfl:c=0:=by omega
    refine au (aC @g6 @g7) ?_
    refine bY ?_
    refine hX _ _ ?_
    obtain ⟨hw1,hw2⟩:=hw.word hn
    refine au @g5 ?_
    refine ji (by simp (disch:=omega) only [RA,↓reduceIte,Nat.reduceEqDiff,RD,dS,gJ]) (dK.nrm [0] rfl rfl (by simp only [RH,ou]) (show NN (aF [bQ s]) from uX)) ?_
    simp only [aF]
    exact hK s _ _ hw1 hw2 hA
theorem L6 {n:Nat} {i:Nat} {H:BH} {K:Value→BH→Prop} (hb:blk H i=some (SC code a h)) (ha:a≤code.length) (hl:code.length≤1048576) (hcd: ∀i,nl code i<256) (hn:1≤n∧n≤16)
  (hK: ∀s a' h',kG s→s.length=2*n→a'≤code.length→K (bQ s) (H.set i (some (SC code a' h')))):aJ false Ug [P i 0,I n] H K:=by
 refine uf hb mF ?_
 have e:([P i 0,I n]:List Value).map (ren [i])=[P 0 0,I n]:=by simp [ren,nU,nm]
 rw [e]
 exact aob ha hl hcd hn fun s a' h' k1 k2 k3=>⟨uX,HN.cons mF HN.nil,hK s a' h' k1 k2 k3⟩
end
end Go.Bm
namespace Go.Bm
open Go Go.Am
theorem Hl {s t:List UInt8}:dep (s++t)=dep s+dep t:=by
 simp only [dep,List.countP_append]
 omega
theorem kG.app {s t:List UInt8} (h:kG s) (k:kG t) (hl:s.length+t.length≤32):kG (s++t):=by
 refine ⟨by have:=h.1;rw [List.length_append];omega,fun c hc=>?_,fun i hi=>?_,by rw [Hl,h.2.2.2,k.2.2.2];rfl⟩
 ·rcases List.mem_append.1 hc with hc|hc
  ·exact h.2.1 c hc
  ·exact k.2.1 c hc
 ·rw [List.length_append] at hi
  rw [List.take_append]
  by_cases e:i≤s.length
  ·rw [show i-s.length=0 by omega,List.take_zero,List.append_nil];exact h.2.2.1 i e
  ·rw [List.take_of_length_le (by omega),Hl,h.2.2.2]
   have:=k.2.2.1 (i-s.length) (by omega)
   omega
theorem kG.wrap {s:List UInt8} (h:kG s) (hl:s.length≤30):kG (40::(s++[41])):=by
 have e1:dep [(40:UInt8)]=1:=rfl
 have e2:dep [(41:UInt8)]= -1:=rfl
 have e0: ∀t:List UInt8,dep (40::t)=1+dep t:=fun t=>by rw [←List.singleton_append,Hl,e1]
 refine ⟨by simp;omega,fun c hc=>?_,fun i hi=>?_,by rw [e0,Hl,h.2.2.2,e2];rfl⟩
 ·simp only [List.mem_cons,List.mem_append,List.not_mem_nil,or_false] at hc
  rcases hc with rfl|hc|rfl
  ·exact .inl rfl
  ·exact h.2.1 c hc
  ·exact .inr rfl
 ·cases i with
  |zero=>simp [dep]
  |succ i=>
   rw [List.take_succ_cons,e0,List.take_append]
   simp at hi
   by_cases e:i≤s.length
   ·rw [show i-s.length=0 by omega,List.take_zero,List.append_nil]
    have:=h.2.2.1 i e
    omega
   ·rw [List.take_of_length_le (show s.length≤i by omega),Hl,h.2.2.2,show i-s.length=1 by omega]
    show (0:Int)≤1+(0+dep [41])
    rw [e2]
    omega
theorem acD {x0:Bool} {n:Nat} {b w nm:List Nat} {H:BH} {K:Value→BH→Prop} (hb:By 16 b) (hw:By 16 w) (hn:n≤16) (hb16: ∀i,nl b i<16) (hw16: ∀i,nl w i<16) (hm:By 16 nm) (Qr: ∀i,nl nm i<16)
  (hK:K (DV n (rG b nm n) (rG w nm n)) H):aJ x0 afh [DV n b w,PL nm] H K:=by
 have hlb:=hb.len
 have cZ:=hw.len
 have hlm:=hm.len
 have hz:=kM
 refine dw (by exact .cons fC (.cons (oG Dv) .nil)) ?_
 refine bf ag8 ?_;simp only [lU,aG]
 refine au @aH ?_
 refine au (aC @aH @aK) ?_
 refine au @aH ?_
 refine bM (fun m f H'=> ∃k,k≤n∧m=n-k∧f 2=P 0 0∧f 3=P 1 0∧f 4=P 2 0∧f 5=P 3 0∧f 6=I k∧H'=[some (DC n b w),some (nm.map N8),some (DC 0 dF dF),some (DC n (rG b nm k) (rG w nm k))]) (n) ?_ ?_
 ·exact ⟨_,_,Gh.refl,0,by omega,by omega,ah,ah,ah,ah,ah,rfl⟩
 ·rintro m f H' R ⟨k,hk,rfl,g2,g3,g4,g5,g6,rfl⟩ hN hX hR hE
  simp only [lU.l0,aG]
  have hl1:= @aak b nm k
  have hl2:= @aak w nm k
  refine au (aX @g2 @g6 @aH) ?_
  refine aV (k<n) (fun hc=>?_) fun hc=>?_
  ·have h1:=hb16 k
   have h2:=hw16 k
   have h3:=Qr k
   have hl3:((rG b nm k).set (nl nm k) (nl nm (nl b k))).length=16:=by rw [List.length_set];exact hl1
   refine bK ?_
   refine au (jM @g2 @g3 @g5 @g6 @aH @aK) ?_
   refine au (jM @g2 @g3 @g5 @g6 @aH @aK) ?_
   refine bI @g6 ?_
   exact hN (n-(k+1)) _ _ _ _ (by omega) Gh.refl ⟨k+1,by omega,rfl,ah,ah,ah,ah,ah,rfl⟩
  ·refine hX _ _ ?_
   obtain rfl:k=n:=by omega
   refine au (bG @g4 @g5 @aH @aK) ?_
   refine lD (aX @g4 @aH @aK) ?_
   exact ⟨fC,hK⟩
section
variable {code:List Nat} {a:Nat} {h:Int}
theorem aoc {K:Value→BH→Prop} (ha:a≤code.length) (hl:code.length≤1048576) (hcd: ∀i,nl code i<256)
  (hK: ∀(n:Nat) b w a' h',By 16 b→By 16 w→n≤16→a'≤code.length→K (DV n b w) [some (SC code a' h')]):aJ false Ul [P 0 0] [some (SC code a h)] K:=by
 have hz:=kM
 refine bf agN ?_;simp only [gW,aG]
 refine au @aH ?_
 refine dB fun Kr hKr=>?_
 refine rU 2 rfl (by simp only [RH]) ?_;simp only [RZ,kS]
 refine uo (xs:=[5,9,16]) (i:=0) rfl ha hl hcd (by simp) (by simp) fun j a h hj hA=>?_
 have hj1:=xU hj
 generalize el [5,9,16] j=q at hj1⊢
 simp only [List.mem_cons,List.not_mem_nil,or_false] at hj1
 refine aO ?_
 refine oN (i:=0) rfl hA hl hcd (by omega) fun v a h hA k2 k3 k4 k5=>?_
 have hv:=k4 (by omega)
 obtain ⟨n,hn⟩: ∃n:Nat,1+v=n:=⟨(1+v).toNat,by omega⟩
 have hn1:1≤n∧n≤16:=by omega
 clear k2 k3 k4 k5 ha hj1
 refine bP @hn ?_
 refine aI hKr ?_
 refine dB fun Kr hKr=>?_
 refine L6 (i:=0) rfl hA hl hcd hn1 fun s a h hs hsl hA=>?_
 refine aO ?_
 refine Gz hs ?_
 obtain ⟨pb,pw⟩:=QV hs
 obtain ⟨hb,hw⟩:=zl hs
 have hsn:s.length/2=n:=by omega
 rw [hsn] at pb pw⊢
 have hb16:=fun i=>pb.qM hb.len i
 have hw16:=fun i=>pw.qM hw.len i
 generalize dY s=b at*
 generalize eX s=w at*
 have hlb:=hb.len
 have cZ:=hw.len
 refine bP (aC @aH @aK) ?_
 refine aI hKr ?_
 refine dB fun Kr hKr=>?_
 refine oN (i:=0) rfl hA hl hcd (by omega) fun v a h hA k2 k3 k4 k5=>?_
 refine aO ?_
 refine aI hKr ?_
 clear k2 k3 k4 k5
 refine bK ?_
 refine aB ?_
 refine aV (v=0) (fun hc=>?_) fun hc=>?_
 ·refine aY (aX @RK @aH @aK) fun Kr hKr=>?_
  refine QY (i:=0) rfl hA hl hcd hn1 fun p a h hp hpp hA=>?_
  have uS:=fun i=>hpp.qM hp.len i
  refine bP (bG @RK @an6 @aH @aK) ?_
  refine acD hb hw hn1.2 hb16 hw16 hp uS ?_
  have r1:By 16 (rG b p n):=Hf fun i=>by have:=uS i;omega
  have r2:By 16 (rG w p n):=Hf fun i=>by have:=uS i;omega
  have hl1:=r1.len
  have hl2:=r2.len
  refine bP (aC @aH @aK) ?_
  refine aI hKr ?_
  refine ji (by simp (disch:=omega) only [RA,↓reduceIte,Nat.reduceEqDiff,RD,dS,gJ,aK];rfl) (dK.nrm [0] rfl rfl (by simp only [RH,ou,l9]) (by simp only [aF,RH])) ?_;simp only [aF]
  exact hK n _ _ _ _ r1 r2 hn1.2 hA
 refine aB ?_
 refine aV (v=1) (fun hc=>?_) fun hc=>?_
 ·refine dB fun Kr hKr=>?_
  refine oN (i:=0) rfl hA hl hcd (by omega) fun u a h hA k2 k3 k4 k5=>?_
  have hu:=k4 (by omega)
  obtain ⟨k,hk⟩: ∃k:Nat,1+u=k:=⟨(1+u).toNat,by omega⟩
  have hk1:1≤k∧k≤3:=by omega
  clear k2 k3 k4 k5
  refine bP @hk ?_
  refine aI hKr ?_
  refine dB fun Kr hKr=>?_
  refine oN (i:=0) rfl hA hl hcd (by omega) fun u' a h hA k2 k3 k4 k5=>?_
  have hu':=k4 (by omega)
  obtain ⟨m,hm⟩: ∃m:Nat,1+u'=m:=⟨(1+u').toNat,by omega⟩
  have hm1:1≤m∧m≤16:=by omega
  have hm5:m≤5:=by omega
  clear k2 k3 k4 k5
  refine bP @hm ?_
  refine L6 (i:=0) rfl hA hl hcd hm1 fun s a h hs hsl hA=>?_
  refine aO ?_
  refine aI hKr ?_
  refine aB ?_
  refine bM (fun mm f H'=> ∃j t,1≤j∧j≤3∧mm=j∧kG t∧t.length+(j-1)*10≤30∧f 2=P 1 0∧f 5=I j∧f 6=bQ s∧f 7=bQ t∧H'=[some (SC code a h),some (DC 0 dF dF),none,some (DC n b w)]) (k) ?_ ?_
  ·exact ⟨_,_,Gh.refl,k,s,by omega,by omega,by omega,hs,by omega,ah,ah,ah,ah,rfl⟩
  ·rintro mm f H' R ⟨j,t,hj1,hj3,rfl,ht,htl,g2,g5,g6,g7,rfl⟩ hN hX hR hE
   simp only [gW.l0,aG]
   refine au @g5 ?_
   refine aV (1<mm) (fun hc=>?_) fun hc=>?_
   ·have ha1:=Ho (a:=t) (b:=s) (by omega)
    have e1:(mm:Int)-1=((mm-1:Nat):Int):=by omega
    refine bK ?_
    refine au (aX @g6 @g7 @ha1) ?_
    refine bI (aC @g5 @e1) ?_
    exact hN (mm-1) _ _ _ _ (by omega) Gh.refl ⟨mm-1,t++s,by omega,by omega,rfl,ht.app hs (by omega),by rw [List.length_append];omega,ah,ah,ah,ah,rfl⟩
   ·refine hX _ _ ?_
    refine iE ?_
    obtain ⟨r1,r2⟩:=zl ht
    have ht1:=ht.1
    refine aY @g7 fun Kr hKr=>?_
    refine Gz ht ?_
    have hl1:=r1.len
    have hl2:=r2.len
    refine bP (aX @g2 @aH @aK) ?_
    refine aI hKr ?_
    refine ji (by simp (disch:=omega) only [RA,↓reduceIte,Nat.reduceEqDiff,RD,dS,gJ,g2,aK];rfl) (dK.nrm [0] rfl rfl (by simp only [RH,ou,l9]) (by simp only [aF,RH])) ?_;simp only [aF]
    exact hK _ _ _ _ _ r1 r2 (by omega) hA
 refine aB ?_
 refine aV (v=2) (fun hc=>?_) fun hc=>?_
 ·refine dB fun Kr hKr=>?_
  refine oN (i:=0) rfl hA hl hcd (by omega) fun u' a h hA k2 k3 k4 k5=>?_
  have hu':=k4 (by omega)
  obtain ⟨m,hm⟩: ∃m:Nat,1+u'=m:=⟨(1+u').toNat,by omega⟩
  have hm1:1≤m∧m≤16:=by omega
  have hm5:m≤6:=by omega
  clear k2 k3 k4 k5
  refine bP @hm ?_
  refine L6 (i:=0) rfl hA hl hcd hm1 fun s a h hs hsl hA=>?_
  have ha1:=acE (a:=s) (by omega)
  have ha2:=LZ (a:=40::s) (by simp;omega)
  refine bP (aC @ha1 @ha2) ?_
  have hs':=hs.wrap (by omega)
  have hs1:=hs'.1
  refine Gz hs' ?_
  obtain ⟨pb',pw'⟩:=QV hs'
  obtain ⟨hb',hw'⟩:=zl hs'
  have aod:=fun i=>pb'.qM hb'.len i
  have aoe:=fun i=>pw'.qM hw'.len i
  have hid:=DU hn1.2
  have QZ: ∀i,nl (pz n) i<16:=fun i=>by rw [Bj hn1.2];split<;>omega
  generalize dY (40::(s++[41]))=b' at*
  generalize eX (40::(s++[41]))=w' at*
  generalize (40::(s++[41])).length/2=n' at*
  have hn':=pb'.1
  have aqg:=hb'.len
  have aqh:=hw'.len
  refine bP (aC @aH @aK) ?_
  refine Hg (by omega) ?_
  rw [Int.toNat_natCast]
  refine bP (aC @aH @aK) ?_
  refine acD hb' hw' (by omega) aod aoe hid QZ ?_
  have r1:By 16 (rG b' (pz n) n'):=Hf fun i=>by have:=QZ i;omega
  have r2:By 16 (rG w' (pz n) n'):=Hf fun i=>by have:=QZ i;omega
  have hl1:=r1.len
  have hl2:=r2.len
  refine bP (aC @aH @aK) ?_
  refine aI hKr ?_
  refine ji (by simp (disch:=omega) only [RA,↓reduceIte,Nat.reduceEqDiff,RD,dS,gJ,aK];rfl) (dK.nrm [0] rfl rfl (by simp only [RH,ou,l9]) (by simp only [aF,RH])) ?_;simp only [aF]
  exact hK _ _ _ _ _ r1 r2 (by omega) hA
 refine au (aC @aH @aK) ?_
 refine ji (by simp (disch:=omega) only [RA,↓reduceIte,Nat.reduceEqDiff,RD,dS,gJ,aK];rfl) (dK.nrm [0] rfl rfl (by simp only [RH,ou,l9]) (by simp only [aF,RH])) ?_;simp only [aF]
 exact hK n _ _ _ _ hb hw hn1.2 hA
theorem aof {i:Nat} {H:BH} {K:Value→BH→Prop} (hb:blk H i=some (SC code a h)) (ha:a≤code.length) (hl:code.length≤1048576) (hcd: ∀i,nl code i<256)
  (hK: ∀(n:Nat) b w a' h',By 16 b→By 16 w→n≤16→a'≤code.length→K (DV n b w) (H.set i (some (SC code a' h')))):aJ false Ul [P i 0] H K:=by
 refine uf hb mF ?_
 have e:([P i 0]:List Value).map (ren [i])=[P 0 0]:=by simp [ren,nU,nm]
 rw [e]
 exact aoc ha hl hcd fun n b w a' h' k1 k2 k3 k4=>⟨fC,HN.cons mF HN.nil,hK n b w a' h' k1 k2 k3 k4⟩
end
end Go.Bm
namespace Go.Bm
open Go Go.Am
theorem aog {x:Bool} {p:List Nat} {n:Nat} {H:BH} {K:Value→BH→Prop} (hb:By 16 p) (hp:Perm p n) (hK:K (S H.length 0 (gY (typ p n)).length 1) (H++[some ((gY (typ p n)).map I)])):aJ x ER [PL p,I n] H K:=
 aoh hb hp (by rw [xC,←acF] at hK;exact hK)
theorem acG {x:Bool} {p:List Nat} {n:Nat} {H:BH} {K:Value→BH→Prop} (hb:By 16 p) (hp:Perm p n) (hK:K (FI (gY (typ p n))) H):aJ x ER [PL p,I n] H K:=
 DF hb hp (by rw [xM];exact hK)
theorem Q5 {p:List Nat} {n:Nat} (hp:Perm p n):(gY (typ p n)).length≤100:=by
 rw [xC];exact G8 hp
section
variable {code:List Nat} {a:Nat} {h:Int}
theorem aoi {K:Value→BH→Prop} (ha:a≤code.length) (hl:code.length≤1048576) (hcd: ∀i,nl code i<256)
  (hK: ∀(n:Int) b w a' h',By 16 b→By 16 w→ -1≤n∧n≤17→a'≤code.length→K (DV n b w) [some (SC code a' h')]):aJ false Uc [P 0 0] [some (SC code a h)] K:=by
 have hz:=kM
 refine bf agk ?_;simp only [oC,aG]
 refine au @aH ?_
 refine dB fun Kr hKr=>?_
 refine oN (i:=0) rfl ha hl hcd (by omega) fun v a h hA k2 k3 k4 k5=>?_
 refine aO ?_
 refine aI hKr ?_
 clear k2 k3 k4 k5 ha
 refine aV (v=0) (fun hc=>?_) fun hc=>?_
 ·refine dB fun Kr hKr=>?_
  refine an9 (i:=0) rfl hA hl hcd (by omega) fun n b w a h hb hw hn hA=>?_
  have hlb:=hb.len
  have cZ:=hw.len
  refine bP (aC @aH @aK) ?_
  refine aI hKr ?_
  refine ji (by simp (disch:=omega) only [RA,↓reduceIte,Nat.reduceEqDiff,RD,dS,gJ,aK];rfl) (dK.nrm [0] rfl rfl (by simp only [RH,ou,l9]) (by simp only [aF,RH])) ?_;simp only [aF]
  exact hK n b w _ _ hb hw hn hA
 refine dB fun Kr hKr=>?_
 refine aof (i:=0) rfl hA hl hcd fun n b w a h hb hw hn hA=>?_
 have hlb:=hb.len
 have cZ:=hw.len
 refine bP (aC @aH @aK) ?_
 refine aI hKr ?_
 refine aY (aC @aH @aK) fun Kr hKr=>?_
 refine F6 hb hw ?_
 refine aO ?_
 refine aI hKr ?_
 refine aV (¬bC n b w) (fun hc=>?_) fun hc=>?_
 ·have h1:= @DW 4 4
  have h2:= @xW 4
  refine dB fun Kr hKr=>?_
  refine acH (n:=4) (by omega) ?_
  refine bP (aC @aH @aK) ?_
  refine aI hKr ?_
  refine ji (by simp (disch:=omega) only [RA,↓reduceIte,Nat.reduceEqDiff,RD,dS,gJ,aK];rfl) (dK.nrm [0] rfl rfl (by simp only [RH,ou,l9]) (by simp only [aF,RH])) ?_;simp only [aF]
  exact hK _ _ _ _ _ (acI (by omega) (by omega)) (DU (by omega)) (by omega) hA
 ·refine au (aC @aH @aK) ?_
  refine ji (by simp (disch:=omega) only [RA,↓reduceIte,Nat.reduceEqDiff,RD,dS,gJ,aK];rfl) (dK.nrm [0] rfl rfl (by simp only [RH,ou,l9]) (by simp only [aF,RH])) ?_;simp only [aF]
  exact hK n b w _ _ hb hw (by omega) hA
theorem Q7 {i:Nat} {H:BH} {K:Value→BH→Prop} (hb:blk H i=some (SC code a h)) (ha:a≤code.length) (hl:code.length≤1048576) (hcd: ∀i,nl code i<256)
  (hK: ∀(n:Int) b w a' h',By 16 b→By 16 w→ -1≤n∧n≤17→a'≤code.length→K (DV n b w) (H.set i (some (SC code a' h')))):aJ false Uc [P i 0] H K:=by
 refine uf hb mF ?_
 have e:([P i 0]:List Value).map (ren [i])=[P 0 0]:=by simp [ren,nU,nm]
 rw [e]
 exact aoi ha hl hcd fun n b w a' h' k1 k2 k3 k4=>⟨fC,HN.cons mF HN.nil,hK n b w a' h' k1 k2 k3 k4⟩
theorem al1 {x:Bool} {H:BH} {K:Value→BH→Prop} (hl:code.length≤1048576) (hcd: ∀i,nl code i<256) (hK: ∀(n:Int) b w,By 16 b→By 16 w→ -1≤n∧n≤17→K (DV n b w) H):aJ x aen [FB code] H K:=by
 have hz:=kM
 refine dw (.cons .fz .nil) ?_
 refine bf afS ?_;simp only [yc,aG]
 refine au @aH ?_
 refine dB fun Kr hKr=>?_
 refine Hq hl hcd fun h=>?_
 refine aO ?_
 refine Q7 (i:=1) rfl (Nat.zero_le _) hl hcd fun n b w a h hb hw hn hA=>?_
 have hlb:=hb.len
 have cZ:=hw.len
 refine bP (aC @aH @aK) ?_
 refine aI hKr ?_
 refine lD (aC @aH @aK) ?_
 exact ⟨fC,hK n b w hb hw hn⟩
theorem alY {x:Bool} {H:BH} {K:Value→BH→Prop} (hl:code.length≤1048576) (hcd: ∀i,nl code i<256) (hK: ∀(n:Int) b w,By 16 b→By 16 w→ -1≤n∧n≤17→K (DV n b w) H):aJ x aer [FB code] H K:=by
 have hz:=kM
 refine dw (.cons .fz .nil) ?_
 refine bf afV ?_;simp only [yg,aG]
 refine au @aH ?_
 refine dB fun Kr hKr=>?_
 refine Hq hl hcd fun h=>?_
 refine aO ?_
 refine Q7 (i:=1) rfl (Nat.zero_le _) hl hcd fun n b w a h hb hw hn hA=>?_
 have hlb:=hb.len
 have cZ:=hw.len
 refine bP (aC @aH @aK) ?_
 refine aI hKr ?_
 refine lD (aC @aH @aK) ?_
 exact ⟨fC,hK n b w hb hw hn⟩
theorem aoj {xs:List Int}:aT (xs.map I):= .map fun _=> .int
theorem Q8 {H:BH} {i:Nat} {xs ys:List Int} (h0:blk H 0=some (SC code a h)) (hi:blk H i=some (xs.map I)) (d:0≠i):
  dK 1 (.tuple ⟨[S i 0 xs.length 1,FI ys]⟩) H (.tuple ⟨[FI xs,FI ys]⟩) [some (SC code a h)]:=by
 have s1:=dK.fz (k:=1) (v:= .tuple ⟨[S i 0 xs.length 1,FI ys]⟩) hi aoj
 have e1:kL i (xs.map I) (.tuple ⟨[S i 0 xs.length 1,FI ys]⟩)= .tuple ⟨[FI xs,FI ys]⟩:=by
  have a1:fU i (xs.map I) (S i 0 xs.length 1)=FI xs:=kS (by simp)
  have a2:fU i (xs.map I) (FI ys)=FI ys:=rfl
  simp only [kL,List.map_cons,List.map_nil,a1,a2]
 rw [e1] at s1
 have y0:blk (H.set i none) 0=some (SC code a h):=by rw [jW (yZ hi),if_neg d];exact h0
 generalize H.set i none=H4 at s1 y0
 have s5:=dK.wG (k:=1) (v:= .tuple ⟨[FI xs,FI ys]⟩) (H:=H4) [0] (by simp) (fun j hj=>by
  obtain rfl:j=0:=by omega
  rfl) (NN.tuple (aT.cons .fz (aT.cons .fz aT.nil)))
 refine s1.trans ?_
 have e:qA [0] H4=[some ((SC code a h).map (ren [0]))]:=by simp [qA,y0]
 rw [e,L8] at s5
 exact s5
theorem aok {H:BH} (h0:blk H 0=some (SC code a h)):dK 1 (.tuple ⟨[.slice none 0 0, .slice none 0 0]⟩) H (.tuple ⟨[FI [],FI []]⟩) [some (SC code a h)]:=by
 have s1:=dK.nil (k:=1) (v:= .tuple ⟨[.slice none 0 0, .slice none 0 0]⟩) (H:=H) 1
 have e1:JX 1 (.tuple ⟨[.slice none 0 0, .slice none 0 0]⟩)= .tuple ⟨[FI [],FI []]⟩:=rfl
 rw [e1] at s1
 have s5:=dK.wG (k:=1) (v:= .tuple ⟨[FI [],FI []]⟩) (H:=H) [0] (by simp) (fun j hj=>by
  obtain rfl:j=0:=by omega
  rfl) (NN.tuple (aT.cons .fz (aT.cons .fz aT.nil)))
 refine s1.trans ?_
 have e:qA [0] H=[some ((SC code a h).map (ren [0]))]:=by simp [qA,h0]
 rw [e,L8] at s5
 exact s5
theorem aol {most:Int} {K:Value→BH→Prop} (ha:a≤code.length) (hl:code.length≤1048576) (hcd: ∀i,nl code i<256) (hm:1≤most∧most≤16)
  (hK: ∀xs ys a' h',xs.length≤101→ys.length≤101→a'≤code.length→K (.tuple ⟨[FI xs,FI ys]⟩) [some (SC code a' h')]):aJ false TV [P 0 0,I most] [some (SC code a h)] K:=by
 have hz:=kM
 refine bf afX ?_;simp only [kC,aG]
 refine aB ?_
 refine dB fun Kr hKr=>?_
 refine oN (i:=0) rfl ha hl hcd (by omega) fun v a h hA k2 k3 k4 k5=>?_
 have hv:=k4 (by omega)
 obtain ⟨n,hn⟩: ∃n:Nat,1+v=n:=⟨(1+v).toNat,by omega⟩
 have hn1:1≤n∧n≤16:=by omega
 clear k2 k3 k4 k5 ha
 refine bP @hn ?_
 refine aI hKr ?_
 refine dB fun Kr hKr=>?_
 refine L6 (i:=0) rfl hA hl hcd hn1 fun s a h hs hsl hA=>?_
 refine aO ?_
 refine Gz hs ?_
 obtain ⟨pb,pw⟩:=QV hs
 obtain ⟨hb,hw⟩:=zl hs
 have hsn:s.length/2=n:=by omega
 rw [hsn] at pb pw⊢
 generalize dY s=b at*
 generalize eX s=w at*
 have hlb:=hb.len
 have cZ:=hw.len
 refine bP (aC @aH @aK) ?_
 refine aI hKr ?_
 refine aY (aC @aH @aK) fun Kr hKr=>?_
 refine aog hb pb ?_
 refine bP (aC @aH @aK) ?_
 refine acG hw pw ?_
 have l1:=Q5 pb
 have l2:=Q5 pw
 generalize gY (typ b n)=xs at*
 generalize gY (typ w n)=ys at*
 refine aO ?_
 refine aI hKr ?_
 refine dB fun Kr hKr=>?_
 refine oN (i:=0) rfl hA hl hcd (by omega) fun v a h hA k2 k3 k4 k5=>?_
 refine aO ?_
 refine aI hKr ?_
 clear k2 k3 k4 k5
 refine bK ?_
 refine aB ?_
 refine aV (v=0) (fun hc=>?_) fun hc=>?_
 ·refine dB fun Kr hKr=>?_
  refine Q9 (i:=0) rfl hA hl hcd hn1 (by omega) fun p a h hp hpp hA=>?_
  refine aO ?_
  refine acG hp hpp ?_
  have l3:=Q5 hpp
  generalize gY (typ p n)=zs at*
  refine aO ?_
  refine aI hKr ?_
  refine aB ?_
  refine ji (vs:=[S 2 0 xs.length 1,FI zs]) (by simp (disch:=omega) only [RA,↓reduceIte,Nat.reduceEqDiff,dS,gJ]<;>rfl) (Q8 (i:=2) rfl rfl (by omega)) ?_
  exact hK xs zs _ _ (by omega) (by omega) hA
 refine aB ?_
 refine aV (v=1) (fun hc=>?_) fun hc=>?_
 ·refine dB fun Kr hKr=>?_
  refine rU 3 rfl (by simp only [RH]) ?_;simp only [RZ,kS]
  refine uo (xs:=[1,0,2]) (i:=0) rfl hA hl hcd (by simp) (by simp) fun j a h hj hA=>?_
  generalize el [1,0,2] j=q
  refine aO ?_
  refine aI hKr ?_
  refine aB ?_
  refine ji (vs:=[S 5 0 (xs++[q]).length 1,FI ys]) (by simp (disch:=omega) only [RA,↓reduceIte,Nat.reduceEqDiff,dS,gJ]<;>rfl) (Q8 (i:=5) rfl rfl (by omega)) ?_
  exact hK (xs++[q]) ys _ _ (by simp;omega) (by omega) hA
 refine aB ?_
 refine aV (v=2) (fun hc=>?_) fun hc=>?_
 ·refine aB ?_
  refine ji (vs:=[.slice none 0 0, .slice none 0 0]) (by simp (disch:=omega) only [RA,↓reduceIte,Nat.reduceEqDiff,dS,gJ]<;>rfl) (aok rfl) ?_
  exact hK [] [] _ _ (by simp) (by simp) hA
 refine aB ?_
 refine ji (vs:=[S 2 0 xs.length 1,FI ys]) (by simp (disch:=omega) only [RA,↓reduceIte,Nat.reduceEqDiff,dS,gJ]<;>rfl) (Q8 (i:=2) rfl rfl (by omega)) ?_
 exact hK xs ys _ _ (by omega) (by omega) hA
theorem Rf {xs ys:List Int}:NN (.tuple ⟨[FI xs,FI ys]⟩):=NN.tuple (aT.cons .fz (aT.cons .fz aT.nil))
theorem acJ {most:Int} {i:Nat} {H:BH} {K:Value→BH→Prop} (hb:blk H i=some (SC code a h)) (ha:a≤code.length) (hl:code.length≤1048576) (hcd: ∀i,nl code i<256) (hm:1≤most∧most≤16)
  (hK: ∀xs ys a' h',xs.length≤101→ys.length≤101→a'≤code.length→K (.tuple ⟨[FI xs,FI ys]⟩) (H.set i (some (SC code a' h')))):aJ false TV [P i 0,I most] H K:=by
 refine uf hb mF ?_
 have e:([P i 0,I most]:List Value).map (ren [i])=[P 0 0,I most]:=by simp [ren,nU,nm]
 rw [e]
 exact aol ha hl hcd hm fun xs ys a' h' k1 k2 k3=>⟨Rf,HN.cons mF HN.nil,hK xs ys a' h' k1 k2 k3⟩
theorem amh {x:Bool} {H:BH} {K:Value→BH→Prop} (hl:code.length≤1048576) (hcd: ∀i,nl code i<256) (hK: ∀xs ys,xs.length≤101→ys.length≤101→K (.tuple ⟨[FI xs,FI ys]⟩) H):aJ x aea [FB code] H K:=by
 refine dw (.cons .fz .nil) ?_
 refine bf afF ?_;simp only [sQ,aG]
 refine aB ?_
 refine dB fun Kr hKr=>?_
 refine Hq hl hcd fun h=>?_
 refine aO ?_
 refine aI hKr ?_
 refine dB fun Kr hKr=>?_
 refine rU 1 rfl (by simp only [RH]) ?_;simp only [RZ,kS]
 refine uo (xs:=[5,7,8,9]) (i:=0) rfl (Nat.zero_le _) hl hcd (by simp) (by simp) fun j a h hj hA=>?_
 have hj1:=xU hj
 generalize el [5,7,8,9] j=q at hj1⊢
 simp only [List.mem_cons,List.not_mem_nil,or_false] at hj1
 refine aO ?_
 refine acJ (i:=0) rfl hA hl hcd (by omega) fun xs ys a h hx hy hA=>?_
 refine aO ?_
 refine aI hKr ?_
 refine aB ?_
 refine aU ?_
 exact ⟨Rf,hK xs ys hx hy⟩
theorem ame {x:Bool} {H:BH} {K:Value→BH→Prop} (hl:code.length≤1048576) (hcd: ∀i,nl code i<256) (hK: ∀xs ys,xs.length≤101→ys.length≤101→K (.tuple ⟨[FI xs,FI ys]⟩) H):aJ x aeg [FB code] H K:=by
 refine dw (.cons .fz .nil) ?_
 refine bf afK ?_;simp only [vC,aG]
 refine aB ?_
 refine dB fun Kr hKr=>?_
 refine Hq hl hcd fun h=>?_
 refine aO ?_
 refine acJ (i:=0) rfl (Nat.zero_le _) hl hcd (by omega) fun xs ys a h hx hy hA=>?_
 refine aO ?_
 refine aI hKr ?_
 refine aB ?_
 refine aU ?_
 exact ⟨Rf,hK xs ys hx hy⟩
end
theorem aaq {x:Bool} {p:List Nat} {n:Int} {H:BH} {K:Value→BH→Prop} (hb:By 16 p) (h:Perm p n) (hK:K (.tuple ⟨[Fz (aP p n.toNat).length 1 ((aP p n.toNat).map FN),I 0]⟩) H):aJ x ael [PL p,I n] H K:=by
 obtain ⟨m,rfl⟩: ∃m:Nat,n=m:=⟨n.toNat,by have:=h.1;omega⟩
 rw [Int.toNat_natCast] at hK
 have hlp:=hb.len
 refine dw (.cons (oG Dv) (.cons .int .nil)) ?_
 refine bf afQ ?_;simp only [sU,aG]
 refine aB ?_
 refine aY (aC @aH @aK) fun Kr hKr=>?_
 refine Pj hb ?_
 refine aO ?_
 refine aI hKr ?_
 refine oZ @h ?_
 refine aY (aC @aH @aK) fun Kr hKr=>?_
 refine vY hb h ?_
 refine aO ?_
 refine aI hKr ?_
 refine aU ?_
 exact ⟨NN.tuple (aT.cons .fz (aT.cons .int aT.nil)),hK⟩
end Go.Bm
namespace Go.Bm
open Go Go.Am
def nX (ws:List Int) (c:List Nat) (j:Nat):Int:=((c.take j).map (el ws)).sum
theorem Kz {ws:List Int} {c:List Nat} {j:Nat} (h:j<c.length):nX ws c (j+1)=nX ws c j+el ws (nl c j):=by
 have e:c[j]=nl c j:=by simp [nl,List.getD,h]
 rw [nX,List.take_add_one,List.getElem?_eq_getElem h,Option.toList_some,List.map_append,List.sum_append,e]
 simp [nX]
theorem Rh {ws:List Int} {c:List Nat} (hc: ∀x∈c,1≤el ws x∧el ws x≤50000000): ∀j,j≤c.length→(j:Int)≤nX ws c j∧nX ws c j≤50000000*j
 |0,_=>by simp [nX]
 |j+1,hj=>by
  have:=Rh hc j (by omega)
  have h1:=hc _ (iM (show j<c.length by omega))
  rw [Kz (by omega)]
  omega
def zO (xs:List Int):Prop:=(1≤xs.length∧xs.length≤16)∧ ∀i,i<xs.length→1≤el xs i∧el xs i≤800000000
theorem acK {xs:List Int} {y:Int} {i:Nat}:el (xs++[y]) i=if i<xs.length then el xs i else if i=xs.length then y else 0:=by
 simp only [el,List.getD]
 by_cases h:i<xs.length
 ·rw [if_pos h,List.getElem?_append_left h]
 ·rw [if_neg h,List.getElem?_append_right (by omega)]
  by_cases h2:i=xs.length
  ·subst h2;simp
  ·rw [if_neg h2,List.getElem?_eq_none (by simp;omega)];rfl
section
variable {code:List Nat} {a:Nat} {h:Int}
theorem KT {xs:List Int}:aT (xs.map I):= .map fun _=> .int
theorem L9 {ns:List Nat} {xs:List Int}:(xs.map I).map (ren ns)=xs.map I:=by
 rw [List.map_map];exact List.map_congr_left fun _ _=>rfl
theorem aom {ns:List Nat} {xs:List Nat}:(xs.map N8).map (ren ns)=xs.map N8:=by
 rw [List.map_map];exact List.map_congr_left fun _ _=>rfl
theorem Mc {ns:List Nat} {n:Int} {b w:List Nat}:(DC n b w).map (ren ns)=DC n b w:=by
 simp only [DC,List.map_cons,List.map_append,aom]
 rfl
theorem acL {H:BH} {i j:Nat} {n:Int} {b w:List Nat} {xs ys:List Int} (hi:blk H i=some (xs.map I)) (hj:blk H j=some (ys.map I)) (d:i≠j):
  dK 0 (.tuple ⟨[DV n b w,S i 0 xs.length 1,S j 0 ys.length 1]⟩) H (.tuple ⟨[DV n b w,FI xs,FI ys]⟩) ((H.set i none).set j none):=by
 have e0: ∀{k:Nat} {cs:List Value},fU k cs (DV n b w)=DV n b w:=rfl
 have a1:fU i (xs.map I) (S i 0 xs.length 1)=FI xs:=kS (by simp)
 have a2:fU i (xs.map I) (S j 0 ys.length 1)=S j 0 ys.length 1:=OV (Ne.symm d)
 have a3:fU j (ys.map I) (S j 0 ys.length 1)=FI ys:=kS (by simp)
 have a4:fU j (ys.map I) (FI xs)=FI xs:=rfl
 have s1:=dK.fz (k:=0) (v:= .tuple ⟨[DV n b w,S i 0 xs.length 1,S j 0 ys.length 1]⟩) hi KT
 have e1:kL i (xs.map I) (.tuple ⟨[DV n b w,S i 0 xs.length 1,S j 0 ys.length 1]⟩)= .tuple ⟨[DV n b w,FI xs,S j 0 ys.length 1]⟩:=by
  simp only [kL,List.map_cons,List.map_nil,a1,a2,e0]
 rw [e1] at s1
 have hj':blk (H.set i none) j=some (ys.map I):=by rw [jW (yZ hi),if_neg (Ne.symm d)];exact hj
 have s2:=dK.fz (k:=0) (v:= .tuple ⟨[DV n b w,FI xs,S j 0 ys.length 1]⟩) hj' KT
 have e2:kL j (ys.map I) (.tuple ⟨[DV n b w,FI xs,S j 0 ys.length 1]⟩)= .tuple ⟨[DV n b w,FI xs,FI ys]⟩:=by
  simp only [kL,List.map_cons,List.map_nil,a3,a4,e0]
 rw [e2] at s2
 exact s1.trans s2
theorem acM {n:Int} {b w:List Nat} {xs ys:List Int}:NN (.tuple ⟨[DV n b w,FI xs,FI ys]⟩):=NN.tuple (aT.cons fC (aT.cons .fz (aT.cons .fz aT.nil)))
theorem DX {n:Int} {b w:List Nat} {f:Fr} {H H0:BH} {K:Value→BH→Prop} {i j:Nat} {xs ys:List Int} (hb:By 16 b) (hw:By 16 w) (h0:blk H 0=some (DC 0 dF dF)) (h2:blk H 2=some (DC n b w)) (h3:blk H 3=some [S i 0 xs.length 1,S j 0 ys.length 1])
  (hi:blk H i=some (xs.map I)) (hj:blk H j=some (ys.map I)) (hij:i≠j∧i≠0∧j≠0) (g2:f 2=P 0 0) (g6:f 6=P 2 0) (g9:f 9=S 3 0 2 1) (hK:K (.tuple ⟨[DV n b w,FI xs,FI ys]⟩) H0):
  T 0 (.seq bF.uG .ret) (jq 0 [.cell 2 (some 33), .tmp 3, .tmp 4] fun v _=>NN v∧K v H0) f H:=by
 have hz:=kM
 have hlb:=hb.len
 have cZ:=hw.len
 have q0: ∀{x y:Value},bV none [x,y] 0=some x:=rfl
 have q1: ∀{x y:Value},bV none [x,y] 1=some y:=rfl
 have hl0:=lZ h0
 refine au (bG (bG (bG @g2 @g6 @g9 @h0) @h2 @h3 @q0) @q1 @aH @aK) ?_
 have b0:blk (H.set 0 (some (DC n b w))) 0=some (DC n b w):=by rw [jW hl0,if_pos rfl]
 have bi:blk (H.set 0 (some (DC n b w))) i=some (xs.map I):=by rw [jW hl0,if_neg hij.2.1];exact hi
 have bj:blk (H.set 0 (some (DC n b w))) j=some (ys.map I):=by rw [jW hl0,if_neg hij.2.2];exact hj
 refine ji (vs:=[DV n b w,S i 0 xs.length 1,S j 0 ys.length 1]) (by simp (disch:=omega) only [RA,↓reduceIte,Nat.reduceEqDiff,RD,aK,dS,gJ,g2,b0]<;>rfl) (acL bi bj hij.1) ?_
 exact ⟨acM,hK⟩
theorem acN {xs:List Int}:wX (some (xs.map I)) (some (xs.map I))=True:=Xh (by simp [Am.plain])
theorem aon {H:BH} {x y:Value} {b j o l e:Nat}:fQ (some [x,y]) H b 0 1 (S j o l e)=some (undef,H.set b (some [S j o l e,y])):=by rw [CB rfl rfl rfl (by simp)];rfl
theorem zO.len {xs:List Int} (h:zO xs):xs.length≤16:=h.1.2
theorem aoo {n:Int} {b w:List Nat} {f:Fr} {H0:BH} {K:Value→BH→Prop} {xs ys:List Int} (ha:a≤code.length) (hl:code.length≤1048576) (hcd: ∀i,nl code i<256) (hb:By 16 b) (hw:By 16 w) (hx:zO xs) (hy:zO ys)
  (g2:f 2=P 0 0) (g5:f 5=P 1 0) (g6:f 6=P 2 0) (g9:f 9=S 3 0 2 1) (hK: ∀us vs,us.length≤17→vs.length≤17→K (.tuple ⟨[DV n b w,FI us,FI vs]⟩) H0):
  T 0 (.seq bF.r28 (.seq (.seq bF.oV (.block 8 (.seq bF.pX (.cond (.t 102) bF.tu (.seq bF.r32 (.cond (.t 113) bF.vJ (.seq bF.vK (.cond (.t 120) bF.vM .skip)))))))) (.seq bF.uG .ret)))
   (jq 0 [.cell 2 (some 33), .tmp 3, .tmp 4] fun v _=>NN v∧K v H0) f [some (DC 0 dF dF),some (SC code a h),some (DC n b w),some [S 4 0 xs.length 1,S 5 0 ys.length 1],some (xs.map I),some (ys.map I)]:=by
 have q0: ∀{x y:Value},bV none [x,y] 0=some x:=rfl
 have q1: ∀{x y:Value},bV none [x,y] 1=some y:=rfl
 have hxl:=hx.1
 have hyl:=hy.1
 have hx0:=hx.2 0 (by omega)
 have hy0:=hy.2 0 (by omega)
 have hrow: ∀(f:Fr) (a:Nat) (h:Int) (q:Nat) (rs:List Int),a≤code.length→(q=4∧rs=xs∨q=5∧rs=ys)→f 2=P 0 0→f 5=P 1 0→f 6=P 2 0→f 9=S 3 0 2 1→f 17=S q 0 rs.length 1→
   T 0 (.seq bF.oV (.seq (.block 8 (.seq bF.pX (.cond (.t 102) bF.tu (.seq bF.r32 (.cond (.t 113) bF.vJ (.seq bF.vK (.cond (.t 120) bF.vM .skip))))))) (.seq bF.uG .ret)))
    (jq 0 [.cell 2 (some 33), .tmp 3, .tmp 4] fun v _=>NN v∧K v H0) f [some (DC 0 dF dF),some (SC code a h),some (DC n b w),some [S 4 0 xs.length 1,S 5 0 ys.length 1],some (xs.map I),some (ys.map I)]:=by
  intro f a h q rs ha hq g2 g5 g6 g9 g17
  refine aY @g5 fun Kr hKr=>?_
  refine oN (i:=1) rfl ha hl hcd (by omega) fun v a h hA k2 k3 k4 k5=>?_
  refine aO ?_
  refine aI hKr ?_
  clear k2 k3 k4 k5
  refine bK ?_
  refine aB ?_
  refine aV (v=0) (fun hc=>?_) fun hc=>?_
  ·rcases hq with ⟨rfl,rfl⟩|⟨rfl,rfl⟩
   ·refine aY (aX @RK @g5 @g17) fun Kr hKr=>?_
    refine rU 6 rfl (by simp only [RH]) ?_;simp only [RZ,kS]
    refine uo (xs:=[1,-1,5]) (i:=1) rfl hA hl hcd (by simp) (by simp) fun j a h hj hA=>?_
    have hj1:=xU hj
    generalize el [1,-1,5] j=u at hj1⊢
    simp only [List.mem_cons,List.not_mem_nil,or_false] at hj1
    refine bP (aX @RK @acN @g17) ?_
    refine aI hKr ?_
    exact DX (i:=4) (j:=5) (xs:=rs.set 0 (el rs 0+u)) (ys:=ys) hb hw rfl rfl (by simp;rfl) rfl rfl (by omega) ah ah ah (hK _ _ (by simp;omega) (by omega))
   ·refine aY (aX @RK @g5 @g17) fun Kr hKr=>?_
    refine rU 6 rfl (by simp only [RH]) ?_;simp only [RZ,kS]
    refine uo (xs:=[1,-1,5]) (i:=1) rfl hA hl hcd (by simp) (by simp) fun j a h hj hA=>?_
    have hj1:=xU hj
    generalize el [1,-1,5] j=u at hj1⊢
    simp only [List.mem_cons,List.not_mem_nil,or_false] at hj1
    refine bP (aX @RK @acN @g17) ?_
    refine aI hKr ?_
    exact DX (i:=4) (j:=5) (xs:=xs) (ys:=rs.set 0 (el rs 0+u)) hb hw rfl rfl (by simp;rfl) rfl rfl (by omega) ah ah ah (hK _ _ (by omega) (by simp;omega))
  refine aB ?_
  refine aV (v=1) (fun hc=>?_) fun hc=>?_
  ·rcases hq with ⟨rfl,rfl⟩|⟨rfl,rfl⟩
   ·refine aY (aC @g5 @g17) fun Kr hKr=>?_
    refine rU 6 rfl (by simp only [RH]) ?_;simp only [RZ,kS]
    refine uo (xs:=[0,1000000001,1]) (i:=1) rfl hA hl hcd (by simp) (by simp) fun j a h hj hA=>?_
    generalize el [0,1000000001,1] j=u
    refine bP @g17 ?_
    refine aI hKr ?_
    exact DX (i:=4) (j:=5) (xs:=rs.set 0 u) (ys:=ys) hb hw rfl rfl (by simp;rfl) rfl rfl (by omega) ah ah ah (hK _ _ (by simp;omega) (by omega))
   ·refine aY (aC @g5 @g17) fun Kr hKr=>?_
    refine rU 6 rfl (by simp only [RH]) ?_;simp only [RZ,kS]
    refine uo (xs:=[0,1000000001,1]) (i:=1) rfl hA hl hcd (by simp) (by simp) fun j a h hj hA=>?_
    generalize el [0,1000000001,1] j=u
    refine bP @g17 ?_
    refine aI hKr ?_
    exact DX (i:=4) (j:=5) (xs:=xs) (ys:=rs.set 0 u) hb hw rfl rfl (by simp;rfl) rfl rfl (by omega) ah ah ah (hK _ _ (by omega) (by simp;omega))
  refine aB ?_
  refine aV (v=2) (fun hc=>?_) fun hc=>?_
  ·refine au (aX @g9 @q0 @aon) ?_
   exact DX (i:=7) (j:=5) (xs:=xs++[1]) (ys:=ys) hb hw rfl rfl (by simp;rfl) rfl rfl (by omega) ah ah ah (hK _ _ (by simp;omega) (by omega))
  ·exact DX (i:=4) (j:=5) (xs:=xs) (ys:=ys) hb hw rfl rfl rfl rfl rfl (by omega) ah ah ah (hK _ _ (by omega) (by omega))
 refine aY (aC @g5 @g9) fun Kr hKr=>?_
 refine oN (i:=1) rfl ha hl hcd (by omega) fun v a h hA k2 k3 k4 k5=>?_
 have hv:=k4 (by omega)
 by_cases h0:v=0
 ·subst h0
  refine bP (aC @g9 @q0) ?_
  refine aI hKr ?_
  exact hrow _ _ _ 4 xs hA (.inl ⟨rfl,rfl⟩) ah ah ah ah ah
 ·obtain rfl:v=1:=by omega
  refine bP (aC @g9 @q1) ?_
  refine aI hKr ?_
  exact hrow _ _ _ 5 ys hA (.inr ⟨rfl,rfl⟩) ah ah ah ah ah
theorem aop {k:Nat} {c:aj} {Q:Ex→Fr→BH→Prop} {f:Fr} {H:BH} {i:Nat} {cs:List Value} (hc:blk H i=some cs) (hn:aT cs) (h: ∀f1:Fr,(∀t,f1 t=fU i cs (f t))→T k c Q f1 (H.set i none)):T k c Q f H:=jO (Gh.fz hc hn) (h _ fun _=>rfl)
theorem xF {f:Fr} {H H1:BH} (ns:List Nat) (hd:ns.Nodup) (e:qA ns H=H1):Gh 0 f H (fun t=>ren ns (f t)) H1:=e▸Gh.wG ns hd fun j hj=>absurd hj (Nat.not_lt_zero _)
theorem acO {ns:List Nat} {H:BH} {n:Int} {b w:List Nat} {c7:BH} (hh:qA ns H=[some ((DC 0 dF dF).map (ren ns)),some ((SC code a h).map (ren ns)),some ((DC n b w).map (ren ns))]++c7):qA ns H=[some (DC 0 dF dF),some (SC code a h),some (DC n b w)]++c7:=by
 rw [hh,Mc,Mc,L8]
theorem acP {ns:List Nat} {H:BH} {n:Int} {b w:List Nat} {c3:List Value} {c4:Option (List Value)} {c7:BH} (hh:qA ns H=[some ((DC 0 dF dF).map (ren ns)),some ((SC code a h).map (ren ns)),some ((DC n b w).map (ren ns)),some (c3.map (ren ns)),c4.map (List.map (ren ns))]++c7) (hc:c3.map (ren ns)=c3∧c4.map (List.map (ren ns))=c4):
  qA ns H=[some (DC 0 dF dF),some (SC code a h),some (DC n b w),some c3,c4]++c7:=by
 rw [hh,hc.1,hc.2,Mc,Mc,L8]
def DWs (k:Nat) (c3:List Value) (c4:Option (List Value)) (tl:BH):Prop:=
 (k=0∧c3=[]∧c4=none∧tl=[])∨(k=1∧ ∃xs,zO xs∧c3=[S 4 0 xs.length 1]∧c4=some (xs.map I)∧tl=[])∨
 (k=2∧ ∃xs ys,zO xs∧zO ys∧c3=[S 4 0 xs.length 1,S 5 0 ys.length 1]∧c4=some (xs.map I)∧tl=[some (ys.map I)])
theorem Md {ns:List Nat} {i j o l e:Nat} (h:nm ns i=some j):ren ns (S i o l e)=S j o l e:=by
 simp [ren,nU,h]
theorem al7 {x:Bool} {H:BH} {K:Value→BH→Prop} (hl:code.length≤1048576) (hcd: ∀i,nl code i<256)
  (hK: ∀(n:Int) b w us vs,By 16 b→By 16 w→ -1≤n∧n≤17→us.length≤17→vs.length≤17→K (.tuple ⟨[DV n b w,FI us,FI vs]⟩) H):aJ x aeh [FB code] H K:=by
 have hz:=kM
 refine dw (.cons .fz .nil) ?_
 refine bf afM ?_;simp only [bF,aG]
 refine au @aH ?_
 refine dB fun Kr hKr=>?_
 refine Hq hl hcd fun h=>?_
 refine aO ?_
 refine aI hKr ?_
 refine dB fun Kr hKr=>?_
 refine Q7 (i:=1) rfl (Nat.zero_le _) hl hcd fun n b w a h hb hw hn hA=>?_
 have hlb:=hb.len
 have cZ:=hw.len
 refine bP (aC @aH @aK) ?_
 refine aI hKr ?_
 refine aY (aC @aH @aK) fun Kr hKr=>?_
 refine F6 hb hw ?_
 refine aO ?_
 refine aI hKr ?_
 refine aV (¬bC n b w) (fun hc=>?_) fun hc=>?_
 ·refine au (aC @aH @aK) ?_
  refine ji (vs:=[DV n b w,S 3 0 ([1]:List Int).length 1,S 4 0 ([1]:List Int).length 1]) (by simp (disch:=omega) only [RA,↓reduceIte,Nat.reduceEqDiff,Nat.reduceBEq,Nat.reduceSub,Nat.reduceAdd,Nat.reduceMul,Nat.reduceLT,Nat.reduceLeDiff,Int.reduceLE,Int.reduceLT,Int.reduceEq,Int.reduceNeg,Int.reduceToNat,Int.reduceMul,Int.reduceAdd,Int.reduceSub,Int.reduceBEq,Int.reduceBNe,reduceCtorEq,RD,aK,dS,gJ]<;>rfl) (acL (xs:=[1]) (ys:=[1]) rfl rfl (by omega)) ?_
  exact ⟨acM,hK n b w [1] [1] hb hw hn (by simp) (by simp)⟩
 have hd:bC n b w:=Decidable.not_not.1 hc
 clear hc hn
 obtain ⟨n,rfl,hn1,hn2⟩:=hd.n0
 refine aB ?_
 refine aB ?_
 refine bM (fun m f H'=> ∃ws a' h',ws.length≤n∧m=n-ws.length∧(∀i,i<ws.length→1≤el ws i∧el ws i≤50000000)∧a'≤code.length∧f 2=P 0 0∧f 5=P 1 0∧f 6=P 2 0∧f 7=S 3 0 ws.length 1∧f 8=I ws.length∧H'=[some (DC 0 dF dF),some (SC code a' h'),some (DC n b w),some (ws.map I)]) (n) ?_ ?_
 ·exact ⟨_,_,Gh.refl,[],a,h,by simp,by simp,fun i hi=>absurd hi (Nat.not_lt_zero _),hA,ah,ah,ah,ah,ah,rfl⟩
 ·clear hA
  rintro m f H' R ⟨ws,a,h,hwl,rfl,hwe,hA,g2,g5,g6,g7,g8,rfl⟩ hN hX hR hE
  simp only [bF.l0,aG]
  refine au (aX @g6 @g8 @aH) ?_
  refine aV (ws.length<n) (fun hc=>?_) fun hc=>?_
  ·have hlt:ws.length<n:=by omega
   clear hc
   refine bK ?_
   refine aY (aC @g5 @g7) fun Kr hKr=>?_
   refine oN (i:=1) rfl hA hl hcd (by omega) fun v a h hA k2 k3 k4 k5=>?_
   have hv:=k4 (by omega)
   refine aO ?_
   refine rU 4 rfl (by simp only [RH]) ?_;simp only [RZ,kS]
   refine uo (xs:=[1,1,2,1+v,50000000]) (i:=1) rfl hA hl hcd (by simp) (by simp) fun j a h hj hA=>?_
   have hj1:=xU hj
   generalize el [1,1,2,1+v,50000000] j=u at hj1⊢
   simp only [List.mem_cons,List.not_mem_nil,or_false] at hj1
   refine bP @g7 ?_
   refine aI hKr ?_
   have e1:((ws.length:Nat):Int)+1=((ws++[u]).length:Nat):=by simp
   have e2:(ws++[u]).length=ws.length+1:=by simp
   refine bI (aC @g8 @e1) ?_
   refine hN (n-(ws++[u]).length) _ _ _ _ (by omega) (Gh.nrm [0,1,2,6] rfl rfl (by simp only [RH,ou,l9])) ⟨ws++[u],a,h,by omega,rfl,fun i hi=>?_,hA,ah,ah,ah,ah,ah,rfl⟩
   rw [e2] at hi
   rw [acK]
   by_cases e:i<ws.length
   ·rw [if_pos e];exact hwe i e
   ·rw [if_neg e,if_pos (by omega)];omega
  ·refine hX _ _ ?_
   have hwn:ws.length=n:=by omega
   clear hc hN hX hR hE
   have hwx: ∀y,y<n→1≤el ws y∧el ws y≤50000000:=fun y hy=>hwe y (by omega)
   refine iE ?_
   refine aop (i:=3) rfl (@KT ws) fun f1 hf1=>?_
   have k2:f1 2=P 0 0:=by rw [hf1];simp (disch:=omega) only [RA,↓reduceIte,Nat.reduceEqDiff,RD,g2]<;>rfl
   have k5:f1 5=P 1 0:=by rw [hf1];simp (disch:=omega) only [RA,↓reduceIte,Nat.reduceEqDiff,RD,g5]<;>rfl
   have k6:f1 6=P 2 0:=by rw [hf1];simp (disch:=omega) only [RA,↓reduceIte,Nat.reduceEqDiff,RD,g6]<;>rfl
   have k7:f1 7=FI ws:=by rw [hf1];simp (disch:=omega) only [RA,↓reduceIte,Nat.reduceEqDiff,RD,g7];exact kS (by simp)
   clear hf1 g2 g5 g6 g7 g8
   refine aB ?_
   refine aB ?_
   refine bM (fun m f H'=> ∃k c3 c4 tl,k≤2∧m=2-k∧DWs k c3 c4 tl∧f 2=P 0 0∧f 5=P 1 0∧f 6=P 2 0∧f 7=FI ws∧f 9=S 3 0 k 1∧f 10=I k∧H'=[some (DC 0 dF dF),some (SC code a h),some (DC n b w),some c3,c4]++tl) (2) ?_ ?_
   ·exact ⟨_,_,(Gh.nrm [0,1,2,4,3] rfl rfl (by simp only [RH,ou,l9])),0,[],none,[],by omega,by omega, .inl ⟨rfl,rfl,rfl,rfl⟩,ah,ah,ah,ah,ah,ah,rfl⟩
   ·clear k2 k5 k6 k7
    rintro m f H' R ⟨k,c3,c4,tl,hk,rfl,hdw,g2,g5,g6,g7,g9,g10,rfl⟩ hN hX hR hE
    simp only [bF.l3,aG]
    refine au @g10 ?_
    refine aV (k<2) (fun hc=>?_) fun hc=>?_
    ·refine bK ?_
     have hk2:k<2:=by omega
     clear hc
     obtain rfl:tl=[]:=by
      rcases hdw with ⟨_,_,_,e⟩|⟨_,_,_,_,_,e⟩|⟨e,_⟩
      ·exact e
      ·exact e
      ·omega
     refine au (aX @g6 @aH @aK) ?_
     refine au @g10 ?_
     have hc34: ∀ns:List Nat,nm ns 4=some 4→c3.map (ren ns)=c3∧c4.map (List.map (ren ns))=c4:=fun ns hns=>by
      rcases hdw with ⟨_,rfl,rfl,_⟩|⟨_,xs,_,rfl,rfl,_⟩|⟨e,_⟩
      ·exact ⟨rfl,rfl⟩
      ·refine ⟨?_,?_⟩
       ·simp only [List.map_cons,List.map_nil,Md hns]
       ·rw [Option.map_some,L9]
      ·omega
     have hmid: ∀(f':Fr) p,By 16 p→Perm p n→f' 2=P 0 0→f' 5=P 1 0→f' 6=P 2 0→f' 7=FI ws→f' 9=S 3 0 k 1→f' 10=I k→f' 11=P 6 0→f' 12=S 5 0 0 1→
       T ([]:BH).length (.seq bF.lC (.seq (.seq (.seq bF.nN (.block 4 (.loop bF.l2))) bF.r27) bF.r13)) R f' [some (DC 0 dF dF),some (SC code a h),some (DC n b w),some c3,c4,some [],some (p.map N8)]:=by
      clear g2 g5 g6 g7 g9 g10
      intro f p hp hpp g2 g5 g6 g7 g9 g10 g11 g12
      have hlp:=hp.len
      refine aY (bG @g6 @g11 @aH @aK) fun Kr hKr=>?_
      refine KN hp hpp ?_
      have hcl:=xA hpp
      have hc0:1≤(aP p n).length:=List.length_pos_iff.2 (alR (hp:=hpp))
      have hci: ∀c∈aP p n,(1≤c.length∧c.length≤n)∧ ∀x∈c,x<n:=fun c hc=>⟨Ku hpp hc,(oJ hpp hc).lt⟩
      generalize aP p n=cs at*
      refine aO ?_
      refine aI hKr ?_
      refine aB ?_
      refine bM (fun m f H'=> ∃own,own.length≤cs.length∧m=cs.length-own.length∧(∀i,i<own.length→1≤el own i∧el own i≤800000000)∧f 2=P 0 0∧f 5=P 1 0∧f 6=P 2 0∧f 7=FI ws∧f 9=S 3 0 k 1∧f 10=I k∧f 12=S 5 0 own.length 1∧f 13=Fz cs.length 1 (cs.map FN)∧f 14=I own.length∧H'=[some (DC 0 dF dF),some (SC code a h),some (DC n b w),some c3,c4,some (own.map I)]) (cs.length) ?_ ?_
      ·exact ⟨_,_,xF [0,1,2,3,4,5] (by simp) (acP (c7:=[some (([]:List Int).map I)]) rfl (hc34 _ rfl)),[],by simp,by simp,fun i hi=>absurd hi (Nat.not_lt_zero _),ah,ah,ah,ah,ah,ah,ah,ah,ah,rfl⟩
      ·clear g2 g5 g6 g7 g9 g10 g11 g12
       rintro m f H' R1 ⟨own,how,rfl,hoe,g2,g5,g6,g7,g9,g10,g12,g13,g14,rfl⟩ hN1 hX1 hR1 hE1
       simp only [bF.l2,aG]
       refine au (aC @g13 @g14) ?_
       refine aV (own.length<cs.length) (fun hc=>?_) fun hc=>?_
       ·have hlt:own.length<cs.length:=by omega
        clear hc
        refine bK ?_
        refine aB ?_
        refine aB ?_
        obtain ⟨c,Ri⟩: ∃c,cs.getD own.length []=c:=⟨_,rfl⟩
        have hcm:c∈cs:=by rw [←Ri];exact aar hlt
        obtain ⟨⟨l1,l2⟩,l3⟩:=hci c hcm
        refine bM (fun m f H'=> ∃j,j≤c.length∧m=c.length-j∧f 2=P 0 0∧f 5=P 1 0∧f 6=P 2 0∧f 7=FI ws∧f 9=S 3 0 k 1∧f 10=I k∧f 12=S 5 0 own.length 1∧f 13=Fz cs.length 1 (cs.map FN)∧f 14=I own.length∧f 15=I (nX ws c j)∧f 16=I j∧H'=[some (DC 0 dF dF),some (SC code a h),some (DC n b w),some c3,c4,some (own.map I)]) (c.length) ?_ ?_
        ·exact ⟨_,_,Gh.refl,0,by omega,by omega,ah,ah,ah,ah,ah,ah,ah,ah,ah,ah,ah,rfl⟩
        ·clear g2 g5 g6 g7 g9 g10 g12 g13 g14
         rintro m f H' R2 ⟨j,hj,rfl,g2,g5,g6,g7,g9,g10,g12,g13,g14,g15,g16,rfl⟩ iG hX2 hR2 hE2
         simp only [bF.l1,aG]
         refine au (jk @g13 @g14 @g16 @qO @Ri) ?_
         refine aV (j<c.length) (fun hc=>?_) fun hc=>?_
         ·have hjl:j<c.length:=by omega
          clear hc
          have hxn:=l3 _ (iM hjl)
          have hb3:=Rh (ws:=ws) (c:=c) (fun x hx=>hwx x (l3 x hx)) j (by omega)
          have hs3:=Kz (ws:=ws) hjl
          have hw3:=hwx _ hxn
          refine bK ?_
          refine au (jM (bG @g7 @g13 @g14 @g15) @g16 @qO @Ri @mD @hwn) ?_
          refine bI @g16 ?_
          exact iG (c.length-(j+1)) _ _ _ _ (by omega) Gh.refl ⟨j+1,by omega,rfl,ah,ah,ah,ah,ah,ah,ah,ah,ah,ah,ah,rfl⟩
         ·refine hX2 _ _ ?_
          obtain rfl:j=c.length:=by omega
          have hb3:=Rh (ws:=ws) (c:=c) (fun x hx=>hwx x (l3 x hx)) c.length (by omega)
          refine iE ?_
          refine au (aC @g12 @g15) ?_
          have e1:((own.length:Nat):Int)+1=((own++[nX ws c c.length]).length:Nat):=by simp
          have e2:(own++[nX ws c c.length]).length=own.length+1:=by simp
          refine bI (aC @g14 @e1) ?_
          refine hN1 (cs.length-(own++[nX ws c c.length]).length) _ _ _ _ (by omega) (xF [0,1,2,3,4,7] (by simp) (acP (c7:=[some ((own++[nX ws c c.length]).map I)]) (by simp only [qA,List.map_cons,List.map_nil,Oz,OA,OB,OC,OD,OE,OG,OH,List.cons_append,List.nil_append,Option.map_some,L9]) (hc34 _ rfl))) ⟨own++[nX ws c c.length],by omega,rfl,fun i hi=>?_,ah,ah,ah,ah,ah,ah,ah,ah,ah,rfl⟩
          rw [e2] at hi
          rw [acK]
          by_cases e:i<own.length
          ·rw [if_pos e];exact hoe i e
          ·rw [if_neg e,if_pos (by omega)];omega
       ·refine hX1 _ _ ?_
        have hoc:own.length=cs.length:=by omega
        clear hc
        have hrow:zO own:=⟨by omega,hoe⟩
        refine iE ?_
        have e3: ∀{v:Value},dG (List.replicate 1 v) [(0,1,S 5 0 own.length 1)]=some [S 5 0 own.length 1]:=rfl
        rcases hdw with ⟨rfl,rfl,rfl,_⟩|⟨rfl,xs,hxs,rfl,rfl,_⟩|⟨e,_⟩
        ·refine au (bG @g9 @g12 @e3 @Rj) ?_
         refine bI @g10 ?_
         refine hN 1 _ _ _ _ (by omega) (xF [0,1,2,7,5] (by simp) (H1:=[some (DC 0 dF dF),some (SC code a h),some (DC n b w),some [S 4 0 own.length 1],some (own.map I)]) ((acO (c7:=[some (([]++[S 5 0 own.length 1]).map (ren [0,1,2,7,5])),some ((own.map I).map (ren [0,1,2,7,5]))]) rfl).trans (by simp only [List.nil_append,List.map_cons,List.map_nil,List.cons_append,L9,Md (rfl:nm [0,1,2,7,5] 5=some 4)]))) ⟨1,_,_,[],by omega,rfl, .inr (.inl ⟨rfl,own,hrow,rfl,rfl,rfl⟩),ah,ah,ah,ah,ah,ah,rfl⟩
        ·have e4: ∀{H:BH} {b cn:Nat},app1 (some [S 5 0 own.length 1]) (some [S 4 0 xs.length 1]) H b 1 24 cn=some (S H.length 0 2 1,(H.set b none)++[some ([S 4 0 xs.length 1]++[S 5 0 own.length 1])]):=fun {H b cn}=>Rj (by simp) (by omega)
         refine au (bG @g9 @g12 @e3 @e4) ?_
         refine bI @g10 ?_
         refine hN 0 _ _ _ _ (by omega) (xF [0,1,2,7,4,5] (by simp) (H1:=[some (DC 0 dF dF),some (SC code a h),some (DC n b w),some [S 4 0 xs.length 1,S 5 0 own.length 1],some (xs.map I),some (own.map I)]) ((acO (c7:=[some (([S 4 0 xs.length 1]++[S 5 0 own.length 1]).map (ren [0,1,2,7,4,5])),some ((xs.map I).map (ren [0,1,2,7,4,5])),some ((own.map I).map (ren [0,1,2,7,4,5]))]) rfl).trans (by simp only [List.nil_append,List.map_cons,List.map_nil,List.cons_append,L9,Md (rfl:nm [0,1,2,7,4,5] 5=some 5),Md (rfl:nm [0,1,2,7,4,5] 4=some 4)]))) ⟨2,_,_,[some (own.map I)],by omega,rfl, .inr (.inr ⟨rfl,xs,own,hxs,hrow,rfl,rfl,rfl⟩),ah,ah,ah,ah,ah,ah,rfl⟩
        ·omega
     refine aV (k=1) (fun hc=>?_) fun hc=>?_
     ·have hst:=fun {H:BH} {i:Nat}=> @Df H i b w hlb cZ
      refine au (bG @g6 @aH @aK @hst) ?_
      exact hmid _ w hw hd.2.1 ah ah ah ah ah ah ah ah
     ·exact hmid _ b hb hd.1 ah ah ah ah ah ah ah ah
    ·refine hX _ _ ?_
     obtain rfl:k=2:=by omega
     rcases hdw with ⟨e,_⟩|⟨e,_⟩|⟨_,xs,ys,hxs,hys,rfl,rfl,rfl⟩
     ·omega
     ·omega
     ·refine iE ?_
      exact aoo hA hl hcd hb hw hxs hys ah ah ah ah fun us vs h1 h2=>hK n b w us vs hb hw (by omega) h1 h2
end
end Go.Bm
