/- DpQc, DpQd, DpQe -/
import Derived.Test.YtbpfbfbabpkceaaGreatDpG1
import Derived.Test.YtbpfbfbabpkceaaGreatDpG4
set_option linter.unusedVariables false
set_option linter.unusedSimpArgs false
set_option linter.unusedSectionVars false
namespace Go.Bm.Q5
open Go Go.Am Go.Bm
open Classical in
noncomputable def okD (d:L2):L2:=if By 16 d.1∧By 16 d.2 then d else (fQ,fQ)
noncomputable def gG (n:Nat) (d:L2):Value:=DV n (okD d).1 (okD d).2
theorem yC:By 16 fQ:=⟨jS,fun i=>by rw [fQ,lG];split<;>omega⟩
theorem Ld (d:L2):By 16 (okD d).1∧By 16 (okD d).2:=by
 unfold okD
 split
 ·assumption
 ·exact ⟨yC,yC⟩
theorem Le {n:Nat} {d:L2} (h1:By 16 d.1) (h2:By 16 d.2):gG n d=DV n d.1 d.2:=by
 rw [gG,okD,if_pos ⟨h1,h2⟩]
abbrev BO:List IntKind:= .i64::List.replicate 32 .u8
theorem Lh: ∀l:List Nat,(∀x∈l,x<256)→keyG (List.replicate l.length .u8) (l.map N8)=true
 |[],_=>rfl
 |x::l,h=>by
  have h1:=h x (by simp)
  have h2:=Lh l fun y hy=>h y (by simp [hy])
  have e1:IntKind.u8.min=0:=by decide
  have e2:IntKind.u8.max=255:=by decide
  rw [List.length_cons,List.replicate_succ,List.map_cons]
  show (decide (IntKind.u8= .u8)&&(decide (IntKind.u8.min≤(x:Int))&&decide ((x:Int)≤IntKind.u8.max))&&keyG _ _)=true
  rw [h2,e1,e2]
  simp
  omega
theorem Lj {n:Nat} (hn:n≤16) {b w:List Nat} (hb:By 16 b) (hw:By 16 w):keyV BO (DV n b w)=true:=by
 have h:=Lh (b++w) fun x hx=>(List.mem_append.1 hx).elim (hb.mem x) (hw.mem x)
 rw [List.length_append,hb.len,hw.len,List.map_append] at h
 have e1:IntKind.i64.min= -9223372036854775808:=by decide
 have e2:IntKind.i64.max=9223372036854775807:=by decide
 show (decide (IntKind.i64= .i64)&&(decide (IntKind.i64.min≤(n:Int))&&decide ((n:Int)≤IntKind.i64.max))&&keyG (List.replicate (16+16) IntKind.u8) (b.map N8++w.map N8))=true
 rw [h,e1,e2]
 simp
 omega
theorem Ll {n:Nat} (hn:n≤16) (d:L2):keyV BO (gG n d)=true:=Lj hn (Ld d).1 (Ld d).2
theorem Lm {n:Nat} (hn:n≤16) (s:List L2):(s.map (gG n)).all (keyV BO)=true:=List.all_eq_true.2 fun v hv=>by
 obtain ⟨d,_,rfl⟩:=List.mem_map.1 hv
 exact Ll hn d
theorem abx {n:Nat} {ns:List Nat} (d:L2):ren ns (gG n d)=gG n d:=by
 have hp:(DC n (okD d).1 (okD d).2).all pl1=true:=List.all_eq_true.2 fun v hv=>by
  rcases List.mem_cons.1 hv with rfl|hv
  ·rfl
  ·rcases List.mem_append.1 hv with hv|hv<;>(obtain ⟨x,_,rfl⟩:=List.mem_map.1 hv;rfl)
 show (if (DC n (okD d).1 (okD d).2).all pl1=true then _ else _)=_
 rw [if_pos hp]
 rfl
theorem E8 {n:Nat} {ns:List Nat} (s:List L2):(s.map (gG n)).map (ren ns)=s.map (gG n):=by
 rw [List.map_map]
 exact List.map_congr_left fun d _=>abx d
section
variable (n:Nat) (black:List Nat)
def b0 (_:List L2):Option (List Value):=some [I n]
def b1 (_:List L2):Option (List Value):=some []
noncomputable def b2 (s:List L2):Option (List Value):=some (s.map (gG n))
def b3 (_:List L2):Option (List Value):=some [.map (some 1)]
def b4 (_:List L2):Option (List Value):=some (black.map N8)
def stepD (s:List L2) (w:List Nat):List L2:=if aX n black w then s++[eG black w n] else s
end
theorem aby {n:Nat} {black:List Nat} (s:List L2):ng (List.range 5) (PM (b0 n) b1 (b2 n) b3 (b4 black) s)=PM (b0 n) b1 (b2 n) b3 (b4 black) s:=by
 show [_,_,_,_,_]=_
 unfold PM
 have e1:Option.map (List.map (ren (List.range 5))) (some (s.map (gG n)))=some (s.map (gG n)):=by rw [Option.map_some,E8]
 have e2:Option.map (List.map (ren (List.range 5))) (some (black.map N8))=some (black.map N8):=by rw [Option.map_some,E9]
 exact congr (congrArg List.cons rfl) (congr (congrArg List.cons rfl) (congr (congrArg List.cons e1) (congr (congrArg List.cons rfl) (congr (congrArg List.cons e2) rfl))))
noncomputable abbrev EA (n:Nat) (black:List Nat):List L2→List Nat→List Bool→BH:=EM (b0 n) b1 (b2 n) b3 (b4 black) BI [P 0 0,P 4 0,P 3 0] n
theorem abz {n:Nat} {black p:List Nat} {used:List Bool} {s:List L2} {ex:BH}:ng (List.range 10) (EA n black s p used++ex)=EA n black s p used:=by
 show [_,_,_,_,_,_,_,_,_,_]=_
 unfold EA EM
 have e0:Option.map (List.map (ren (List.range 10))) (some (s.map (gG n)))=some (s.map (gG n)):=by rw [Option.map_some,E8]
 have e1:Option.map (List.map (ren (List.range 10))) (some (black.map N8))=some (black.map N8):=by rw [Option.map_some,E9]
 have e2:Option.map (List.map (ren (List.range 10))) (some (p.map N8))=some (p.map N8):=by rw [Option.map_some,E9]
 have e3:Option.map (List.map (ren (List.range 10))) (some (used.map B))=some (used.map B):=by rw [Option.map_some,abA]
 have c2:Option.map (List.map (ren (List.range 10))) (some [clo BI [P 0 0,P 4 0,P 3 0]])=some [clo BI [P 0 0,P 4 0,P 3 0]]:=by
  rw [Option.map_some,List.map_cons,List.map_nil,Lp]
  rfl
 have c3:Option.map (List.map (ren (List.range 10))) (some [uS])=some [uS]:=by
  rw [Option.map_some,List.map_cons,List.map_nil,uS,Lp]
  rfl
 exact congr (congrArg List.cons rfl) (congr (congrArg List.cons rfl) (congr (congrArg List.cons e0) (congr (congrArg List.cons rfl) (congr (congrArg List.cons e1) (congr (congrArg List.cons rfl) (congr (congrArg List.cons c2) (congr (congrArg List.cons e2) (congr (congrArg List.cons e3) (congr (congrArg List.cons c3) rfl)))))))))
theorem abB {n:Nat} {black:List Nat} (hn:n≤16) (hb:By 16 black) (hbp:Perm black n):Lr (b0 n) b1 (b2 n) b3 (b4 black) BI [P 0 0,P 4 0,P 3 0] n (stepD n black):=by
 intro s w p used K hw hk
 have hwb:By 16 w:=⟨hw.2,fun i=>by have:=hw.1.jM hw.2 i;omega⟩
 have hlb:=hb.len
 have fG:=hw.2
 have hz:=jS
 have gone: ∀{v:Value},getN none [v] 0=some v:=rfl
 have hfin: ∀(f':Fr) (s':List L2) (ex:BH),K (.tuple ⟨[]⟩) (EA n black s' p used)→mg 10 [] K .normal f' (EA n black s' p used++ex):=by
  intro f' s' ex hk
  refine Fa (vs:=[]) rfl (aY.qj (List.range 10) List.nodup_range (fun j hj=>Ls hj) .undef) ?_
  rw [abz]
  exact hk
 refine aG YS ?_;simp only [mX,aB]
 unfold EM b0 b1 b2 b3 b4
 refine au fun Kr hKr=>?_;simp (disch:=omega) only [RA,↓reduceIte,Nat.reduceEqDiff,Nat.reduceBEq,Nat.reduceSub,Nat.reduceAdd,Nat.reduceMul,Nat.reduceLT,Nat.reduceLeDiff,Int.reduceLE,Int.reduceLT,Int.reduceEq,Int.reduceNeg,Int.reduceToNat,Int.reduceMul,Int.reduceAdd,Int.reduceSub,Int.reduceBEq,Int.reduceBNe,reduceCtorEq,RD,aI,aT,R4];refine hKr _ _ ?_;clear hKr Kr;(try simp only [RN,reduceIte]);try refine aj rfl ?_
 refine au fun Kr hKr=>?_;simp (disch:=omega) only [RA,↓reduceIte,Nat.reduceEqDiff,Nat.reduceBEq,Nat.reduceSub,Nat.reduceAdd,Nat.reduceMul,Nat.reduceLT,Nat.reduceLeDiff,Int.reduceLE,Int.reduceLT,Int.reduceEq,Int.reduceNeg,Int.reduceToNat,Int.reduceMul,Int.reduceAdd,Int.reduceSub,Int.reduceBEq,Int.reduceBNe,reduceCtorEq,RD,aI,aT,R4,gone];refine hKr _ _ ?_;clear hKr Kr;(try simp only [RN,reduceIte]);try refine aj rfl ?_
 refine au fun Kr hKr=>?_;simp (disch:=omega) only [RA,↓reduceIte,Nat.reduceEqDiff,Nat.reduceBEq,Nat.reduceSub,Nat.reduceAdd,Nat.reduceMul,Nat.reduceLT,Nat.reduceLeDiff,Int.reduceLE,Int.reduceLT,Int.reduceEq,Int.reduceNeg,Int.reduceToNat,Int.reduceMul,Int.reduceAdd,Int.reduceSub,Int.reduceBEq,Int.reduceBNe,reduceCtorEq,RD,aI,aT,R4,gone]
 refine abC hb hwb hbp hw.1 ?_
 simp (disch:=omega) only [RA,↓reduceIte,Nat.reduceEqDiff,Nat.reduceBEq,Nat.reduceSub,Nat.reduceAdd,Nat.reduceMul,Nat.reduceLT,Nat.reduceLeDiff,Int.reduceLE,Int.reduceLT,Int.reduceEq,Int.reduceNeg,Int.reduceToNat,Int.reduceMul,Int.reduceAdd,Int.reduceSub,Int.reduceBEq,Int.reduceBNe,reduceCtorEq,RD,aI,aT,R4]
 refine hKr _ _ ?_;clear hKr Kr;(try simp only [bW,dH,dG]);(try simp only [RN,reduceIte]);try refine aj rfl ?_
 by_cases hd:aX n black w
 ·have hc:By 16 (eG black w n).1∧By 16 (eG black w n).2:=uT (k:=n-1) hd (by have:=hbp.1;omega)
  have e:gG n (eG black w n)=DV n (eG black w n).1 (eG black w n).2:=Le hc.1 hc.2
  rw [stepD,if_pos hd] at hk
  refine jX (t:=true) (by simp (disch:=omega) only [RA,↓reduceIte,Nat.reduceEqDiff,Nat.reduceBEq,Nat.reduceSub,Nat.reduceAdd,Nat.reduceMul,Nat.reduceLT,Nat.reduceLeDiff,Int.reduceLE,Int.reduceLT,Int.reduceEq,Int.reduceNeg,Int.reduceToNat,Int.reduceMul,Int.reduceAdd,Int.reduceSub,Int.reduceBEq,Int.reduceBNe,reduceCtorEq,RD,decide_eq_true hd]) ?_;(try simp only [RN,reduceIte]);try refine aj rfl ?_
  refine dN fun Kr hKr=>?_;simp (disch:=omega) only [RA,↓reduceIte,Nat.reduceEqDiff,Nat.reduceBEq,Nat.reduceSub,Nat.reduceAdd,Nat.reduceMul,Nat.reduceLT,Nat.reduceLeDiff,Int.reduceLE,Int.reduceLT,Int.reduceEq,Int.reduceNeg,Int.reduceToNat,Int.reduceMul,Int.reduceAdd,Int.reduceSub,Int.reduceBEq,Int.reduceBNe,reduceCtorEq,RD,aI,aT,R4,gone]
  refine abD hb hwb hd ?_
  simp (disch:=omega) only [RA,↓reduceIte,Nat.reduceEqDiff,Nat.reduceBEq,Nat.reduceSub,Nat.reduceAdd,Nat.reduceMul,Nat.reduceLT,Nat.reduceLeDiff,Int.reduceLE,Int.reduceLT,Int.reduceEq,Int.reduceNeg,Int.reduceToNat,Int.reduceMul,Int.reduceAdd,Int.reduceSub,Int.reduceBEq,Int.reduceBNe,reduceCtorEq,RD,abE]
  rw [abG (qs:=BO) (i:=1) (ks:=s.map (gG n)) rfl rfl (Lj hn hc.1 hc.2) (Lm hn s)]
  refine hKr _ _ ?_;clear hKr Kr;(try simp only [bW,dH,dG]);(try simp only [RN,reduceIte]);try refine aj rfl ?_
  rw [←e]
  have h: ∀f',_:=fun f'=>hfin f' (s++[eG black w n]) [some (w.map N8),some (DC n black w)] hk
  have e2:(s++[eG black w n]).map (gG n)=s.map (gG n)++[gG n (eG black w n)]:=by rw [List.map_append];rfl
  unfold EA EM b2 at h
  rw [e2] at h
  exact h _
 ·rw [stepD,if_neg hd] at hk
  refine jX (t:=false) (by simp (disch:=omega) only [RA,↓reduceIte,Nat.reduceEqDiff,Nat.reduceBEq,Nat.reduceSub,Nat.reduceAdd,Nat.reduceMul,Nat.reduceLT,Nat.reduceLeDiff,Int.reduceLE,Int.reduceLT,Int.reduceEq,Int.reduceNeg,Int.reduceToNat,Int.reduceMul,Int.reduceAdd,Int.reduceSub,Int.reduceBEq,Int.reduceBNe,reduceCtorEq,RD,decide_eq_false hd]) ?_;(try simp only [RN,reduceIte]);try refine aj rfl ?_
  exact hfin _ s [some (w.map N8),some (DC n black w)] hk
end Go.Bm.Q5
namespace Go.Bm
open Go Go.Am
theorem abH {x y:L2} (h:cZ x y): ¬cZ y x:=fun k=>sK x (lt2_trans h k)
def iH (d:L2):List L2→List L2
 |[]=>[d]
 |e::l=>if cZ e d then e::iH d l else if cZ d e then d::e::l else e::l
def gI (s:List L2):List L2:=s.foldl (fun l d=>iH d l) []
theorem uU {d x:L2}: ∀{l:List L2},x∈iH d l↔x=d∨x∈l
 |[]=>by simp [iH]
 |e::l=>by
  simp only [iH]
  split
  ·rw [List.mem_cons,uU (l:=l),List.mem_cons]
   constructor
   ·rintro (h|h|h)
    ·exact .inr (.inl h)
    ·exact .inl h
    ·exact .inr (.inr h)
   ·rintro (h|h|h)
    ·exact .inr (.inl h)
    ·exact .inl h
    ·exact .inr (.inr h)
  ·rename_i h1
   split
   ·simp
   ·rename_i h2
    have:=yE h2 h1
    subst this
    simp
theorem Fb {d:L2}: ∀{l:List L2},l.Pairwise cZ→(iH d l).Pairwise cZ
 |[],_=>by simp [iH]
 |e::l,h=>by
  obtain ⟨h1,h2⟩:=List.pairwise_cons.1 h
  simp only [iH]
  split
  ·rename_i hl
   refine List.pairwise_cons.2 ⟨fun x hx=>?_,Fb h2⟩
   rcases uU.1 hx with rfl|hx
   ·exact hl
   ·exact h1 x hx
  ·split
   ·rename_i hl
    refine List.pairwise_cons.2 ⟨fun x hx=>?_,h⟩
    rcases List.mem_cons.1 hx with rfl|hx
    ·exact hl
    ·exact lt2_trans hl (h1 x hx)
   ·exact h
theorem Lu {x:L2}: ∀{s l:List L2},x∈s.foldl (fun l d=>iH d l) l↔x∈s∨x∈l
 |[],l=>by simp
 |d::s,l=>by
  rw [List.foldl_cons,Lu,uU,List.mem_cons]
  constructor
  ·rintro (h|h|h)
   ·exact .inl (.inr h)
   ·exact .inl (.inl h)
   ·exact .inr h
  ·rintro ((h|h)|h)
   ·exact .inr (.inl h)
   ·exact .inl h
   ·exact .inr (.inr h)
theorem LC: ∀{s l:List L2},l.Pairwise cZ→(s.foldl (fun l d=>iH d l) l).Pairwise cZ
 |[],l,h=>h
 |d::s,l,h=>LC (s:=s) (Fb h)
theorem qZ {x:L2} {s:List L2}:x∈gI s↔x∈s:=by rw [gI,Lu];simp
theorem LG {s:List L2}:(gI s).Pairwise cZ:=LC .nil
theorem LJ: ∀{l k:List L2},l.Pairwise cZ→k.Pairwise cZ→(∀x,x∈l↔x∈k)→l=k
 |[],[],_,_,_=>rfl
 |[],y::k,_,_,h=>by have:=(h y).2 (by simp);cases this
 |x::l,[],_,_,h=>by have:=(h x).1 (by simp);cases this
 |x::l,y::k,h1,h2,h=>by
  obtain ⟨a1,a2⟩:=List.pairwise_cons.1 h1
  obtain ⟨c1,c2⟩:=List.pairwise_cons.1 h2
  have e:x=y:=by
   rcases List.mem_cons.1 ((h x).1 (by simp)) with e|hx
   ·exact e
   ·rcases List.mem_cons.1 ((h y).2 (by simp)) with e|hy
    ·exact e.symm
    ·exact absurd (c1 x hx) (abH (a1 y hy))
  subst e
  rw [LJ a2 c2 fun z=>?_]
  have hz:=h z
  rw [List.mem_cons,List.mem_cons] at hz
  constructor
  ·intro hl
   rcases hz.1 (.inr hl) with rfl|hk
   ·exact absurd (a1 _ hl) (sK _)
   ·exact hk
  ·intro hk
   rcases hz.2 (.inr hk) with rfl|hl
   ·exact absurd (c1 _ hk) (sK _)
   ·exact hl
theorem LK {d:L2}: ∀{l:List L2},(iH d l).length≤l.length+1
 |[]=>by simp [iH]
 |e::l=>by
  simp only [iH]
  split
  ·simp only [List.length_cons]
   have:=LK (d:=d) (l:=l)
   omega
  ·split<;>simp
end Go.Bm
namespace Go.Bm.Q5
open Go Go.Am Go.Bm
theorem BN: ∀(a a' b b':List Nat),a.length=a'.length→(a<a'∨(a=a'∧b<b'))→((a++b).map N8).map yu<((a'++b').map N8).map yu
 |[],[],b,b',_,h=>by
  have hb:b<b':=by
   rcases h with h|⟨_,h⟩
   ·exact absurd h (List.lt_irrefl _)
   ·exact h
  clear h
  simp only [List.nil_append]
  induction b generalizing b' with
  |nil=>
   cases b' with
   |nil=>exact absurd hb (List.lt_irrefl _)
   |cons y b'=>exact List.nil_lt_cons _ _
  |cons x b ih=>
   cases b' with
   |nil=>exact absurd hb (List.not_lt_nil _)
   |cons y b'=>
    simp only [List.map_cons]
    rw [List.cons_lt_cons_iff] at hb⊢
    rcases hb with hb|⟨rfl,hb⟩
    ·exact .inl (by show (x:Int)<y;omega)
    ·exact .inr ⟨rfl,ih b' hb⟩
 |[],y::a',_,_,hl,_=>by simp at hl
 |x::a,[],_,_,hl,_=>by simp at hl
 |x::a,y::a',b,b',hl,h=>by
  simp only [List.cons_append,List.map_cons]
  rw [List.cons_lt_cons_iff]
  have hl':a.length=a'.length:=by simpa using hl
  rcases h with h|⟨h1,h2⟩
  ·rw [List.cons_lt_cons_iff] at h
   rcases h with h|⟨rfl,h⟩
   ·exact .inl (by show (x:Int)<y;omega)
   ·exact .inr ⟨rfl,BN a a' b b' hl' (.inl h)⟩
  ·cases h1
   exact .inr ⟨rfl,BN a a b b' rfl (.inr ⟨rfl,h2⟩)⟩
theorem abI {n:Nat} {d e:L2} (hd:d.1.length=16) (he:e.1.length=16) (h:cZ d e):pK (DV n d.1 d.2) (DV n e.1 e.2):=by
 have:=BN d.1 e.1 d.2 e.2 (by omega) h
 have e1:(d.1++d.2).map N8=d.1.map N8++d.2.map N8:=List.map_append
 have e2:(e.1++e.2).map N8=e.1.map N8++e.2.map N8:=List.map_append
 rw [e1,e2] at this
 exact this
theorem LM {n:Nat} {d:L2}:(DC n d.1 d.2).all Am.plain=true:=List.all_eq_true.2 fun v hv=>by
 rcases List.mem_cons.1 hv with rfl|hv
 ·rfl
 ·rcases List.mem_append.1 hv with hv|hv<;>(obtain ⟨x,_,rfl⟩:=List.mem_map.1 hv;rfl)
def DL (n:Nat) (l:List L2):List Value:=l.flatMap fun d=>DC n d.1 d.2
theorem LP {n:Nat} {l:List L2}:aJ (DL n l):=fun v hv=>by
 obtain ⟨d,_,hd⟩:=List.mem_flatMap.1 hv
 exact .plain (List.all_eq_true.1 (LM (n:=n) (d:=d)) v hd)
theorem abJ {n i:Nat} {s:List L2} {H:BH} {K:Value→BH→Prop} {x:Bool} (hn:n≤16) (hs: ∀d∈s,By 16 d.1∧By 16 d.2) (hl:s.length≤1000000) (hi:blk H i=some []) (hk:blk H (i+1)=some (s.map (gG n)))
  (hK:K (S H.length 0 (gI s).length 33) (H++[some (DL n (gI s))])):aF x EJ [.map (some i)] H K:=by
 intro ρ Z as HA h1 h2
 obtain ⟨u,us,rfl,hv,hl0⟩:=h1.iV
 obtain rfl:=hl0.jo
 obtain ⟨b,hb,hb1,rfl⟩:=hv.BP
 obtain ⟨b',⟨c1,w1⟩,q1,q2,q3,q4,q5⟩:=h2.bH i _ hi
 rw [hb] at q1
 cases q1
 obtain ⟨b'',gk,p1,p2,p3,p4,p5⟩:=h2.bH (i+1) _ hk
 rw [hb1] at p1
 cases p1
 have hks:gk.cells=s.map (gG n):=Fe (Lm hn s) p5
 have hc1:c1=[]:=VL.jo q5
 have hw1:w1=true:=q4
 subst hc1;subst hw1
 have hky: ∀d∈gI s,gG n d=DV n d.1 d.2:=fun d hd=>by
  obtain ⟨a1,a2⟩:=hs d (qZ.1 hd)
  exact Le a1 a2
 have hmap:(gI s).map (gG n)=(gI s).map fun d=>DV n d.1 d.2:=List.map_congr_left hky
 have hfl:((gI s).map (gG n)).flatMap cellsL=DL n (gI s):=by
  rw [hmap,List.flatMap_map]
  rfl
 have hpl:(DL n (gI s)).all Am.plain=true:=List.all_eq_true.2 fun v hv=>by
  obtain ⟨d,_,hd⟩:=List.mem_flatMap.1 hv
  exact List.all_eq_true.1 (LM (n:=n) (d:=d)) v hd
 obtain ⟨r1,r2⟩:=h2.alloc (VL.plain (ρ:=ρ) (Z:=Z) hpl)
 refine ⟨Am.S HA.n 0 ((gI s).map (gG n)).length 33,HA.alloc (((gI s).map (gG n)).flatMap cellsL), .outer (.inr (.inl ⟨rfl,b,gk,n,(gI s).map (gG n),rfl,q3,p3,by rw [hks];simpa using hl,fun k hk=>?_,?_,fun k=>?_,rfl,rfl⟩)),fun _=>Ext.alloc _ _,
  put ρ H.length HA.n,Z,S H.length 0 (gI s).length 33,_,?_,by rw [hfl];exact r1,by simp,fun j hj=>by simp only [put];rw [if_neg (by omega)],by rw [hfl];exact r2,hK⟩
 ·rw [hks] at hk
  obtain ⟨d,hd,rfl⟩:=List.mem_map.1 hk
  exact ⟨_,rfl,Ll hn d⟩
 ·rw [hmap,List.pairwise_map]
  refine LG.imp_of_mem fun hd he hlt=>?_
  exact abI (hs _ (qZ.1 hd)).1.len (hs _ (qZ.1 he)).1.len hlt
 ·rw [hks,List.mem_map,List.mem_map]
  constructor
  ·rintro ⟨d,hd,rfl⟩;exact ⟨d,qZ.1 hd,rfl⟩
  ·rintro ⟨d,hd,rfl⟩;exact ⟨d,qZ.2 hd,rfl⟩
 ·rw [List.length_map]
  exact .slice (by simp [put])
end Go.Bm.Q5
