/- A second machine, laid over the small one: what is only read is a value that bears its content, memory is a short list of one's own blocks. Here: its values, its memory, its operations, and how they stand to the small machine's. -/
import Derived.Test.YtbpfbfbabpkceaaGreatAmCore
import Derived.Laws.Sem
set_option linter.unusedVariables false
set_option linter.unusedSimpArgs false
namespace Go.Bm
open Go Go.Am
abbrev BH:=List (Option (List Value))
def blk (H:BH) (i:Nat):Option (List Value):=(H[i]?).getD none
def Fz (l e:Nat) (cs:List Value):Value:= .iface l (.iface e (.tuple ⟨cs⟩))
def Fp (o:Nat) (cs:List Value):Value:= .iface o (.tuple ⟨cs⟩)
inductive VZ (Z:Nat→Option Blk):Value→Value→Prop where
 |junk {u:Value}:VZ Z .nilIface u
 |plain {v:Value}:Am.plain v=true→VZ Z v v
 |fz {l e b o:Nat} {bk:Blk} {cs ds:List Value}:Z b=some bk→cs.length=l*e→cs.length=ds.length→o+l*e≤bk.cells.length→ds=(bk.cells.drop o).take (l*e)→
   (∀(i:Nat) (c d:Value),cs[i]? =some c→ds[i]? =some d→VZ Z c d)→VZ Z (.iface l (.iface e (.tuple ⟨cs⟩))) (.slice (some ⟨b,o,none⟩) l e)
 |fz0 {e:Nat}:VZ Z (.iface 0 (.iface e (.tuple ⟨[]⟩))) (.slice none 0 0)
 |fp {b p o:Nat} {bk:Blk} {cs ds:List Value}:Z b=some bk→cs.length=ds.length→p+cs.length≤bk.cells.length→ds=(bk.cells.drop p).take cs.length→
   (∀(i:Nat) (c d:Value),cs[i]? =some c→ds[i]? =some d→VZ Z c d)→VZ Z (.iface o (.tuple ⟨cs⟩)) (.pointer (some ⟨b,p+o,none⟩))
 |agg {cs ds:List Value}:cs.length=ds.length→(∀(i:Nat) (c d:Value),cs[i]? =some c→ds[i]? =some d→VZ Z c d)→VZ Z (.agg ⟨cs⟩) (.agg ⟨ds⟩)
 |tuple {cs ds:List Value}:cs.length=ds.length→(∀(i:Nat) (c d:Value),cs[i]? =some c→ds[i]? =some d→VZ Z c d)→VZ Z (.tuple ⟨cs⟩) (.tuple ⟨ds⟩)
 |func {m:Nat} {cs ds:List Value}:cs.length=ds.length→(∀(i:Nat) (c d:Value),cs[i]? =some c→ds[i]? =some d→VZ Z c d)→VZ Z (.func (.func m) #[] ⟨cs⟩) (.func (.func m) #[] ⟨ds⟩)
inductive VR (ρ:Nat→Option Nat) (Z:Nat→Option Blk):Value→Value→Prop where
 |z {v u:Value}:VZ Z v u→VR ρ Z v u
 |ptr {i o b:Nat}:ρ i=some b→VR ρ Z (.pointer (some ⟨i,o,none⟩)) (.pointer (some ⟨b,o,none⟩))
 |slice {i o l e b:Nat}:ρ i=some b→VR ρ Z (.slice (some ⟨i,o,none⟩) l e) (.slice (some ⟨b,o,none⟩) l e)
 |agg {cs ds:List Value}:cs.length=ds.length→(∀(i:Nat) (c d:Value),cs[i]? =some c→ds[i]? =some d→VR ρ Z c d)→VR ρ Z (.agg ⟨cs⟩) (.agg ⟨ds⟩)
 |tuple {cs ds:List Value}:cs.length=ds.length→(∀(i:Nat) (c d:Value),cs[i]? =some c→ds[i]? =some d→VR ρ Z c d)→VR ρ Z (.tuple ⟨cs⟩) (.tuple ⟨ds⟩)
 |func {m:Nat} {cs ds:List Value}:cs.length=ds.length→(∀(i:Nat) (c d:Value),cs[i]? =some c→ds[i]? =some d→VR ρ Z c d)→VR ρ Z (.func (.func m) #[] ⟨cs⟩) (.func (.func m) #[] ⟨ds⟩)
 |map {i b:Nat}:ρ i=some b→ρ (i+1)=some (b+1)→VR ρ Z (.map (some i)) (.map (some b))
def VL (ρ:Nat→Option Nat) (Z:Nat→Option Blk) (cs ds:List Value):Prop:=cs.length=ds.length∧ ∀(i:Nat) (c d:Value),cs[i]? =some c→ds[i]? =some d→VR ρ Z c d
def nS (Z:Nat→Option Blk) (cs ds:List Value):Prop:=cs.length=ds.length∧ ∀(i:Nat) (c d:Value),cs[i]? =some c→ds[i]? =some d→VZ Z c d
section
variable {ρ ρ':Nat→Option Nat} {Z Z':Nat→Option Blk}
theorem VZ.mono (hz: ∀b k,Z b=some k→Z' b=some k) {v u:Value} (h:VZ Z v u):VZ Z' v u:=by
 induction h with
 |junk=>exact .junk
 |plain h=>exact .plain h
 |fz h h1 h2 h3 h4 _ ih=>exact .fz (hz _ _ h) h1 h2 h3 h4 ih
 |fz0=>exact .fz0
 |fp h h1 h2 h3 _ ih=>exact .fp (hz _ _ h) h1 h2 h3 ih
 |agg h _ ih=>exact .agg h ih
 |tuple h _ ih=>exact .tuple h ih
 |func h _ ih=>exact .func h ih
theorem VR.mono (hr: ∀i b,ρ i=some b→ρ' i=some b) (hz: ∀b k,Z b=some k→Z' b=some k) {v u:Value} (h:VR ρ Z v u):VR ρ' Z' v u:=by
 induction h with
 |z h=>exact .z (h.mono hz)
 |ptr h=>exact .ptr (hr _ _ h)
 |slice h=>exact .slice (hr _ _ h)
 |agg h _ ih=>exact .agg h ih
 |tuple h _ ih=>exact .tuple h ih
 |func h _ ih=>exact .func h ih
 |map h h1=>exact .map (hr _ _ h) (hr _ _ h1)
theorem VL.mono (hr: ∀i b,ρ i=some b→ρ' i=some b) (hz: ∀b k,Z b=some k→Z' b=some k) {cs ds:List Value} (h:VL ρ Z cs ds):VL ρ' Z' cs ds:=⟨h.1,fun i c d h1 h2=>(h.2 i c d h1 h2).mono hr hz⟩
theorem nS.vl {cs ds:List Value} (h:nS Z cs ds):VL ρ Z cs ds:=⟨h.1,fun i c d h1 h2=> .z (h.2 i c d h1 h2)⟩
theorem VR.int {k:IntKind} {n:Int} {u:Value} (h:VR ρ Z (.int k n) u):u= .int k n:=by cases h with|z h=>cases h;rfl
theorem VR.bool {b:Bool} {u:Value} (h:VR ρ Z (.bool b) u):u= .bool b:=by cases h with|z h=>cases h;rfl
theorem VR.string {s:ByteArray} {u:Value} (h:VR ρ Z (.string s) u):u= .string s:=by cases h with|z h=>cases h;rfl
theorem VR.ptr_inv {i o:Nat} {u:Value} (h:VR ρ Z (.pointer (some ⟨i,o,none⟩)) u): ∃b,ρ i=some b∧u= .pointer (some ⟨b,o,none⟩):=by
 cases h with
 |z h=>cases h with|plain h=>simp [Am.plain] at h
 |ptr h=>exact ⟨_,h,rfl⟩
theorem VR.slice_inv {i o l e:Nat} {u:Value} (h:VR ρ Z (.slice (some ⟨i,o,none⟩) l e) u): ∃b,ρ i=some b∧u= .slice (some ⟨b,o,none⟩) l e:=by
 cases h with
 |z h=>cases h with|plain h=>simp [Am.plain] at h
 |slice h=>exact ⟨_,h,rfl⟩
theorem VR.BP {i:Nat} {u:Value} (h:VR ρ Z (.map (some i)) u): ∃b,ρ i=some b∧ρ (i+1)=some (b+1)∧u= .map (some b):=by
 cases h with
 |z h=>cases h with|plain h=>simp [Am.plain] at h
 |map h h1=>exact ⟨_,h,h1,rfl⟩
theorem VR.nil_inv {l e:Nat} {u:Value} (h:VR ρ Z (.slice none l e) u):l=0∧e=0∧u= .slice none 0 0:=by
 cases h with
 |z h=>cases h with|plain h=>cases l<;>cases e<;>simp [Am.plain] at h;exact ⟨rfl,rfl,rfl⟩
theorem VR.rZ {l e:Nat} {cs:List Value} {u:Value} (h:VR ρ Z (.iface l (.iface e (.tuple ⟨cs⟩))) u):
  (l=0∧cs=[]∧u= .slice none 0 0)∨ ∃b o bk ds,Z b=some bk∧u= .slice (some ⟨b,o,none⟩) l e∧cs.length=l*e∧o+l*e≤bk.cells.length∧ds=(bk.cells.drop o).take (l*e)∧nS Z cs ds:=by
 cases h with
 |z h=>
  cases h with
  |plain h=>simp [Am.plain] at h
  |fz h h1 h2 h3 h4 h5=>exact .inr ⟨_,_,_,_,h,rfl,h1,h3,h4,h2,h5⟩
  |fz0=>exact .inl ⟨rfl,rfl,rfl⟩
theorem VR.zJ {o:Nat} {cs:List Value} {u:Value} (h:VR ρ Z (.iface o (.tuple ⟨cs⟩)) u):
  ∃b p bk ds,Z b=some bk∧u= .pointer (some ⟨b,p+o,none⟩)∧p+cs.length≤bk.cells.length∧ds=(bk.cells.drop p).take cs.length∧nS Z cs ds:=by
 cases h with
 |z h=>
  cases h with
  |plain h=>simp [Am.plain] at h
  |fp h h1 h2 h3 h4=>exact ⟨_,_,_,_,h,rfl,h2,h3,h1,h4⟩
theorem VL.nil:VL ρ Z [] []:=⟨rfl,fun i c d h=>by simp at h⟩
theorem VL.cons {a b:Value} {as bs:List Value} (h:VR ρ Z a b) (hl:VL ρ Z as bs):VL ρ Z (a::as) (b::bs):=by
 refine ⟨by simp [hl.1],fun i c d h1 h2=>?_⟩
 cases i with
 |zero=>
  simp only [List.getElem?_cons_zero,Option.some.injEq] at h1 h2
  subst h1;subst h2
  exact h
 |succ i=>
  simp only [List.getElem?_cons_succ] at h1 h2
  exact hl.2 i c d h1 h2
theorem VL.iV {a:Value} {as bs:List Value} (h:VL ρ Z (a::as) bs): ∃b bs',bs=b::bs'∧VR ρ Z a b∧VL ρ Z as bs':=by
 cases bs with
 |nil=>have:=h.1;simp at this
 |cons b bs=>exact ⟨b,bs,rfl,h.2 0 a b rfl rfl,by have:=h.1;simpa using this,fun i c d h1 h2=>h.2 (i+1) c d (by simpa using h1) (by simpa using h2)⟩
theorem VL.jo {bs:List Value} (h:VL ρ Z [] bs):bs=[]:=List.eq_nil_of_length_eq_zero h.1.symm
theorem VL.at_ {cs ds:List Value} (h:VL ρ Z cs ds) {i:Nat} {c:Value} (hc:cs[i]? =some c): ∃d,ds[i]? =some d∧VR ρ Z c d:=by
 obtain ⟨hi,_⟩:=List.getElem?_eq_some_iff.1 hc
 have hd:ds[i]? =some (ds[i]'(by have:=h.1;omega)):=List.getElem?_eq_getElem _
 exact ⟨_,hd,h.2 i _ _ hc hd⟩
theorem VL.append {as bs cs ds:List Value} (h:VL ρ Z as bs) (k:VL ρ Z cs ds):VL ρ Z (as++cs) (bs++ds):=by
 refine ⟨by simp [h.1,k.1],fun i c d h1 h2=>?_⟩
 rcases Nat.lt_or_ge i as.length with hi|hi
 ·rw [List.getElem?_append_left hi] at h1
  rw [List.getElem?_append_left (by have:=h.1;omega)] at h2
  exact h.2 i c d h1 h2
 ·rw [List.getElem?_append_right hi] at h1
  rw [List.getElem?_append_right (by have:=h.1;omega),←h.1] at h2
  exact k.2 _ c d h1 h2
theorem VL.take {as bs:List Value} (h:VL ρ Z as bs) (n:Nat):VL ρ Z (as.take n) (bs.take n):=by
 refine ⟨by simp [h.1],fun i c d h1 h2=>?_⟩
 rw [List.getElem?_take] at h1 h2
 split at h1
 ·rename_i hi
  rw [if_pos hi] at h2
  exact h.2 i c d h1 h2
 ·simp at h1
theorem VL.drop {as bs:List Value} (h:VL ρ Z as bs) (n:Nat):VL ρ Z (as.drop n) (bs.drop n):=by
 refine ⟨by simp [h.1],fun i c d h1 h2=>?_⟩
 rw [List.getElem?_drop] at h1 h2
 exact h.2 _ c d h1 h2
theorem nS.take {as bs:List Value} (h:nS Z as bs) (n:Nat):nS Z (as.take n) (bs.take n):=by
 refine ⟨by simp [h.1],fun i c d h1 h2=>?_⟩
 rw [List.getElem?_take] at h1 h2
 split at h1
 ·rename_i hi
  rw [if_pos hi] at h2
  exact h.2 i c d h1 h2
 ·simp at h1
theorem nS.drop {as bs:List Value} (h:nS Z as bs) (n:Nat):nS Z (as.drop n) (bs.drop n):=by
 refine ⟨by simp [h.1],fun i c d h1 h2=>?_⟩
 rw [List.getElem?_drop] at h1 h2
 exact h.2 _ c d h1 h2
theorem VL.plain {cs:List Value} (h:cs.all Am.plain=true):VL ρ Z cs cs:=
 ⟨rfl,fun i c d h1 h2=>by rw [h1] at h2;cases h2;exact .z (.plain (List.all_eq_true.1 h c (List.mem_of_getElem? h1)))⟩
theorem VR.agg_inv {cs:Array Value} {u:Value} (h:VR ρ Z (.agg cs) u): ∃ds:Array Value,u= .agg ds∧VL ρ Z cs.toList ds.toList:=by
 cases h with
 |z h=>
  cases h with
  |plain h=>simp [Am.plain] at h
  |agg h h1=>exact ⟨_,rfl,h,fun i c d k1 k2=> .z (h1 i c d k1 k2)⟩
 |agg h h1=>exact ⟨_,rfl,h,h1⟩
theorem VR.tuple_inv {cs:Array Value} {u:Value} (h:VR ρ Z (.tuple cs) u): ∃ds:Array Value,u= .tuple ds∧VL ρ Z cs.toList ds.toList:=by
 cases h with
 |z h=>
  cases h with
  |plain h=>
   have h0:cs= #[]:=by simpa [Am.plain] using h
   subst h0
   exact ⟨_,rfl,rfl,fun i c d h1=>by simp at h1⟩
  |tuple h h1=>exact ⟨_,rfl,h,fun i c d k1 k2=> .z (h1 i c d k1 k2)⟩
 |tuple h h1=>exact ⟨_,rfl,h,h1⟩
theorem VR.Ig {m:Nat} {cs:Array Value} {u:Value} (h:VR ρ Z (.func (.func m) #[] cs) u): ∃ds:Array Value,u= .func (.func m) #[] ds∧VL ρ Z cs.toList ds.toList:=by
 cases h with
 |z h=>
  cases h with
  |plain h=>simp [Am.plain] at h
  |func h h1=>exact ⟨_,rfl,h,fun i c d k1 k2=> .z (h1 i c d k1 k2)⟩
 |func h h1=>exact ⟨_,rfl,h,h1⟩
end
def cells2:Value→Option (List Value)
 | .nilIface=>none
 | .agg cs=>some cs.toList
 |v=>some [v]
def nj:Value→Bool
 | .nilIface=>false
 | _=>true
def fJ:Value→Bool
 | .agg _| .tuple _| .nilIface=>false
 | _=>true
section
variable {ρ:Nat→Option Nat} {Z:Nat→Option Blk}
theorem VR.one {v u:Value} (h:VR ρ Z v u) (ho:fJ v=true):u.oneCell'=true:=by
 cases h with
 |z h=>
  cases h with
  |plain hp=>cases v<;>first|rfl|(simp [fJ] at ho;done)|(simp [Am.plain] at hp;done)
  | _=>first|rfl|(simp [fJ] at ho;done)
 |ptr _=>rfl
 |slice _=>rfl
 |agg _ _=>simp [fJ] at ho
 |tuple _ _=>simp [fJ] at ho
 |func _ _=>rfl
 |map _ _=>rfl
theorem VL.ones {cs ds:List Value} (h:VL ρ Z cs ds) (ho:cs.all fJ=true):ds.all (·.oneCell')=true:=by
 refine List.all_eq_true.2 fun d hd=>?_
 obtain ⟨i,hi,rfl⟩:=List.mem_iff_getElem.1 hd
 have hi':i<cs.length:=by have:=h.1;omega
 exact (h.2 i _ _ (List.getElem?_eq_getElem hi') (List.getElem?_eq_getElem hi)).one (List.all_eq_true.1 ho _ (List.getElem_mem hi'))
theorem VR.cells {v u:Value} {cs:List Value} (h:VR ρ Z v u) (hc:cells2 v=some cs):VL ρ Z cs (cellsL u):=by
 cases h with
 |z h=>
  cases h with
  |junk=>simp [cells2] at hc
  |plain h=>cases v<;>first|(simp [Am.plain] at h;done)|(simp only [cells2,Option.some.injEq] at hc;subst hc;exact VL.cons (.z (.plain h)) VL.nil)
  |fz h h1 h2 h3 h4 h5=>simp only [cells2,Option.some.injEq] at hc;subst hc;exact VL.cons (.z (.fz h h1 h2 h3 h4 h5)) VL.nil
  |fz0=>simp only [cells2,Option.some.injEq] at hc;subst hc;exact VL.cons (.z .fz0) VL.nil
  |fp h h1 h2 h3 h4=>simp only [cells2,Option.some.injEq] at hc;subst hc;exact VL.cons (.z (.fp h h1 h2 h3 h4)) VL.nil
  |agg h h1=>simp only [cells2,Option.some.injEq] at hc;subst hc;exact ⟨h,fun i c d k1 k2=> .z (h1 i c d k1 k2)⟩
  |tuple h h1=>simp only [cells2,Option.some.injEq] at hc;subst hc;exact VL.cons (.z (.tuple h h1)) VL.nil
  |func h h1=>simp only [cells2,Option.some.injEq] at hc;subst hc;exact VL.cons (.z (.func h h1)) VL.nil
 |ptr h=>simp only [cells2,Option.some.injEq] at hc;subst hc;exact VL.cons (.ptr h) VL.nil
 |slice h=>simp only [cells2,Option.some.injEq] at hc;subst hc;exact VL.cons (.slice h) VL.nil
 |map h h1=>simp only [cells2,Option.some.injEq] at hc;subst hc;exact VL.cons (.map h h1) VL.nil
 |agg h h1=>simp only [cells2,Option.some.injEq] at hc;subst hc;exact ⟨h,h1⟩
 |tuple h h1=>simp only [cells2,Option.some.injEq] at hc;subst hc;exact VL.cons (.tuple h h1) VL.nil
 |func h h1=>simp only [cells2,Option.some.injEq] at hc;subst hc;exact VL.cons (.func h h1) VL.nil
theorem ad6 {v:Value} (h:nj v=true):cells2 v=some (cellsL v):=by cases v<;>first|rfl|simp [nj] at h
end
structure Rel (ρ:Nat→Option Nat) (Z:Nat→Option Blk) (H:BH) (HA:AHeap):Prop where
 bH: ∀i cs,blk H i=some cs→ ∃b bk,ρ i=some b∧b<HA.n∧HA.get b=some bk∧bk.rw=true∧VL ρ Z cs bk.cells
 inj: ∀i j cs cs' b,blk H i=some cs→blk H j=some cs'→ρ i=some b→ρ j=some b→i=j
 eF: ∀i cs b,blk H i=some cs→ρ i=some b→Z b=none
 fH: ∀b bk,Z b=some bk→b<HA.n∧HA.get b=some bk
 top: ∀i,H.length≤i→ρ i=none
structure Frm (ρ:Nat→Option Nat) (Z:Nat→Option Blk) (H:BH) (HA:AHeap) (ρ':Nat→Option Nat) (Z':Nat→Option Blk) (H':BH) (HA':AHeap):Prop where
 n:HA.n≤HA'.n
 keep: ∀b,b<HA.n→(∀i cs,blk H i=some cs→ρ i≠some b)→HA'.get b=HA.get b
 own: ∀i cs b,blk H' i=some cs→ρ' i=some b→HA.n≤b∨ ∃j cs',blk H j=some cs'∧ρ j=some b
 zx: ∀b bk,Z b=some bk→Z' b=some bk
 zn: ∀b bk,Z' b=some bk→Z b=some bk∨HA.n≤b∨ ∃j cs',blk H j=some cs'∧ρ j=some b
theorem Frm.refl (ρ:Nat→Option Nat) (Z:Nat→Option Blk) (H:BH) (HA:AHeap):Frm ρ Z H HA ρ Z H HA:=
 ⟨Nat.le_refl _,fun _ _ _=>rfl,fun i cs b h1 h2=> .inr ⟨i,cs,h1,h2⟩,fun _ _ h=>h,fun _ _ h=> .inl h⟩
theorem Frm.trans {ρ bG nR:Nat→Option Nat} {Z Z1 Z2:Nat→Option Blk} {H H1 H2:BH} {HA HA1 HA2:AHeap} (h:Frm ρ Z H HA bG Z1 H1 HA1) (k:Frm bG Z1 H1 HA1 nR Z2 H2 HA2):Frm ρ Z H HA nR Z2 H2 HA2 where
 n:=Nat.le_trans h.n k.n
 keep:=fun b hb hn=>by
  rw [k.keep b (Nat.lt_of_lt_of_le hb h.n) fun i cs h1 h2=>?_,h.keep b hb hn]
  rcases h.own i cs b h1 h2 with h3|⟨j,cs',h3,h4⟩
  ·omega
  ·exact hn j cs' h3 h4
 own:=fun i cs b h1 h2=>by
  rcases k.own i cs b h1 h2 with h3|⟨j,cs',h3,h4⟩
  ·exact .inl (Nat.le_trans h.n h3)
  ·exact h.own j cs' b h3 h4
 zx:=fun b bk hb=>k.zx b bk (h.zx b bk hb)
 zn:=fun b bk hb=>by
  rcases k.zn b bk hb with h1|h1|⟨j,cs',h1,h2⟩
  ·exact h.zn b bk h1
  ·exact .inr (.inl (Nat.le_trans h.n h1))
  ·rcases h.own j cs' b h1 h2 with h3|h3
   ·exact .inr (.inl h3)
   ·exact .inr (.inr h3)
theorem DN {H:BH} {i:Nat} {cs:List Value} (h:blk H i=some cs):i<H.length:=by
 unfold blk at h
 by_cases hi:i<H.length
 ·exact hi
 ·rw [List.getElem?_eq_none (by omega)] at h;cases h
theorem l9 {H:BH} {i:Nat} {c:Option (List Value)}:blk (H++[c]) i=if i=H.length then c else blk H i:=by
 unfold blk
 rcases Nat.lt_trichotomy i H.length with h|h|h
 ·rw [List.getElem?_append_left h,if_neg (by omega)]
 ·subst h;simp
 ·rw [List.getElem?_eq_none (by simp;omega),if_neg (by omega),List.getElem?_eq_none (by omega)]
theorem uo {H:BH} {i j:Nat} {c:Option (List Value)} (hi:i<H.length):blk (H.set i c) j=if j=i then c else blk H j:=by
 unfold blk
 by_cases h:j=i
 ·subst h;simp [hi]
 ·rw [List.getElem?_set_ne (by omega),if_neg h]
def put (ρ:Nat→Option Nat) (i b:Nat):Nat→Option Nat:=fun j=>if j=i then some b else ρ j
section
variable {ρ:Nat→Option Nat} {Z:Nat→Option Blk} {H:BH} {HA:AHeap}
theorem zH (h:Rel ρ Z H HA) (n:Nat): ∀i b,ρ i=some b→put ρ H.length n i=some b:=fun i b hb=>by
 unfold put
 rw [if_neg (fun e=>by subst e;rw [h.top _ (Nat.le_refl _)] at hb;cases hb)]
 exact hb
theorem Rel.lt (h:Rel ρ Z H HA) {i:Nat} {cs:List Value} {b:Nat} (hi:blk H i=some cs) (hb:ρ i=some b):b<HA.n:=by
 obtain ⟨b',bk,h1,h2,_⟩:=h.bH i cs hi
 rw [hb] at h1;cases h1;exact h2
theorem Rel.alloc (h:Rel ρ Z H HA) {cs ds:List Value} (hv:VL ρ Z cs ds):
  Rel (put ρ H.length HA.n) Z (H++[some cs]) (HA.alloc ds)∧Frm ρ Z H HA (put ρ H.length HA.n) Z (H++[some cs]) (HA.alloc ds):=by
 have hx:=zH h HA.n
 have hold: ∀b,b<HA.n→(HA.alloc ds).get b=HA.get b:=fun b hb=>by simp only [AHeap.alloc];rw [if_neg (by omega)]
 refine ⟨⟨?_,?_,?_,?_,?_⟩,⟨Nat.le_succ _,fun b hb _=>hold b hb,?_,fun _ _ h=>h,fun _ _ h=> .inl h⟩⟩
 ·intro i c hc
  rw [l9] at hc
  by_cases e:i=H.length
  ·rw [if_pos e] at hc
   cases hc
   exact ⟨HA.n,⟨ds,true⟩,by simp [put,e],Nat.lt_succ_self _,by simp [AHeap.alloc],rfl,hv.mono hx fun _ _ h=>h⟩
  ·rw [if_neg e] at hc
   obtain ⟨b,bk,h1,h2,h3,h4,h5⟩:=h.bH i c hc
   exact ⟨b,bk,hx _ _ h1,Nat.lt_succ_of_lt h2,by rw [hold b h2];exact h3,h4,h5.mono hx fun _ _ h=>h⟩
 ·intro i j c c' b h1 h2 h3 h4
  rw [l9] at h1 h2
  simp only [put] at h3 h4
  by_cases e:i=H.length<;>by_cases e':j=H.length
  ·rw [e,e']
  ·rw [if_pos e] at h3;rw [if_neg e'] at h2 h4;cases h3
   have:=h.lt h2 h4;omega
  ·rw [if_pos e'] at h4;rw [if_neg e] at h1 h3;cases h4
   have:=h.lt h1 h3;omega
  ·rw [if_neg e] at h1 h3;rw [if_neg e'] at h2 h4
   exact h.inj i j c c' b h1 h2 h3 h4
 ·intro i c b h1 h2
  rw [l9] at h1
  simp only [put] at h2
  by_cases e:i=H.length
  ·rw [if_pos e] at h2;cases h2
   cases hz:Z HA.n with
   |none=>rfl
   |some bk=>have:=(h.fH _ _ hz).1;omega
  ·rw [if_neg e] at h1 h2
   exact h.eF i c b h1 h2
 ·intro b bk hb
  obtain ⟨h1,h2⟩:=h.fH b bk hb
  exact ⟨Nat.lt_succ_of_lt h1,by rw [hold b h1];exact h2⟩
 ·intro i hi
  simp only [List.length_append,List.length_singleton] at hi
  simp only [put]
  rw [if_neg (by omega)]
  exact h.top i (by omega)
 ·intro i c b h1 h2
  rw [l9] at h1
  simp only [put] at h2
  by_cases e:i=H.length
  ·rw [if_pos e] at h2;cases h2;exact .inl (Nat.le_refl _)
  ·rw [if_neg e] at h1 h2
   exact .inr ⟨i,c,h1,h2⟩
theorem Rel.set (h:Rel ρ Z H HA) {i b:Nat} {c0 cs ds:List Value} (hi:blk H i=some c0) (hb:ρ i=some b) (hv:VL ρ Z cs ds):
  Rel ρ Z (H.set i (some cs)) (HA.set b ds)∧Frm ρ Z H HA ρ Z (H.set i (some cs)) (HA.set b ds):=by
 have hil:=DN hi
 have hold: ∀x,x≠b→(HA.set b ds).get x=HA.get x:=fun x hx=>by simp [AHeap.set,hx]
 refine ⟨⟨?_,?_,?_,?_,?_⟩,⟨Nat.le_refl _,fun x hx hn=>hold x fun e=>hn i c0 hi (by rw [e];exact hb),?_,fun _ _ h=>h,fun _ _ h=> .inl h⟩⟩
 ·intro j c hc
  rw [uo hil] at hc
  by_cases e:j=i
  ·rw [if_pos e] at hc;cases hc
   exact ⟨b,⟨ds,true⟩,by rw [e];exact hb,h.lt hi hb,by simp [AHeap.set],rfl,hv⟩
  ·rw [if_neg e] at hc
   obtain ⟨x,bk,h1,h2,h3,h4,h5⟩:=h.bH j c hc
   refine ⟨x,bk,h1,h2,?_,h4,h5⟩
   rw [hold x fun e'=>e (h.inj j i c c0 b hc hi (by rw [←e'];exact h1) hb)]
   exact h3
 ·intro j k c c' x h1 h2 h3 h4
  rw [uo hil] at h1 h2
  have key: ∀j c,(if j=i then some cs else blk H j)=some c→ ∃c1,blk H j=some c1:=fun j c hc=>by
   by_cases e:j=i
   ·rw [e];exact ⟨c0,hi⟩
   ·rw [if_neg e] at hc;exact ⟨c,hc⟩
  obtain ⟨_,h1⟩:=key j c h1
  obtain ⟨_,h2⟩:=key k c' h2
  exact h.inj j k _ _ x h1 h2 h3 h4
 ·intro j c x h1 h2
  rw [uo hil] at h1
  by_cases e:j=i
  ·subst e;exact h.eF j c0 x hi h2
  ·rw [if_neg e] at h1;exact h.eF j c x h1 h2
 ·intro x bk hx
  obtain ⟨h1,h2⟩:=h.fH x bk hx
  refine ⟨h1,?_⟩
  rw [hold x fun e=>by subst e;rw [h.eF i c0 x hi hb] at hx;cases hx]
  exact h2
 ·intro j hj
  exact h.top j (by simpa using hj)
 ·intro j c x h1 h2
  rw [uo hil] at h1
  by_cases e:j=i
  ·subst e;exact .inr ⟨j,c0,hi,h2⟩
  ·rw [if_neg e] at h1;exact .inr ⟨j,c,h1,h2⟩
theorem Rel.drop (h:Rel ρ Z H HA) {i:Nat} {c0:List Value} (hi:blk H i=some c0):Rel ρ Z (H.set i none) HA∧Frm ρ Z H HA ρ Z (H.set i none) HA:=by
 have hil:=DN hi
 have key: ∀j c,blk (H.set i none) j=some c→blk H j=some c:=fun j c hc=>by
  rw [uo hil] at hc
  by_cases e:j=i
  ·rw [if_pos e] at hc;cases hc
  ·rw [if_neg e] at hc;exact hc
 exact ⟨⟨fun j c hc=>h.bH j c (key j c hc),fun j k c c' x h1 h2=>h.inj j k c c' x (key _ _ h1) (key _ _ h2),fun j c x h1=>h.eF j c x (key _ _ h1),h.fH,fun j hj=>h.top j (by simpa using hj)⟩,
  ⟨Nat.le_refl _,fun _ _ _=>rfl,fun j c b h1 h2=> .inr ⟨j,c,key _ _ h1,h2⟩,fun _ _ h=>h,fun _ _ h=> .inl h⟩⟩
theorem Rel.kill (h:Rel ρ Z H HA) {i b:Nat} {c0:List Value} (hi:blk H i=some c0) (hb:ρ i=some b):
  Rel ρ Z (H.set i none) (HA.kill b)∧Frm ρ Z H HA ρ Z (H.set i none) (HA.kill b):=by
 have hil:=DN hi
 have hold: ∀x,x≠b→(HA.kill b).get x=HA.get x:=fun x hx=>by simp [AHeap.kill,hx]
 have key: ∀j c,blk (H.set i none) j=some c→j≠i∧blk H j=some c:=fun j c hc=>by
  rw [uo hil] at hc
  by_cases e:j=i
  ·rw [if_pos e] at hc;cases hc
  ·rw [if_neg e] at hc;exact ⟨e,hc⟩
 refine ⟨⟨fun j c hc=>?_,fun j k c c' x h1 h2=>h.inj j k c c' x (key _ _ h1).2 (key _ _ h2).2,fun j c x h1=>h.eF j c x (key _ _ h1).2,fun x bk hx=>?_,fun j hj=>h.top j (by simpa using hj)⟩,
  ⟨Nat.le_refl _,fun x hx hn=>hold x fun e=>hn i c0 hi (by rw [e];exact hb),fun j c x h1 h2=> .inr ⟨j,c,(key _ _ h1).2,h2⟩,fun _ _ h=>h,fun _ _ h=> .inl h⟩⟩
 ·obtain ⟨e,hc⟩:=key j c hc
  obtain ⟨x,bk,h1,h2,h3,h4,h5⟩:=h.bH j c hc
  refine ⟨x,bk,h1,h2,?_,h4,h5⟩
  rw [hold x fun e'=>e (h.inj j i c c0 b hc hi (by rw [←e'];exact h1) hb)]
  exact h3
 ·obtain ⟨h1,h2⟩:=h.fH x bk hx
  refine ⟨h1,?_⟩
  rw [hold x fun e=>by subst e;rw [h.eF i c0 x hi hb] at hx;cases hx]
  exact h2
theorem Rel.freeze (h:Rel ρ Z H HA) {i b:Nat} {c0:List Value} {bk:Blk} (hi:blk H i=some c0) (hb:ρ i=some b) (hg:HA.get b=some bk):
  Rel ρ (fun x=>if x=b then some bk else Z x) (H.set i none) HA∧Frm ρ Z H HA ρ (fun x=>if x=b then some bk else Z x) (H.set i none) HA:=by
 have hil:=DN hi
 have key: ∀j c,blk (H.set i none) j=some c→j≠i∧blk H j=some c:=fun j c hc=>by
  rw [uo hil] at hc
  by_cases e:j=i
  ·rw [if_pos e] at hc;cases hc
  ·rw [if_neg e] at hc;exact ⟨e,hc⟩
 have hzx: ∀x k,Z x=some k→(if x=b then some bk else Z x)=some k:=fun x k hx=>by
  by_cases e:x=b
  ·subst e;rw [h.eF i c0 x hi hb] at hx;cases hx
  ·rw [if_neg e];exact hx
 refine ⟨⟨fun j c hc=>?_,fun j k c c' x h1 h2=>h.inj j k c c' x (key _ _ h1).2 (key _ _ h2).2,fun j c x h1 h2=>?_,fun x k hx=>?_,fun j hj=>h.top j (by simpa using hj)⟩,
  ⟨Nat.le_refl _,fun _ _ _=>rfl,fun j c x h1 h2=> .inr ⟨j,c,(key _ _ h1).2,h2⟩,hzx,fun x k hx=>?_⟩⟩
 ·obtain ⟨e,hc⟩:=key j c hc
  obtain ⟨x,k,h1,h2,h3,h4,h5⟩:=h.bH j c hc
  exact ⟨x,k,h1,h2,h3,h4,h5.mono (fun _ _ h=>h) hzx⟩
 ·obtain ⟨e,hc⟩:=key j c h1
  rw [if_neg fun e'=>e (h.inj j i c c0 b hc hi (by rw [←e'];exact h2) hb)]
  exact h.eF j c x hc h2
 ·by_cases e:x=b
  ·rw [if_pos e] at hx;cases hx;subst e
   exact ⟨h.lt hi hb,hg⟩
  ·rw [if_neg e] at hx;exact h.fH x k hx
 ·by_cases e:x=b
  ·subst e;exact .inr (.inr ⟨i,c0,hi,hb⟩)
  ·rw [if_neg e] at hx;exact .inl hx
end
end Go.Bm
