/-
  What the calls of a vault do, in plain numbers.
-/
import Derived.Test.YthmahbfmfpjjcaaGreatQG15
import Derived.Test.YthmahbfmfpjjcaaGreatQG60
import Derived.Shelf.SlSortCmp.Insertion
set_option linter.unusedVariables false
set_option linter.unusedSimpArgs false
namespace Go.Proofs.YthmahbfmfpjjcaaGreat
open Go.RowKit
open Jn Vn
def at_ (f:Items) (id:Int):Option (List Nat):=if 0≤id then f id.toNat else none
theorem X5 (g:Nat→Nat) (p:Nat→Bool):∀ l:List Nat,((l.filter p).map g).sum = (l.map fun k=>if p k then g k else 0).sum
 | []=>rfl
 | k :: l=>by
  have ih:=X5 g p l;rw [List.filter_cons,List.map_cons,List.sum_cons]
  cases hp:p k with
  | true=>rw [if_pos rfl,List.map_cons,List.sum_cons,ih,if_pos rfl]
  | false=>rw [if_neg (by decide),ih,if_neg (by decide),Nat.zero_add]
theorem ZbN (g h:Nat→Nat) (hgh:∀ k,g k≤h k):∀ l:List Nat,(l.map g).sum≤(l.map h).sum
 | []=>Nat.le_refl _
 | k :: l=>by
  have:=ZbN g h hgh l;have:=hgh k;simp only [List.map_cons,List.sum_cons];omega
theorem Zgw {f g:Items} (h:∀ k,f k = g k ∨ f k = none):wt f≤wt g:=by
 unfold wt dom;rw [X5,X5];refine ZbN _ _ (fun k=>?_) _;rcases h k with e | e
 ·rw [e];exact Nat.le_refl _
 ·rw [e];simp
theorem Zgx (f:Items) (id:Nat):wt (set1 f (id,none))≤wt f:=Zgw fun k=>by
 unfold set1;by_cases e:k = id
 ·exact .inr (by simp [e])
 ·exact .inl (by simp [e])
def vChange (Z:Nat) (s:VSt) (r:Rec):VSt × Nat :=
 if s.act = true∧4096 < Vn.need (s.l ++ [r]) then (s,11)
 else if r.2.isSome = true∧Z / 2 < wt (sets s.f (s.l ++ [r])) then (s,10)
 else if s.act = true then ({ s with l:=s.l ++ [r] },0) else ({ s with f:=sets s.f (s.l ++ [r]) },0)
def vPut (Z:Nat) (s:VSt) (id:Int) (d:List Nat):VSt × Nat:=if validB id d.length = true then vChange Z s (id.toNat,some d) else (s,1)
def vBegin (s:VSt):VSt × Nat:=if s.act = true then (s,14) else ({ s with act:=true,l:=[] },0)
def vCommit (Z:Nat) (s:VSt):VSt × Nat:=if s.act = true then (if Z / 2 < wt (sets s.f s.l) then (s,10) else ({ f:=sets s.f s.l,act:=false,l:=[] },0)) else (s,14)
def vAbort (s:VSt):VSt × Nat:=if s.act = true then ({ s with act:=false,l:=[] },0) else (s,14)
theorem Zgy {id:Int} {d:List Nat} (h:validB id d.length = true) (hb:Bytes d):ROk (id.toNat,some d)∧((id.toNat:Nat):Int) = id:=by
 unfold validB at h;simp only [Bool.and_eq_true,decide_eq_true_eq] at h;exact ⟨⟨by show 1≤id.toNat;omega,by show id.toNat≤4096;omega,h.2,hb⟩,by omega⟩
def vDel (Z:Nat) (s:VSt) (id:Int):VSt × Nat:=if validB id 0 = true then (if (at_ (sets s.f s.l) id).isSome = true then vChange Z s (id.toNat,none) else (s,12)) else (s,1)
theorem Zgz {id:Int} (h:validB id 0 = true):ROk (id.toNat,none)∧((id.toNat:Nat):Int) = id∧1≤id∧id≤4096:=by
 unfold validB at h;simp only [Bool.and_eq_true,decide_eq_true_eq] at h;exact ⟨⟨by show 1≤id.toNat;omega,by show id.toNat≤4096;omega,Nat.zero_le _,bytes_nil⟩,by omega,h.1.1,h.1.2⟩
end Go.Proofs.YthmahbfmfpjjcaaGreat
/-
 The PINs, in plain numbers: definitions as items of a vault, and what the calls do.
-/
namespace Go.Proofs.YthmahbfmfpjjcaaGreat
namespace Vn
open Jn
def view (s:VSt):Items:=sets s.f s.l
end Vn
end Go.Proofs.YthmahbfmfpjjcaaGreat
/-
 The PINs, in plain numbers: where the vault has nothing but PINs, there is room for all changes.
-/
namespace Go.Proofs.YthmahbfmfpjjcaaGreat
namespace Vn
open Jn
end Vn
end Go.Proofs.YthmahbfmfpjjcaaGreat
/-
 The PINs, in plain numbers: what each call leaves where the vault has nothing but PINs.
-/
namespace Go.Proofs.YthmahbfmfpjjcaaGreat
namespace Vn
open Jn
def two (ub:Bool) (o n:Nat):List Nat:=if ub = true then [o,n] else [n,o]
end Vn
end Go.Proofs.YthmahbfmfpjjcaaGreat
/-
 The PINs, in plain numbers: what a guess leaves.
-/
namespace Go.Proofs.YthmahbfmfpjjcaaGreat
namespace Vn
open Jn
end Vn
end Go.Proofs.YthmahbfmfpjjcaaGreat
namespace Go.Proofs.YthmahbfmfpjjcaaGreat
open Go.RowKit
open Jn Vn
namespace Rg
theorem X6 {G:Nat→Option En} (h:∀ k e,G k = some e→k < 32) {k:Nat} (hk:k < 32) (o:Option En):∀ j e,upd G k o j = some e→j < 32:=fun j e hj=>by
 unfold upd at hj
 split at hj
 ·omega
 ·exact h j e hj
theorem SRel.nil:SRel (fun _=>none) []:=⟨.nil,by unfold ents;rw [List.filterMap_eq_nil_iff.2 (fun _ _=>rfl)],fun _ _ h=>by cases h⟩
theorem ZbO {l:List En} {e:En} (h0:(rAdd l e).2 = 0):(rAdd l e).1 = ins e l∧l.length < 32:=by
 unfold rAdd at h0 ⊢;by_cases c0:l.any (isAid e.aid) = true
 ·rw [if_pos c0] at h0;cases h0
 rw [if_neg c0] at h0 ⊢;by_cases c1:isIss e = false∧l.any (isDom e.dom) = false
 ·rw [if_pos c1] at h0;cases h0
 rw [if_neg c1] at h0 ⊢;by_cases c2:isIss e = true∧0 < l.length
 ·rw [if_pos c2] at h0;cases h0
 rw [if_neg c2] at h0 ⊢;by_cases c3:e.kind = 2∧l.any (isPak e.pk) = false
 ·rw [if_pos c3] at h0;cases h0
 rw [if_neg c3] at h0 ⊢;by_cases c4:e.kind = 3∧l.any (isPak e.pk) = true
 ·rw [if_pos c4] at h0;cases h0
 rw [if_neg c4] at h0 ⊢;by_cases c5:isImp e = true∧l.any isImp = true
 ·rw [if_pos c5] at h0;cases h0
 rw [if_neg c5] at h0 ⊢;by_cases c6:32≤l.length
 ·rw [if_pos c6] at h0;cases h0
 rw [if_neg c6] at h0 ⊢;exact ⟨rfl,by omega⟩
theorem SRel.add {G:Nat→Option En} {l:List En} (h:SRel G l) {e:En} (he:EOk e) (h0:(rAdd l e).2 = 0) {k:Nat} (hk:k < 32) (hg:G k = none):SRel (upd G k (some e)) (rAdd l e).1:=by
 have hi:=ZaQ h.inv he;have e1:=(ZbO h0).1;rw [e1] at hi ⊢;exact ⟨hi,((Za2 hk hg e).trans (h.perm.cons e)).trans (XD e l).symm,X6 h.lt hk _⟩
theorem SRel.others {G:Nat→Option En} {l:List En} (h:SRel G l) {e:En} {r:List En} (hp:(ents G).Perm (e :: r)):∀ x ∈ r,x.aid ≠ e.aid:=fun x hx ea=>by
 have hl:l.Perm (e :: r):=h.perm.symm.trans hp;have hnd:(e :: r).Nodup:=(hl.nodup_iff).1 (h.inv.srt.imp fun {x y} hxy e=>by rw [e,ZS] at hxy;cases hxy);have:=ZG h.inv.srt (hl.mem_iff.2 (List.mem_cons_of_mem _ hx)) (hl.mem_iff.2 (List.mem_cons_self ..)) ea;subst this;rw [List.nodup_cons] at hnd;exact hnd.1 hx
theorem SRel.remove {G:Nat→Option En} {l:List En} (h:SRel G l) {e:En} {k:Nat} (hg:G k = some e) (hi:RInv (l.filter fun x=>!isAid e.aid x)):SRel (upd G k none) (l.filter fun x=>!isAid e.aid x):=by
 have hk:=h.lt k e hg;have hp:=Ze9 hk hg;have ho:=h.others hp
 have h1:((e :: ents (upd G k none)).filter fun x=>!isAid e.aid x) = ents (upd G k none):=by
  rw [List.filter_cons_of_neg (by unfold isAid;simp)]
  exact List.filter_eq_self.2 fun x hx=>by
   have:=ho x hx;unfold isAid;simp [this]
 refine ⟨hi,?_,X6 h.lt hk _⟩;have h2:=(h.perm.symm.trans hp).filter (fun x=>!isAid e.aid x);rw [h1] at h2;exact h2.symm
theorem SRel.repl {G:Nat→Option En} {l:List En} (h:SRel G l) {e e':En} {k:Nat} (hg:G k = some e) (ea:e'.aid = e.aid) (hi:RInv (repl l e')):SRel (upd G k (some e')) (repl l e'):=by
 have hk:=h.lt k e hg;obtain ⟨r,hp,hp2⟩:=Zfa hk hg e';have ho:=h.others hp;refine ⟨hi,hp2.trans ?_,X6 h.lt hk _⟩;have h2:=(h.perm.symm.trans hp).map (fun x:En=>if x.aid = e'.aid then e' else x)
 have h1:(e :: r).map (fun x:En=>if x.aid = e'.aid then e' else x) = e' :: r:=by
  rw [List.map_cons,if_pos ea.symm]
  congr 1
  refine (List.map_congr_left fun x hx=>?_).trans (List.map_id r);rw [if_neg (by rw [ea];exact ho x hx)]
  rfl
 rw [h1] at h2;exact h2.symm
structure IRel (F:Items) (G:Nat→Option En):Prop where
 at_:∀ k,k < 32→F (192 + k) = (G k).map enB
 no:∀ n,(n < 192 ∨ 224≤n)→F n = none
theorem IRel.set {F:Items} {G:Nat→Option En} (h:IRel F G) {k:Nat} (hk:k < 32) (o:Option En):IRel (set1 F (192 + k,o.map enB)) (upd G k o):=by
 refine ⟨fun j hj=>?_,fun n hn=>?_⟩
 ·unfold set1 upd;dsimp only;by_cases e:j = k
  ·subst e;simp
  ·rw [if_neg (by omega),if_neg e];exact h.at_ j hj
 ·unfold set1;dsimp only;rw [if_neg (by omega)];exact h.no n hn
theorem IRel.get {F:Items} {G:Nat→Option En} (h:IRel F G) {k:Nat} (hk:k < 32):(F (192 + k)).map unE = G k:=by
 rw [h.at_ k hk]
 cases G k with
 | none=>rfl
 | some e=>simp [Xy]
end Rg
end Go.Proofs.YthmahbfmfpjjcaaGreat
/-
 What the calls of a vault do, in plain numbers, where all items lie in a range of numbers and are short: they never lack room.
-/
namespace Go.Proofs.YthmahbfmfpjjcaaGreat
open Go.RowKit
open Jn Vn
namespace Rg
structure InR (lo n c:Nat) (r:Rec):Prop where
 ge:lo≤r.1
 hi:r.1 < lo + n
 sh:(r.2.getD []).length≤c
def XF (lo n c:Nat) (F:Items):Prop:=∀ k b,F k = some b→lo≤k∧k < lo + n∧b.length≤c
structure XB (lo n c Z:Nat):Prop where
 l1:1≤lo
 h4:lo + n≤4097
 c2:c≤2048
 wt:n * (16 + c)≤Z / 2
 nd:n * (8 + c)≤4096
section
variable {lo n c Z : Nat} {F : Items} {s : VSt} {r : Rec}
theorem XF.none:XF lo n c none_:=fun _ _ h=>by cases h
theorem XF.set (h:XF lo n c F) (hr:InR lo n c r):XF lo n c (set1 F r):=fun k b hk=>by
 unfold set1 at hk
 split at hk
 ·rename_i e
  subst e;have:=hr.sh;rw [hk] at this;exact ⟨hr.ge,hr.hi,this⟩
 ·exact h k b hk
theorem XF.sets:∀ (l:List Rec) {F:Items},XF lo n c F→(∀ r ∈ l,InR lo n c r)→XF lo n c (sets F l)
 | [],_,h,_=>h
 | r :: l,_,h,hl=>XF.sets l (h.set (hl r (List.mem_cons_self ..))) fun x hx=>hl x (List.mem_cons_of_mem _ hx)
theorem nodup_range {ss:List Nat} (hn:ss.Nodup) (h:∀ k ∈ ss,lo≤k∧k < lo + n):ss.length≤n:=by
 have h1:=hn.length_le_of_subset (l₂:=(List.range n).map (lo + ·)) fun x hx=>by
  have:=h x hx;exact List.mem_map.2 ⟨x - lo,List.mem_range.2 (by omega),by omega⟩
 simpa using h1
theorem ZbP (g:Nat→Nat) (c:Nat):∀ ks:List Nat,(∀ k ∈ ks,g k≤c)→(ks.map g).sum≤ks.length * c
 | [],_=>Nat.zero_le _
 | k :: ks,h=>by
  have h1:=h k (List.mem_cons_self ..);have h2:=ZbP g c ks fun x hx=>h x (List.mem_cons_of_mem _ hx);rw [List.map_cons,List.sum_cons,List.length_cons,Nat.succ_mul];omega
theorem XF.wt (h:XF lo n c F):wt F≤n * (16 + c):=by
 have h1:∀ k ∈ dom F,16 + ((F k).getD []).length≤16 + c:=fun k hk=>by
  obtain ⟨b,hb⟩:=Option.isSome_iff_exists.1 (Zq.1 hk).2;have:=(h k b hb).2.2;rw [hb]
  show 16 + b.length≤_
  omega
 have h2:=nodup_range (lo:=lo) (n:=n) (YN F) fun k hk=>by
  obtain ⟨b,hb⟩:=Option.isSome_iff_exists.1 (Zq.1 hk).2;have:=h k b hb;exact ⟨this.1,this.2.1⟩
 have h3:=ZbP (fun k=>16 + ((F k).getD []).length) (16 + c) (dom F) h1;have h4:Vn.wt F = ((dom F).map fun k=>16 + ((F k).getD []).length).sum:=rfl;rw [h4];exact Nat.le_trans h3 (Nat.mul_le_mul_right _ h2)
theorem ZgA {l:List Rec} (h:∀ r ∈ l,InR lo n c r):need l≤n * (8 + c):=by
 have h2:=nodup_range (lo:=lo) (n:=n) (YN (lastOf l)) fun k hk=>by
  obtain ⟨r,hr⟩:=Option.isSome_iff_exists.1 (Zq.1 hk).2;obtain ⟨e,hm⟩:=YL hr;have:=h r hm;have h1:=this.ge;have h2:=this.hi;omega
 have h3:∀ l':List Rec,(∀ r ∈ l',(r.2.getD []).length≤c)→(l'.map fun r=>8 + (r.2.getD []).length).sum≤l'.length * (8 + c):=by
  intro l'
  induction l' with
  | nil=>intro _;exact Nat.zero_le _
  | cons r l' ih =>
   intro hl;have a:=hl r (List.mem_cons_self ..);have b:=ih fun x hx=>hl x (List.mem_cons_of_mem _ hx);rw [List.map_cons,List.sum_cons,List.length_cons,Nat.succ_mul];omega
 have h4:=h3 (recsOf (lastOf l)) fun r hr=>by
  obtain ⟨k,_,hk⟩:=List.mem_filterMap.1 hr;exact (h r (YL hk).2).sh
 have h5:(recsOf (lastOf l)).length≤(dom (lastOf l)).length:=List.length_filterMap_le _ _;unfold need;exact Nat.le_trans h4 (Nat.mul_le_mul_right _ (Nat.le_trans h5 h2))
end
structure XS (lo n c:Nat) (s:VSt):Prop where
 f:XF lo n c s.f
 l:∀ r ∈ s.l,InR lo n c r
 idle:s.act = false→s.l = []
def xApp (s:VSt) (r:Rec):VSt:=if s.act = true then { s with l:=s.l ++ [r] } else { s with f:=set1 s.f r }
section
variable {lo n c Z : Nat} {F : Items} {s : VSt} {r : Rec}
theorem XS.view (h:XS lo n c s):XF lo n c (view s):=XF.sets _ h.f h.l
theorem XS.app (h:XS lo n c s) (hr:InR lo n c r):XS lo n c (xApp s r):=by
 unfold xApp
 split
 ·rename_i ha
  refine ⟨h.f,fun x hx=>?_,fun e=>?_⟩
  ·rcases List.mem_append.1 hx with hx | hx
   ·exact h.l x hx
   ·rw [List.mem_singleton.1 hx];exact hr
  ·have e:s.act = false:=e;rw [ha] at e;cases e
 ·exact ⟨h.f.set hr,h.l,h.idle⟩
theorem ZgB (h:XS lo n c s) (r:Rec):view (xApp s r) = set1 (view s) r:=by
 unfold xApp view
 split
 ·exact Yk _ _ _
 ·rename_i ha
  have hl:s.l = []:=h.idle (by simpa using ha)
  show sets (set1 s.f r) s.l = set1 (sets s.f s.l) r
  rw [hl];rfl
theorem ZbQ (h:XS lo n c s) (hr:InR lo n c r) (hB:XB lo n c Z):vChange Z s r = (xApp s r,0):=by
 have hl:∀ x ∈ s.l ++ [r],InR lo n c x:=fun x hx=>by
  rcases List.mem_append.1 hx with hx | hx
  ·exact h.l x hx
  ·rw [List.mem_singleton.1 hx];exact hr
 have h1:=ZgA hl;have h2:=(XF.sets _ h.f hl).wt;have h3:=hB.wt;have h4:=hB.nd;unfold vChange xApp;rw [if_neg (by omega),if_neg (by omega)]
 split
 ·rfl
 ·rename_i ha
  have hl:s.l = []:=h.idle (by simpa using ha);rw [hl];rfl
theorem ZbR {k:Nat} {b:List Nat} (h:XS lo n c s) (hr:InR lo n c (k,some b)) (hB:XB lo n c Z):vPut Z s (k:Nat) b = (xApp s (k,some b),0):=by
 have h1:lo≤k:=hr.ge;have h2:k < lo + n:=hr.hi;have h3:b.length≤c:=hr.sh;have l1:=hB.l1;have h4:=hB.h4;have c2:=hB.c2
 have hv:validB (k:Int) b.length = true:=by
  unfold validB;simp only [Bool.and_eq_true,decide_eq_true_eq];omega
 unfold vPut;rw [if_pos hv,Int.toNat_natCast];exact ZbQ h hr hB
theorem ZgC {k:Nat} (h:XS lo n c s) (h1:lo≤k) (h2:k < lo + n) (hs:(view s k).isSome = true) (hB:XB lo n c Z):vDel Z s (k:Nat) = (xApp s (k,none),0):=by
 have l1:=hB.l1;have h4:=hB.h4
 have hv:validB (k:Int) 0 = true:=by
  unfold validB;simp only [Bool.and_eq_true,decide_eq_true_eq];omega
 have ha:(at_ (sets s.f s.l) (k:Int)).isSome = true:=by
  unfold at_;rw [if_pos (by omega),Int.toNat_natCast];exact hs
 unfold vDel;rw [if_pos hv,if_pos ha,Int.toNat_natCast];exact ZbQ h ⟨h1,h2,Nat.zero_le _⟩ hB
def xIdle (f:Items):VSt:={ f:=f,act:=false,l:=[] }
theorem XS.idle0 (h:XF lo n c F):XS lo n c (xIdle F):=⟨h,fun _ h=>by simp [xIdle] at h,fun _=>rfl⟩
theorem ZgD (h:XS lo n c s) (hB:XB lo n c Z):vCommit Z s = if s.act = true then (xIdle (view s),0) else (s,14):=by
 have h2:=h.view.wt;have h3:=hB.wt;unfold vCommit
 split
 ·rw [if_neg (by show ¬ Z / 2 < wt (view s);omega)];rfl
 ·rfl
theorem ZgE:vAbort s = if s.act = true then (xIdle s.f,0) else (s,14):=rfl
theorem ZgF:vBegin s = if s.act = true then (s,14) else ({ s with act:=true,l:=[] },0):=rfl
theorem XS.begin (h:XS lo n c s):XS lo n c { s with act:=true,l:=[] }:=⟨h.f,fun _ h=>by simp at h,fun _=>rfl⟩
end
end Rg
end Go.Proofs.YthmahbfmfpjjcaaGreat
/-
 The registry, in plain numbers: the vault's state and the two lists that belong to it.
-/
namespace Go.Proofs.YthmahbfmfpjjcaaGreat
open Go.RowKit
open Jn Vn
namespace Rg
structure RP (s:VSt) (l f:List En):Prop where
 x:XS 192 32 40 s
 v:∃ G,IRel (view s) G∧SRel G l
 p:∃ G,IRel s.f G∧SRel G f
 same:s.act = false→f = l
theorem ZbS:IRel none_ (fun _=>none):=⟨fun _ _=>rfl,fun _ _=>rfl⟩
theorem RP.first:RP (xIdle none_) [] []:=⟨.idle0 .none,⟨_,ZbS,.nil⟩,⟨_,ZbS,.nil⟩,fun _=>rfl⟩
theorem RP.change {s:VSt} {l f l':List En} (h:RP s l f) {k:Nat} (hk:k < 32) (o:Option En) (ho:∀ e,o = some e→EOk e) (hr:∀ G,IRel (view s) G→SRel G l→SRel (upd G k o) l') :
  RP (xApp s (192 + k,o.map enB)) l' (if s.act = true then f else l'):=by
 have hin:InR 192 32 40 (192 + k,o.map enB):=⟨by show 192≤192 + k;omega,by show 192 + k < 192 + 32;omega,by
  cases o with
  | none=>exact Nat.zero_le _
  | some e=>exact (ho e rfl).len⟩
 obtain ⟨G,h1,h2⟩:=h.v;have hv:=ZgB h.x (192 + k,o.map enB);have hG:IRel (view (xApp s (192 + k,o.map enB))) (upd G k o)∧SRel (upd G k o) l':=⟨by rw [hv];exact h1.set hk o,hr G h1 h2⟩;refine ⟨h.x.app hin,⟨_,hG⟩,?_,fun ha=>?_⟩
 ·by_cases ha:s.act = true
  ·rw [if_pos ha];have e:(xApp s (192 + k,o.map enB)).f = s.f:=by unfold xApp;rw [if_pos ha]
   rw [e];exact h.p
  ·rw [if_neg ha]
   have e:(xApp s (192 + k,o.map enB)).f = view (xApp s (192 + k,o.map enB)):=by
    rw [hv];unfold xApp;rw [if_neg ha];have hl:s.l = []:=h.x.idle (by simpa using ha)
    show set1 s.f _ = set1 (sets s.f s.l) _
    rw [hl];rfl
   rw [e];exact ⟨_,hG⟩
 ·have e:(xApp s (192 + k,o.map enB)).act = s.act:=by unfold xApp;split <;> rfl
  rw [e] at ha;rw [if_neg (by rw [ha];decide)]
theorem RP.add {s:VSt} {l f:List En} (h:RP s l f) {e:En} (he:EOk e) (h0:(rAdd l e).2 = 0) {k:Nat} (hk:k < 32) (hn:view s (192 + k) = none) :
  RP (xApp s (192 + k,some (enB e))) (rAdd l e).1 (if s.act = true then f else (rAdd l e).1) :=
 h.change hk (some e) (fun _ q=>by cases q;exact he) fun G h1 h2=>by
  refine h2.add he h0 hk ?_;have:=h1.at_ k hk;rw [hn] at this
  cases hg:G k with
  | none=>rfl
  | some e=>rw [hg] at this;cases this
theorem RP.remove {s:VSt} {l f:List En} (h:RP s l f) {a:List Nat} {e:En} (hf:rFind l a = some e) (h0:(rRemove l a).2 = 0) {k:Nat} (hk:k < 32) (hn:view s (192 + k) = some (enB e)) :
  RP (xApp s (192 + k,none)) (rRemove l a).1 (if s.act = true then f else (rRemove l a).1):=by
 have hi:=fun hl=>ZaT (l:=l) hl a;obtain ⟨-,ha⟩:=Yh hf
 have e1:(rRemove l a).1 = l.filter fun x=>!isAid e.aid x:=by
  unfold rRemove at h0 ⊢;rw [hf] at h0 ⊢;dsimp only at h0 ⊢;by_cases c1:isIss e = true
  ·rw [if_pos c1] at h0;cases h0
  rw [if_neg c1] at h0 ⊢;by_cases c2:l.any (dep e) = true
  ·rw [if_pos c2] at h0;cases h0
  rw [if_neg c2,ha]
 rw [e1] at hi ⊢;refine h.change hk none (fun _ q=>by cases q) fun G h1 h2=>h2.remove ?_ (hi h2.inv);have:=h1.get hk;rw [hn] at this;rw [← this];simp [Xy]
theorem RP.repl {s:VSt} {l f:List En} (h:RP s l f) {e e':En} (he:EOk e') (ea:e'.aid = e.aid) (hi:RInv (repl l e')) {k:Nat} (hk:k < 32) (hn:view s (192 + k) = some (enB e)) :
  RP (xApp s (192 + k,some (enB e'))) (repl l e') (if s.act = true then f else repl l e'):=by
 refine h.change hk (some e') (fun _ q=>by cases q;exact he) fun G h1 h2=>h2.repl ?_ ea hi;have:=h1.get hk;rw [hn] at this;rw [← this];simp [Xy]
theorem RP.begin {s:VSt} {l f:List En} (h:RP s l f) (ha:s.act = false):RP { s with act:=true,l:=[] } l l:=by
 have e:=h.same ha;have hl:=h.x.idle ha
 have hv:view { s with act:=true,l:=[] } = view s:=by
  show sets s.f [] = sets s.f s.l
  rw [hl]
 have hf:s.f = view s:=by
  show s.f = sets s.f s.l
  rw [hl];rfl
 exact ⟨h.x.begin,by rw [hv];exact h.v,by show ∃ G,IRel s.f G∧SRel G l;rw [hf];exact h.v,fun q=>by cases q⟩
theorem RP.commit {s:VSt} {l f:List En} (h:RP s l f):RP (xIdle (view s)) l l:=⟨.idle0 h.x.view,h.v,h.v,fun _=>rfl⟩
theorem RP.abort {s:VSt} {l f:List En} (h:RP s l f):RP (xIdle s.f) f f:=⟨.idle0 h.x.f,h.p,h.p,fun _=>rfl⟩
theorem RP.free {s:VSt} {l f:List En} (h:RP s l f) (hl:l.length < 32):∃ k,k < 32∧view s (192 + k) = none∧∀ j,j < k→(view s (192 + j)).isSome = true:=by
 obtain ⟨G,h1,h2⟩:=h.v;obtain ⟨k,hk,hn,hj⟩:=Zfb (G:=G) (by rw [h2.perm.length_eq];exact hl);refine ⟨k,hk,by rw [h1.at_ k hk,hn];rfl,fun j hjk=>?_⟩;rw [h1.at_ j (by omega),Option.isSome_map];exact hj j hjk
end Rg
end Go.Proofs.YthmahbfmfpjjcaaGreat
/-
 The registry, in plain numbers: the model of the law, with its transaction, and the vault's state beside it.
-/
namespace Go.Proofs.YthmahbfmfpjjcaaGreat
open Go.RowKit
open Jn Vn
namespace Rg
structure Md where
 now:List En
 was:List En
 act:Bool
def Md.old (m:Md):List En:=if m.act = true then m.was else m.now
structure MP (s:VSt) (m:Md):Prop where
 rp:RP s m.now m.old
 act:s.act = m.act
def mFirst:Md:=⟨[],[],false⟩
theorem MP.first:MP (xIdle none_) mFirst:=⟨RP.first,rfl⟩
theorem MP.inv {s:VSt} {m:Md} (h:MP s m):RInv m.now:=by obtain ⟨G,-,h2⟩:=h.rp.v;exact h2.inv
theorem MP.set {s:VSt} {m:Md} (h:MP s m) {r:Rec} {l':List En} (hr:RP (xApp s r) l' (if s.act = true then m.old else l')):MP (xApp s r) { m with now:=l' }:=by
 have e:(xApp s r).act = s.act:=by unfold xApp;split <;> rfl
 refine ⟨?_,by rw [e];exact h.act⟩
 have ho:(if s.act = true then m.old else l') = ({ m with now:=l' }:Md).old:=by
  rw [h.act];unfold Md.old;dsimp only;by_cases ha:m.act = true
  ·rw [if_pos ha,if_pos ha,if_pos ha]
  ·rw [if_neg ha,if_neg ha]
 rw [← ho];exact hr
theorem MP.add {s:VSt} {m:Md} (h:MP s m) {e:En} (he:EOk e) (h0:(rAdd m.now e).2 = 0) {Z:Nat} (hB:XB 192 32 40 Z) :
  ∃ k,k < 32∧view s (192 + k) = none∧(∀ j,j < k→(view s (192 + j)).isSome = true)∧vPut Z s ((192 + k:Nat):Nat) (enB e) = (xApp s (192 + k,some (enB e)),0) ∧
   MP (xApp s (192 + k,some (enB e))) { m with now:=(rAdd m.now e).1 }:=by
 obtain ⟨k,hk,hn,hj⟩:=h.rp.free (ZbO h0).2;refine ⟨k,hk,hn,hj,ZbR h.rp.x ⟨by show 192≤192 + k;omega,by show 192 + k < 192 + 32;omega,he.len⟩ hB,h.set (h.rp.add he h0 hk hn)⟩
theorem MP.remove {s:VSt} {m:Md} (h:MP s m) {a:List Nat} {e:En} (hf:rFind m.now a = some e) (h0:(rRemove m.now a).2 = 0) {k:Nat} (hk:k < 32) (hn:view s (192 + k) = some (enB e)) {Z:Nat} (hB:XB 192 32 40 Z) :
  vDel Z s ((192 + k:Nat):Nat) = (xApp s (192 + k,none),0)∧MP (xApp s (192 + k,none)) { m with now:=(rRemove m.now a).1 } :=
 ⟨ZgC h.rp.x (by omega) (by omega) (by rw [hn];rfl) hB,h.set (h.rp.remove hf h0 hk hn)⟩
theorem MP.change {s:VSt} {m:Md} (h:MP s m) {a:List Nat} {e:En} (hf:rFind m.now a = some e) {f:En→En × Nat} (h0:(f e).2 = 0) (ea:(f e).1.aid = e.aid) (hi:RInv (rChange m.now a f).1) {k:Nat} (hk:k < 32) (hn:view s (192 + k) = some (enB e)) {Z:Nat} (hB:XB 192 32 40 Z) :
  vPut Z s ((192 + k:Nat):Nat) (enB (f e).1) = (xApp s (192 + k,some (enB (f e).1)),0)∧MP (xApp s (192 + k,some (enB (f e).1))) { m with now:=(rChange m.now a f).1 }:=by
 obtain ⟨he,ha⟩:=Yh hf
 have e1:(rChange m.now a f).1 = repl m.now (f e).1:=by
  unfold rChange;rw [hf];dsimp only;rw [if_pos h0]
 rw [e1] at hi ⊢;have hok:EOk (f e).1:=hi.ok _ (Za6 ⟨e,he,ea.symm⟩);exact ⟨ZbR h.rp.x ⟨by show 192≤192 + k;omega,by show 192 + k < 192 + 32;omega,hok.len⟩ hB,h.set (h.rp.repl hok ea hi hk hn)⟩
def mBegin (m:Md):Md × Nat:=if m.act = true then (m,14) else ({ m with was:=m.now,act:=true },0)
def mCommit (m:Md):Md × Nat:=if m.act = true then ({ m with act:=false },0) else (m,14)
def mAbort (m:Md):Md × Nat:=if m.act = true then ({ m with now:=m.was,act:=false },0) else (m,14)
theorem MP.begin {s:VSt} {m:Md} (h:MP s m):(vBegin s).2 = (mBegin m).2∧MP (vBegin s).1 (mBegin m).1:=by
 rw [ZgF];unfold mBegin;rw [h.act];by_cases ha:m.act = true
 ·rw [if_pos ha,if_pos ha];exact ⟨rfl,h⟩
 ·rw [if_neg ha,if_neg ha];have hs:s.act = false:=by rw [h.act];simpa using ha
  exact ⟨rfl,h.rp.begin hs,rfl⟩
theorem MP.commit {s:VSt} {m:Md} (h:MP s m) {Z:Nat} (hB:XB 192 32 40 Z):(vCommit Z s).2 = (mCommit m).2∧MP (vCommit Z s).1 (mCommit m).1:=by
 rw [ZgD h.rp.x hB];unfold mCommit;rw [h.act];by_cases ha:m.act = true
 ·rw [if_pos ha,if_pos ha];exact ⟨rfl,h.rp.commit,rfl⟩
 ·rw [if_neg ha,if_neg ha];exact ⟨rfl,h⟩
theorem MP.abort {s:VSt} {m:Md} (h:MP s m):(vAbort s).2 = (mAbort m).2∧MP (vAbort s).1 (mAbort m).1:=by
 rw [ZgE];unfold mAbort;rw [h.act];by_cases ha:m.act = true
 ·rw [if_pos ha,if_pos ha];have ho:m.old = m.was:=by unfold Md.old;rw [if_pos ha]
  have:=h.rp.abort;rw [ho] at this;exact ⟨rfl,this,rfl⟩
 ·rw [if_neg ha,if_neg ha];exact ⟨rfl,h⟩
end Rg
end Go.Proofs.YthmahbfmfpjjcaaGreat
/-
 The registry, in plain numbers: what fits together (counts), and what is selected next.
-/
namespace Go.Proofs.YthmahbfmfpjjcaaGreat
open Go.RowKit
open Jn Vn
namespace Rg
end Rg
end Go.Proofs.YthmahbfmfpjjcaaGreat
/-
 The registry, in plain numbers: the law's actions, in the model; what each leaves in the vault.
-/
namespace Go.Proofs.YthmahbfmfpjjcaaGreat
open Go.RowKit
open Jn Vn
namespace Rg
structure ROp where
 act:Int
 e:REn
 aid:List Nat
 dom:List Nat
 st:Int
def mNow (m:Md) (r:List En × Nat):Md × Nat:=({ m with now:=r.1 },r.2)
def rPlay (m:Md) (x:ROp):Md × Nat :=
 if x.act = 0 then (if rValid x.e = true then mNow m (rAdd m.now x.e.en) else (m,1))
 else if x.act = 1 then mNow m (rRemove m.now x.aid)
 else if x.act = 2 then mNow m (rChange m.now x.aid (fState x.st.toNat))
 else if x.act = 3 then mNow m (rChange m.now x.aid (fLock true))
 else if x.act = 4 then mNow m (rChange m.now x.aid (fLock false))
 else if x.act = 5 then mNow m (rChange m.now x.aid (fMove m.now x.dom))
 else if x.act = 6 then mBegin m
 else if x.act = 7 then mCommit m
 else if x.act = 8 then mAbort m
 else (m,0)
def rRun (m:Md) (l:List ROp):Md:=l.foldl (fun m x=>(rPlay m x).1) m
theorem ZgG (m:Md) (l:List ROp) (x:ROp):rRun m (l ++ [x]) = (rPlay (rRun m l) x).1:=by unfold rRun;rw [List.foldl_append];rfl
theorem ZgH (m:Md) (l:List ROp) {i:Nat} (h:i < l.length):rRun m (l.take (i + 1)) = (rPlay (rRun m (l.take i)) l[i]).1:=by
 rw [List.take_succ_eq_append_getElem h,ZgG]
theorem MP.items {s:VSt} {m:Md} (h:MP s m):∃ G:Nat→Option En,(∀ k,k < 32→view s (192 + k) = (G k).map enB)∧SRel G m.now:=by
 obtain ⟨G,h1,h2⟩:=h.rp.v;exact ⟨G,h1.at_,h2⟩
structure MInv (m:Md):Prop where
 now:RInv m.now
 was:RInv m.was
theorem MInv.first:MInv mFirst:=⟨.nil,.nil⟩
theorem MInv.play {m:Md} (h:MInv m) (x:ROp) (ba:Bytes x.e.aid) (bd:Bytes x.e.dom):MInv (rPlay m x).1:=by
 unfold rPlay;by_cases c0:x.act = 0
 ·rw [if_pos c0];by_cases v:rValid x.e = true
  ·rw [if_pos v];exact ⟨ZaQ h.now (((ZB _).1 v).en ba bd).1,h.was⟩
  ·rw [if_neg v];exact h
 rw [if_neg c0];by_cases c1:x.act = 1
 ·rw [if_pos c1];exact ⟨ZaT h.now _,h.was⟩
 rw [if_neg c1];by_cases c2:x.act = 2
 ·rw [if_pos c2];exact ⟨ZaU h.now _ _,h.was⟩
 rw [if_neg c2];by_cases c3:x.act = 3
 ·rw [if_pos c3];exact ⟨XH h.now _ _,h.was⟩
 rw [if_neg c3];by_cases c4:x.act = 4
 ·rw [if_pos c4];exact ⟨XH h.now _ _,h.was⟩
 rw [if_neg c4];by_cases c5:x.act = 5
 ·rw [if_pos c5];exact ⟨ZaV h.now _ _,h.was⟩
 rw [if_neg c5];by_cases c6:x.act = 6
 ·rw [if_pos c6];unfold mBegin
  split
  ·exact h
  ·exact ⟨h.now,h.now⟩
 rw [if_neg c6];by_cases c7:x.act = 7
 ·rw [if_pos c7];unfold mCommit
  split
  ·exact ⟨h.now,h.was⟩
  ·exact h
 rw [if_neg c7];by_cases c8:x.act = 8
 ·rw [if_pos c8];unfold mAbort
  split
  ·exact ⟨h.was,h.was⟩
  ·exact h
 rw [if_neg c8];exact h
end Rg
end Go.Proofs.YthmahbfmfpjjcaaGreat
/-
 The registry, in plain numbers: what is left behind a cut of the power.
-/
namespace Go.Proofs.YthmahbfmfpjjcaaGreat
open Go.RowKit
open Jn Vn
namespace Rg
theorem MP.reborn {s:VSt} {m:Md} (h:MP s m) (was:List En):MP (xIdle s.f) ⟨m.old,was,false⟩:=⟨h.rp.abort,rfl⟩
theorem ZgI (m:Md) (r:List En × Nat):(mNow m r).1.old = if m.act = true then m.was else r.1:=rfl
theorem ZgJ (m:Md) (r:List En × Nat):(mNow m r).1.now = r.1:=rfl
theorem ZgK (m:Md) (x:ROp) :
  (m.act = true→(rPlay m x).1.old = m.was ∨ (x.act = 7∧(rPlay m x).1.old = m.now)) ∧
  (m.act = false→(rPlay m x).1.old = m.now ∨ (rPlay m x).1.old = (rPlay m x).1.now):=by
 have key:∀ r:List En × Nat,(m.act = true→(mNow m r).1.old = m.was ∨ (x.act = 7∧(mNow m r).1.old = m.now))∧(m.act = false→(mNow m r).1.old = m.now ∨ (mNow m r).1.old = (mNow m r).1.now):=fun r=>by
  rw [ZgI,ZgJ];exact ⟨fun ha=>.inl (if_pos ha),fun ha=>.inr (if_neg (by rw [ha];decide))⟩
 have own:(m.act = true→m.old = m.was ∨ (x.act = 7∧m.old = m.now))∧(m.act = false→m.old = m.now ∨ m.old = m.now):=by
  unfold Md.old;exact ⟨fun ha=>.inl (if_pos ha),fun ha=>.inl (if_neg (by rw [ha];decide))⟩
 unfold rPlay;by_cases c0:x.act = 0
 ·rw [if_pos c0];by_cases v:rValid x.e = true
  ·rw [if_pos v];exact key _
  ·rw [if_neg v];exact own
 rw [if_neg c0];by_cases c1:x.act = 1
 ·rw [if_pos c1];exact key _
 rw [if_neg c1];by_cases c2:x.act = 2
 ·rw [if_pos c2];exact key _
 rw [if_neg c2];by_cases c3:x.act = 3
 ·rw [if_pos c3];exact key _
 rw [if_neg c3];by_cases c4:x.act = 4
 ·rw [if_pos c4];exact key _
 rw [if_neg c4];by_cases c5:x.act = 5
 ·rw [if_pos c5];exact key _
 rw [if_neg c5];by_cases c6:x.act = 6
 ·rw [if_pos c6];unfold mBegin;by_cases ha:m.act = true
  ·rw [if_pos ha];exact own
  ·rw [if_neg ha];exact ⟨fun q=>absurd q ha,fun _=>.inl (if_pos rfl)⟩
 rw [if_neg c6];by_cases c7:x.act = 7
 ·rw [if_pos c7];unfold mCommit;by_cases ha:m.act = true
  ·rw [if_pos ha];exact ⟨fun _=>.inr ⟨c7,if_neg (fun q=>by cases q)⟩,fun q=>by rw [ha] at q;cases q⟩
  ·rw [if_neg ha];exact own
 rw [if_neg c7];by_cases c8:x.act = 8
 ·rw [if_pos c8];unfold mAbort;by_cases ha:m.act = true
  ·rw [if_pos ha];exact ⟨fun _=>.inl (if_neg (fun q=>by cases q)),fun q=>by rw [ha] at q;cases q⟩
  ·rw [if_neg ha];exact own
 rw [if_neg c8];exact own
end Rg
end Go.Proofs.YthmahbfmfpjjcaaGreat
/-
 The registry, in plain numbers: the chapter's example.
-/
namespace Go.Proofs.YthmahbfmfpjjcaaGreat
open Go.RowKit
open Jn Vn
namespace Rg
def exF:En:=⟨1,4,0,0,0,0,[160,0,0,0,1],[160,0,0,0,1]⟩
def exP:En:=⟨3,1,0,0,1,0,[160,0,0,0,2],[160,0,0,0,1]⟩
def exA:En:=⟨2,3,0,0,1,5,[160,0,0,0,3],[160,0,0,0,1]⟩
def exL:En:=⟨2,5,3,0,1,5,[160,0,0,0,3],[160,0,0,0,1]⟩
theorem ex_ok:pValid exF.raw = true∧pValid exP.raw = true∧pValid exA.raw = true:=by decide
theorem ex1:rAdd [] exP = ([],12):=by decide
theorem ex2:rAdd [] exF = ([exF],0):=by decide
theorem ex3:rAdd [exF] exP = ([exF,exP],0):=by decide
theorem ex4:rAdd [exF,exP] exA = ([exF,exP,exA],0):=by decide
theorem ex5:rRemove [exF,exP,exA] [160,0,0,0,1] = ([exF,exP,exA],14):=by decide
theorem ex6:rNext [exF,exP,exA] (fun _=>true) [160,0,0,0,1] = some exA:=by decide
theorem ex7:rChange [exF,exP,exA] [160,0,0,0,3] (fLock true) = ([exF,exP,exL],0):=by decide
theorem ex8:rFind [exF,exP,exL] [160,0,0,0,3] = some exL:=by decide
theorem ex9:rNext [exF,exP,exL] (fun _=>true) [160,0,0,0,1] = none:=by decide
theorem ZY {l:List Nat} (h:∀ x ∈ l,x < 256):Bytes l:=fun k=>by
 rw [gd0]
 cases hk:l[k]? with
 | none=>simp
 | some v=>simpa using h v (List.mem_of_getElem? hk)
theorem Zh:Bytes exF.aid∧Bytes exF.dom∧Bytes exP.aid∧Bytes exP.dom∧Bytes exA.aid∧Bytes exA.dom :=
 ⟨ZY (by decide),ZY (by decide),ZY (by decide),ZY (by decide),ZY (by decide),ZY (by decide)⟩
end Rg
end Go.Proofs.YthmahbfmfpjjcaaGreat
/-
 The registry, in plain numbers: entries that come out of the slots in any order.
-/
namespace Go.Proofs.YthmahbfmfpjjcaaGreat
open Go.RowKit
open Jn Vn
namespace Rg
def shown (G:Nat→Option En) (left:Nat→Bool):Nat→Option En:=fun k=>if left k = true then none else G k
theorem ZgL {G:Nat→Option En} {left:Nat→Bool} (h:∀ k,left k = (G k).isSome):shown G left = fun _=>none:=by
 funext k
 unfold shown;have:=h k
 cases hg:G k with
 | none=>rw [hg] at this;rw [if_neg (by rw [this];decide)]
 | some e=>rw [hg] at this;rw [if_pos (by rw [this];rfl)]
theorem ZgM {G:Nat→Option En} {left:Nat→Bool} {k:Nat} {e:En} (hg:G k = some e):shown G (fun j=>left j && !decide (j = k)) = upd (shown G left) k (some e):=by
 funext j
 unfold shown upd;by_cases hj:j = k
 ·subst hj;rw [if_neg (by simp),if_pos rfl,hg]
 ·rw [if_neg hj];simp [hj]
theorem ZgN {G:Nat→Option En} {left:Nat→Bool} (h:∀ k,left k = false):shown G left = G:=by
 funext k
 unfold shown;rw [if_neg (by rw [h k];decide)]
theorem ZgO {G:Nat→Option En} {left:Nat→Bool} (h:∀ k,left k = (G k).isSome):([]:List En).Perm (ents (shown G left)):=by
 rw [ZgL h];have:ents (fun _=>none) = []:=by unfold ents;rw [List.filterMap_eq_nil_iff];exact fun _ _=>rfl
 rw [this]
theorem ZgP {G:Nat→Option En} {left:Nat→Bool} {r:List En} {k:Nat} {e:En} (h:r.Perm (ents (shown G left))) (hk:k < 32) (hl:left k = true) (hg:G k = some e):(r ++ [e]).Perm (ents (shown G fun j=>left j && !decide (j = k))):=by
 rw [ZgM hg];refine (List.perm_append_comm.trans ?_).trans (Za2 hk (by unfold shown;rw [if_pos hl]) e).symm;exact List.Perm.cons e h
theorem ZgQ {G:Nat→Option En} {left:Nat→Bool} {r:List En} (h:r.Perm (ents (shown G left))) (h0:∀ k,left k = false):r.Perm (ents G):=by
 rw [ZgN h0] at h;exact h
theorem ZgR {G:Nat→Option En} {l r s:List En} (h:SRel G l) (hp:r.Perm (ents G)) (hs:s.Perm r) (ho:s.Pairwise fun a b=>ltB b.aid a.aid = false):s = l:=h.sorted (hs.trans hp) ho
theorem ZgS {G:Nat→Option En} {l:List En} (h:SRel G l) {left:Nat→Bool} {a:List Nat} (hs:∀ k e,G k = some e→left k = false→e.aid ≠ a) (h0:∀ k,left k = false):rFind l a = none:=by
 refine Zfd fun e he=>?_;obtain ⟨k,hk,hg⟩:=h.slot he;exact hs k e hg (h0 k)
theorem ZgT {G:Nat→Option En} {l:List En} (h:SRel G l) {k:Nat} {e:En} (hg:G k = some e):rFind l e.aid = some e:=Zfc h.inv (h.mem hg)
theorem ZgU {G:Nat→Option En} {left:Nat→Bool} {a:List Nat} {k:Nat} {e:En} (hs:∀ k e,G k = some e→left k = false→e.aid ≠ a) (hg:G k = some e) (he:e.aid ≠ a):∀ j x,G j = some x→(left j && !decide (j = k)) = false→x.aid ≠ a:=by
 intro j x hj hl;by_cases e1:j = k
 ·subst e1;rw [hg] at hj
  cases hj
  exact he
 ·simp [e1] at hl;exact hs j x hj hl
end Rg
end Go.Proofs.YthmahbfmfpjjcaaGreat
/-
 The registry, in plain numbers: the order that the sort is given, and what a sorted row is as a list.
-/
namespace Go.Proofs.YthmahbfmfpjjcaaGreat
open Go.RowKit
open Jn Vn Go.Sort
namespace Rg
theorem ZgV {a b c:List Nat} (h1:ltB a b = false) (h2:ltB b c = false):ltB a c = false:=by
 cases h:ltB a c with
 | false=>rfl
 | true =>
  rcases ZaO a b with h3 | h3 | h3
  ·rw [h1] at h3;cases h3
  ·subst h3;rw [h2] at h;cases h
  ·have:=XC h3 h;rw [h2] at this
   cases this
theorem ZgW (aid:Nat→List Nat):SWO (ltOf fun i j=>cmpB (aid i) (aid j)) :=
 ⟨fun x=>ZS _,fun _ _ _ h1 h2=>XC h1 h2,fun _ _ _ h1 h2=>ZgV h1 h2⟩
theorem ZgX {d d':Array Nat} (hp:PermIn 0 d.size d d'):d'.toList.Perm d.toList:=by
 obtain ⟨h1,-,h3⟩:=hp;have e1:(d'.extract 0 d.size).toList = d'.toList:=by rw [← h1];simp
 have e2:(d.extract 0 d.size).toList = d.toList:=by simp
 rw [e1,e2] at h3;exact h3
theorem ZgY {lt:Nat→Nat→Bool} {d d':Array Nat} (hz:d'.size = d.size) (hs:SortedIn lt 0 d.size d'):d'.toList.Pairwise fun a b=>lt b a = false:=by
 rw [List.pairwise_iff_getElem];intro i j hi hj hij;have hi':i < d'.size:=by simpa using hi
 have hj':j < d'.size:=by simpa using hj
 have:=hs i j (Nat.zero_le _) hij (by omega);rw [getElem!_pos d' j hj',getElem!_pos d' i hi'] at this;simpa using this
end Rg
end Go.Proofs.YthmahbfmfpjjcaaGreat
/-
 The registry, in plain numbers: the bytes of an entry, as the program makes them and reads them.
-/
namespace Go.Proofs.YthmahbfmfpjjcaaGreat
open Go.RowKit
open Jn Vn
namespace Rg
theorem ZbT {e:En} (h:EOk e):Bytes (enB e):=by
 have:=h.k1;have:=h.k3;have:=h.sp;have:=h.sn;have:=h.bl;have:=h.bn;have:=h.p31;have:=h.nd;have:=h.nn;have:=h.oa;have:=h.on;have:=h.a16;refine Zw.2 fun x hx=>?_;unfold enB at hx;rcases List.mem_append.1 hx with hx | hx
 ·have s1:e.st < 256:=by by_cases k:e.kind = 3 <;> omega
  have s2:e.bf < 256:=by by_cases k:e.st = 5 <;> omega
  have s3:e.pk < 256:=by by_cases k:e.kind = 1 <;> omega
  have s4:e.ob≤512:=by by_cases k:e.kind = 2 <;> omega
  simp only [List.mem_cons,List.not_mem_nil,or_false] at hx;rcases hx with rfl | rfl | rfl | rfl | rfl | rfl | rfl | rfl <;> omega
 ·rcases List.mem_append.1 hx with hx | hx
  ·exact Zw.1 h.ba x hx
  ·exact Zw.1 h.bd x hx
end Rg
end Go.Proofs.YthmahbfmfpjjcaaGreat
