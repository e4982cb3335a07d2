/-
  What the calls of a vault do, in plain numbers, where all items lie in a range of numbers and are short: they never lack room.
-/
import Derived.Test.YtanioleniadhoaaGreatAH10
set_option linter.unusedVariables false
set_option linter.unusedSimpArgs false
namespace Go.Proofs.YtanioleniadhoaaGreat
open Go.RowKit
open Jn Vn
namespace Rg
structure InR (lo n c:Nat) (r:Rec):Prop where
 ge:lo≤r.1
 hi:r.1 < lo + n
 sh:(r.2.getD []).length≤c
def XF (lo n c:Nat) (F:Items):Prop:=∀ k b,F k = some b→lo≤k∧k < lo + n∧b.length≤c
structure XB (lo n c Z:Nat):Prop where
 l1:1≤lo
 h4:lo + n≤4097
 c2:c≤2048
 wt:n * (16 + c)≤Z / 2
 nd:n * (8 + c)≤4096
section
variable {lo n c Z : Nat} {F : Items} {s : VSt} {r : Rec}
theorem XF.none:XF lo n c none_:=fun _ _ h=>by cases h
theorem XF.set (h:XF lo n c F) (hr:InR lo n c r):XF lo n c (set1 F r):=fun k b hk=>by
 unfold set1 at hk
 split at hk
 ·rename_i e
  subst e;have:=hr.sh;rw [hk] at this;exact ⟨hr.ge,hr.hi,this⟩
 ·exact h k b hk
theorem XF.sets:∀ (l:List Rec) {F:Items},XF lo n c F→(∀ r ∈ l,InR lo n c r)→XF lo n c (sets F l)
 | [],_,h,_=>h
 | r :: l,_,h,hl=>XF.sets l (h.set (hl r (List.mem_cons_self ..))) fun x hx=>hl x (List.mem_cons_of_mem _ hx)
theorem nodup_range {ss:List Nat} (hn:ss.Nodup) (h:∀ k ∈ ss,lo≤k∧k < lo + n):ss.length≤n:=by
 have h1:=hn.length_le_of_subset (l₂:=(List.range n).map (lo + ·)) fun x hx=>by
  have:=h x hx;exact List.mem_map.2 ⟨x - lo,List.mem_range.2 (by omega),by omega⟩
 simpa using h1
theorem sum_le_c (g:Nat→Nat) (c:Nat):∀ ks:List Nat,(∀ k ∈ ks,g k≤c)→(ks.map g).sum≤ks.length * c
 | [],_=>Nat.zero_le _
 | k :: ks,h=>by
  have h1:=h k (List.mem_cons_self ..);have h2:=sum_le_c g c ks fun x hx=>h x (List.mem_cons_of_mem _ hx);rw [List.map_cons,List.sum_cons,List.length_cons,Nat.succ_mul];omega
theorem XF.wt (h:XF lo n c F):wt F≤n * (16 + c):=by
 have h1:∀ k ∈ dom F,16 + ((F k).getD []).length≤16 + c:=fun k hk=>by
  obtain ⟨b,hb⟩:=Option.isSome_iff_exists.1 (mem_dom.1 hk).2;have:=(h k b hb).2.2;rw [hb]
  show 16 + b.length≤_
  omega
 have h2:=nodup_range (lo:=lo) (n:=n) (dom_nodup F) fun k hk=>by
  obtain ⟨b,hb⟩:=Option.isSome_iff_exists.1 (mem_dom.1 hk).2;have:=h k b hb;exact ⟨this.1,this.2.1⟩
 have h3:=sum_le_c (fun k=>16 + ((F k).getD []).length) (16 + c) (dom F) h1;have h4:Vn.wt F = ((dom F).map fun k=>16 + ((F k).getD []).length).sum:=rfl;rw [h4];exact Nat.le_trans h3 (Nat.mul_le_mul_right _ h2)
theorem need_x {l:List Rec} (h:∀ r ∈ l,InR lo n c r):need l≤n * (8 + c):=by
 have h2:=nodup_range (lo:=lo) (n:=n) (dom_nodup (lastOf l)) fun k hk=>by
  obtain ⟨r,hr⟩:=Option.isSome_iff_exists.1 (mem_dom.1 hk).2;obtain ⟨e,hm⟩:=lastOf_id hr;have:=h r hm;have h1:=this.ge;have h2:=this.hi;omega
 have h3:∀ l':List Rec,(∀ r ∈ l',(r.2.getD []).length≤c)→(l'.map fun r=>8 + (r.2.getD []).length).sum≤l'.length * (8 + c):=by
  intro l'
  induction l' with
  | nil=>intro _;exact Nat.zero_le _
  | cons r l' ih =>
   intro hl;have a:=hl r (List.mem_cons_self ..);have b:=ih fun x hx=>hl x (List.mem_cons_of_mem _ hx);rw [List.map_cons,List.sum_cons,List.length_cons,Nat.succ_mul];omega
 have h4:=h3 (recsOf (lastOf l)) fun r hr=>by
  obtain ⟨k,_,hk⟩:=List.mem_filterMap.1 hr;exact (h r (lastOf_id hk).2).sh
 have h5:(recsOf (lastOf l)).length≤(dom (lastOf l)).length:=List.length_filterMap_le _ _;unfold need;exact Nat.le_trans h4 (Nat.mul_le_mul_right _ (Nat.le_trans h5 h2))
end
structure XS (lo n c:Nat) (s:VSt):Prop where
 f:XF lo n c s.f
 l:∀ r ∈ s.l,InR lo n c r
 idle:s.act = false→s.l = []
def xApp (s:VSt) (r:Rec):VSt:=if s.act = true then { s with l:=s.l ++ [r] } else { s with f:=set1 s.f r }
section
variable {lo n c Z : Nat} {F : Items} {s : VSt} {r : Rec}
theorem XS.view (h:XS lo n c s):XF lo n c (view s):=XF.sets _ h.f h.l
theorem XS.app (h:XS lo n c s) (hr:InR lo n c r):XS lo n c (xApp s r):=by
 unfold xApp
 split
 ·rename_i ha
  refine ⟨h.f,fun x hx=>?_,fun e=>?_⟩
  ·rcases List.mem_append.1 hx with hx | hx
   ·exact h.l x hx
   ·rw [List.mem_singleton.1 hx];exact hr
  ·have e:s.act = false:=e;rw [ha] at e;cases e
 ·exact ⟨h.f.set hr,h.l,h.idle⟩
theorem view_xapp (h:XS lo n c s) (r:Rec):view (xApp s r) = set1 (view s) r:=by
 unfold xApp view
 split
 ·exact sets_snoc _ _ _
 ·rename_i ha
  have hl:s.l = []:=h.idle (by simpa using ha)
  show sets (set1 s.f r) s.l = set1 (sets s.f s.l) r
  rw [hl];rfl
theorem vChange_x (h:XS lo n c s) (hr:InR lo n c r) (hB:XB lo n c Z):vChange Z s r = (xApp s r,0):=by
 have hl:∀ x ∈ s.l ++ [r],InR lo n c x:=fun x hx=>by
  rcases List.mem_append.1 hx with hx | hx
  ·exact h.l x hx
  ·rw [List.mem_singleton.1 hx];exact hr
 have h1:=need_x hl;have h2:=(XF.sets _ h.f hl).wt;have h3:=hB.wt;have h4:=hB.nd;unfold vChange xApp;rw [if_neg (by omega),if_neg (by omega)]
 split
 ·rfl
 ·rename_i ha
  have hl:s.l = []:=h.idle (by simpa using ha);rw [hl];rfl
theorem vPut_x {k:Nat} {b:List Nat} (h:XS lo n c s) (hr:InR lo n c (k,some b)) (hB:XB lo n c Z):vPut Z s (k:Nat) b = (xApp s (k,some b),0):=by
 have h1:lo≤k:=hr.ge;have h2:k < lo + n:=hr.hi;have h3:b.length≤c:=hr.sh;have l1:=hB.l1;have h4:=hB.h4;have c2:=hB.c2
 have hv:validB (k:Int) b.length = true:=by
  unfold validB;simp only [Bool.and_eq_true,decide_eq_true_eq];omega
 unfold vPut;rw [if_pos hv,Int.toNat_natCast];exact vChange_x h hr hB
def xIdle (f:Items):VSt:={ f:=f,act:=false,l:=[] }
theorem XS.idle0 (h:XF lo n c F):XS lo n c (xIdle F):=⟨h,fun _ h=>by simp [xIdle] at h,fun _=>rfl⟩
theorem vCommit_x (h:XS lo n c s) (hB:XB lo n c Z):vCommit Z s = if s.act = true then (xIdle (view s),0) else (s,14):=by
 have h2:=h.view.wt;have h3:=hB.wt;unfold vCommit
 split
 ·rw [if_neg (by show ¬ Z / 2 < wt (view s);omega)];rfl
 ·rfl
theorem vAbort_x:vAbort s = if s.act = true then (xIdle s.f,0) else (s,14):=rfl
theorem vBegin_x:vBegin s = if s.act = true then (s,14) else ({ s with act:=true,l:=[] },0):=rfl
theorem XS.begin (h:XS lo n c s):XS lo n c { s with act:=true,l:=[] }:=⟨h.f,fun _ h=>by simp at h,fun _=>rfl⟩
end
theorem xApp_len (s:VSt) (r:Rec):(xApp s r).l.length≤s.l.length + 1:=by
 unfold xApp
 split
 ·show (s.l ++ [r]).length≤_
  simp
 ·show s.l.length≤_
  omega
end Rg
end Go.Proofs.YtanioleniadhoaaGreat
