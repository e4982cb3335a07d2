/-
  What the calls of a vault do, in plain numbers, where all items lie in a range of numbers and are short: they never lack room.
-/
import Derived.Test.YtoehlaeaafalmaaGreatCH10
import Derived.DeepKeys5
set_option linter.unusedVariables false
set_option linter.unusedSimpArgs false
set_option maxRecDepth 100000
namespace Go.Proofs.YtoehlaeaafalmaaGreat
open Go.RowKit
open Jn Vn
namespace Rg
structure InR (lo n c:Nat) (r:Rec):Prop where
 ge:lo≤r.1
 hi:r.1 < lo + n
 sh:(r.2.getD []).length≤c
def XF (lo n c:Nat) (F:Items):Prop:=∀ k b,F k = some b→lo≤k∧k < lo + n∧b.length≤c
structure XB (lo n c Z:Nat):Prop where
 l1:1≤lo
 h4:lo + n≤4097
 c2:c≤2048
 wt:n * (16 + c)≤Z / 2
 nd:n * (8 + c)≤4096
section
variable {lo n c Z : Nat} {F : Items} {s : VSt} {r : Rec}
theorem XF.none:XF lo n c none_:=fun _ _ h=>by cases h
theorem XF.set (h:XF lo n c F) (hr:InR lo n c r):XF lo n c (set1 F r):=fun k b hk=>by
 unfold set1 at hk
 split at hk
 ·rename_i e
  subst e;have:=hr.sh;rw [hk] at this;exact ⟨hr.ge,hr.hi,this⟩
 ·exact h k b hk
theorem XF.sets:∀ (l:List Rec) {F:Items},XF lo n c F→(∀ r ∈ l,InR lo n c r)→XF lo n c (sets F l)
 | [],_,h,_=>h
 | r :: l,_,h,hl=>XF.sets l (h.set (hl r (List.mem_cons_self ..))) fun x hx=>hl x (List.mem_cons_of_mem _ hx)
theorem nodup_range {ss:List Nat} (hn:ss.Nodup) (h:∀ k ∈ ss,lo≤k∧k < lo + n):ss.length≤n:=by
 have h1:=hn.length_le_of_subset (l₂:=(List.range n).map (lo + ·)) fun x hx=>by
  have:=h x hx;exact List.mem_map.2 ⟨x - lo,List.mem_range.2 (by omega),by omega⟩
 simpa using h1
theorem Za7 (g:Nat→Nat) (c:Nat):∀ ks:List Nat,(∀ k ∈ ks,g k≤c)→(ks.map g).sum≤ks.length * c
 | [],_=>Nat.zero_le _
 | k :: ks,h=>by
  have h1:=h k (List.mem_cons_self ..);have h2:=Za7 g c ks fun x hx=>h x (List.mem_cons_of_mem _ hx);rw [List.map_cons,List.sum_cons,List.length_cons,Nat.succ_mul];omega
theorem XF.wt (h:XF lo n c F):wt F≤n * (16 + c):=by
 have h1:∀ k ∈ dom F,16 + ((F k).getD []).length≤16 + c:=fun k hk=>by
  obtain ⟨b,hb⟩:=Option.isSome_iff_exists.1 (Zn.1 hk).2;have:=(h k b hb).2.2;rw [hb]
  show 16 + b.length≤_
  omega
 have h2:=nodup_range (lo:=lo) (n:=n) (YO F) fun k hk=>by
  obtain ⟨b,hb⟩:=Option.isSome_iff_exists.1 (Zn.1 hk).2;have:=h k b hb;exact ⟨this.1,this.2.1⟩
 have h3:=Za7 (fun k=>16 + ((F k).getD []).length) (16 + c) (dom F) h1;have h4:Vn.wt F = ((dom F).map fun k=>16 + ((F k).getD []).length).sum:=rfl;rw [h4];exact Nat.le_trans h3 (Nat.mul_le_mul_right _ h2)
theorem Ze8 {l:List Rec} (h:∀ r ∈ l,InR lo n c r):need l≤n * (8 + c):=by
 have h2:=nodup_range (lo:=lo) (n:=n) (YO (lastOf l)) fun k hk=>by
  obtain ⟨r,hr⟩:=Option.isSome_iff_exists.1 (Zn.1 hk).2;obtain ⟨e,hm⟩:=YN hr;have:=h r hm;have h1:=this.ge;have h2:=this.hi;omega
 have h3:∀ l':List Rec,(∀ r ∈ l',(r.2.getD []).length≤c)→(l'.map fun r=>8 + (r.2.getD []).length).sum≤l'.length * (8 + c):=by
  intro l'
  induction l' with
  | nil=>intro _;exact Nat.zero_le _
  | cons r l' ih =>
   intro hl;have a:=hl r (List.mem_cons_self ..);have b:=ih fun x hx=>hl x (List.mem_cons_of_mem _ hx);rw [List.map_cons,List.sum_cons,List.length_cons,Nat.succ_mul];omega
 have h4:=h3 (recsOf (lastOf l)) fun r hr=>by
  obtain ⟨k,_,hk⟩:=List.mem_filterMap.1 hr;exact (h r (YN hk).2).sh
 have h5:(recsOf (lastOf l)).length≤(dom (lastOf l)).length:=List.length_filterMap_le _ _;unfold need;exact Nat.le_trans h4 (Nat.mul_le_mul_right _ (Nat.le_trans h5 h2))
end
structure XS (lo n c:Nat) (s:VSt):Prop where
 f:XF lo n c s.f
 l:∀ r ∈ s.l,InR lo n c r
 idle:s.act = false→s.l = []
def xApp (s:VSt) (r:Rec):VSt:=if s.act = true then { s with l:=s.l ++ [r] } else { s with f:=set1 s.f r }
section
variable {lo n c Z : Nat} {F : Items} {s : VSt} {r : Rec}
theorem XS.view (h:XS lo n c s):XF lo n c (view s):=XF.sets _ h.f h.l
theorem XS.app (h:XS lo n c s) (hr:InR lo n c r):XS lo n c (xApp s r):=by
 unfold xApp
 split
 ·rename_i ha
  refine ⟨h.f,fun x hx=>?_,fun e=>?_⟩
  ·rcases List.mem_append.1 hx with hx | hx
   ·exact h.l x hx
   ·rw [List.mem_singleton.1 hx];exact hr
  ·have e:s.act = false:=e;rw [ha] at e;cases e
 ·exact ⟨h.f.set hr,h.l,h.idle⟩
theorem Ze9 (h:XS lo n c s) (r:Rec):view (xApp s r) = set1 (view s) r:=by
 unfold xApp view
 split
 ·exact ZI _ _ _
 ·rename_i ha
  have hl:s.l = []:=h.idle (by simpa using ha)
  show sets (set1 s.f r) s.l = set1 (sets s.f s.l) r
  rw [hl];rfl
theorem Za8 (h:XS lo n c s) (hr:InR lo n c r) (hB:XB lo n c Z):vChange Z s r = (xApp s r,0):=by
 have hl:∀ x ∈ s.l ++ [r],InR lo n c x:=fun x hx=>by
  rcases List.mem_append.1 hx with hx | hx
  ·exact h.l x hx
  ·rw [List.mem_singleton.1 hx];exact hr
 have h1:=Ze8 hl;have h2:=(XF.sets _ h.f hl).wt;have h3:=hB.wt;have h4:=hB.nd;unfold vChange xApp;rw [if_neg (by omega),if_neg (by omega)]
 split
 ·rfl
 ·rename_i ha
  have hl:s.l = []:=h.idle (by simpa using ha);rw [hl];rfl
theorem Zfa {k:Nat} {b:List Nat} (h:XS lo n c s) (hr:InR lo n c (k,some b)) (hB:XB lo n c Z):vPut Z s (k:Nat) b = (xApp s (k,some b),0):=by
 have h1:lo≤k:=hr.ge;have h2:k < lo + n:=hr.hi;have h3:b.length≤c:=hr.sh;have l1:=hB.l1;have h4:=hB.h4;have c2:=hB.c2
 have hv:validB (k:Int) b.length = true:=by
  unfold validB;simp only [Bool.and_eq_true,decide_eq_true_eq];omega
 unfold vPut;rw [if_pos hv,Int.toNat_natCast];exact Za8 h hr hB
theorem Zfb {k:Nat} (h:XS lo n c s) (h1:lo≤k) (h2:k < lo + n) (hs:(view s k).isSome = true) (hB:XB lo n c Z):vDel Z s (k:Nat) = (xApp s (k,none),0):=by
 have l1:=hB.l1;have h4:=hB.h4
 have hv:validB (k:Int) 0 = true:=by
  unfold validB;simp only [Bool.and_eq_true,decide_eq_true_eq];omega
 have ha:(at_ (sets s.f s.l) (k:Int)).isSome = true:=by
  unfold at_;rw [if_pos (by omega),Int.toNat_natCast];exact hs
 unfold vDel;rw [if_pos hv,if_pos ha,Int.toNat_natCast];exact Za8 h ⟨h1,h2,Nat.zero_le _⟩ hB
def xIdle (f:Items):VSt:={ f:=f,act:=false,l:=[] }
theorem Zfc (h:XS lo n c s) (hB:XB lo n c Z):vCommit Z s = if s.act = true then (xIdle (view s),0) else (s,14):=by
 have h2:=h.view.wt;have h3:=hB.wt;unfold vCommit
 split
 ·rw [if_neg (by show ¬ Z / 2 < wt (view s);omega)];rfl
 ·rfl
theorem Zfd:vAbort s = if s.act = true then (xIdle s.f,0) else (s,14):=rfl
theorem Za9:vBegin s = if s.act = true then (s,14) else ({ s with act:=true,l:=[] },0):=rfl
theorem Zfe {k:Nat} {b:List Nat} (h:XS lo n c s) (hr:InR lo n c (k,some b)) (hB:XB lo n c Z) :
  vNow Z s (k:Nat) b = if (s.l.any fun r=>decide (r.1 = k)) = true then (s,14) else ({ s with f:=set1 s.f (k,some b) },0):=by
 have h1:lo≤k:=hr.ge;have h2:k < lo + n:=hr.hi;have h3:b.length≤c:=hr.sh;have l1:=hB.l1;have h4:=hB.h4;have c2:=hB.c2
 have hv:validB (k:Int) b.length = true:=by
  unfold validB;simp only [Bool.and_eq_true,decide_eq_true_eq];omega
 have hw1:=(h.f.set hr).wt;have hw2:=(XF.sets _ (h.f.set hr) h.l).wt;have hw:=hB.wt
 have he:(s.l.any fun r=>decide (((r.1:Nat):Int) = (k:Int))) = s.l.any fun r=>decide (r.1 = k):=by
  congr 1;funext r;congr 1;exact propext (by omega)
 unfold vNow;rw [if_pos hv,he,Int.toNat_natCast]
 split
 ·rfl
 ·rw [if_neg (by omega)]
end
theorem Zba (s:VSt) (r:Rec):(xApp s r).l.length≤s.l.length + 1:=by
 unfold xApp
 split
 ·show (s.l ++ [r]).length≤_
  simp
 ·show s.l.length≤_
  omega
end Rg
end Go.Proofs.YtoehlaeaafalmaaGreat
namespace Go.Proofs.YtoehlaeaafalmaaGreat
open Go.RowKit
open Jn Vn Rg
namespace Ky
structure KEn where
 set:Nat
 kind:Nat
 lim:Nat
 tries:Nat
 val:List Nat
deriving DecidableEq
def pl (e:KEn):Nat:=8 * e.set + e.kind
def kB (e:KEn):List Nat:=e.tries :: e.lim :: e.val
structure KOk (e:KEn):Prop where
 s1:1≤e.set
 s8:e.set≤8
 k1:1≤e.kind
 k6:e.kind≤6
 l1:1≤e.lim
 l15:e.lim≤15
 tl:e.tries≤e.lim
 v16:e.val.length = 16
 bv:Bytes e.val
def mkK (p:Nat) (b:List Nat):KEn:=⟨p / 8,p % 8,b.getD 1 0,b.getD 0 0,b.drop 2⟩
theorem KOk.pl_lt {e:KEn} (h:KOk e):pl e < 72∧9≤pl e:=by
 obtain ⟨a,b,c,d,-⟩:=h;unfold pl;omega
theorem KOk.back {e:KEn} (h:KOk e):mkK (pl e) (kB e) = e:=by
 obtain ⟨a,b,c,d,-⟩:=h;obtain ⟨s,k,l,t,v⟩:=e;dsimp only at a b c d;unfold mkK pl kB;simp only [gd0,gz0,gs0,Option.getD_some,List.drop_succ_cons,List.drop_zero,KEn.mk.injEq,and_true];omega
theorem KOk.len {e:KEn} (h:KOk e):(kB e).length = 18:=by unfold kB;rw [List.length_cons,List.length_cons,h.v16]
theorem KOk.bytes {e:KEn} (h:KOk e):Bytes (kB e):=fun k=>by
 unfold kB;have h1:=h.l15;have h2:=h.tl
 match k with
 | 0=>show e.tries < 256;omega
 | 1=>show e.lim < 256;omega
 | k + 2=>exact h.bv k
theorem Zbb {e e':KEn} (h:KOk e) (h':KOk e') (hp:pl e = pl e'):e.set = e'.set∧e.kind = e'.kind:=by
 obtain ⟨a,b,c,d,-⟩:=h;obtain ⟨a',b',c',d',-⟩:=h';unfold pl at hp;omega
def KIt (f:Items):Prop:=∀ k b,f k = some b→∃ e,KOk e∧k = 64 + pl e∧b = kB e
theorem KIt.none:KIt none_:=fun _ _ h=>by cases h
theorem KIt.set {f:Items} (h:KIt f) {e:KEn} (he:KOk e):KIt (set1 f (64 + pl e,some (kB e))):=fun k b hk=>by
 unfold set1 at hk
 split at hk
 ·rename_i q
  simp only [Option.some.injEq] at hk;exact ⟨e,he,q,hk.symm⟩
 ·exact h k b hk
theorem KIt.del {f:Items} (h:KIt f) (k:Nat):KIt (set1 f (k,Option.none)):=fun k' b hk=>by
 unfold set1 at hk
 split at hk
 ·cases hk
 ·exact h k' b hk
theorem KIt.xf {f:Items} (h:KIt f):XF 64 72 18 f:=fun k b hk=>by
 obtain ⟨e,he,rfl,rfl⟩:=h k b hk;have:=he.pl_lt;exact ⟨by omega,by omega,by rw [he.len];exact Nat.le_refl _⟩
def kAt (f:Items) (p:Nat):Option KEn:=(f (64 + p)).map (mkK p)
def kl (f:Items):List KEn:=(List.range 72).filterMap (kAt f)
theorem YS {f:Items} (h:KIt f) {p:Nat} {e:KEn}:kAt f p = some e ↔ KOk e∧p = pl e∧f (64 + p) = some (kB e):=by
 unfold kAt
 constructor
 ·intro q;obtain ⟨b,hb,he⟩:=Option.map_eq_some_iff.1 q;obtain ⟨e',h1,h2,h3⟩:=h _ b hb;have hp:p = pl e':=by omega
  subst hp;rw [h3,h1.back] at he;subst he;exact ⟨h1,rfl,by rw [hb,h3]⟩
 ·rintro ⟨h1,rfl,h3⟩;rw [h3];exact congrArg some h1.back
theorem Zx {f:Items} (h:KIt f) {e:KEn}:e ∈ kl f ↔ KOk e∧f (64 + pl e) = some (kB e):=by
 unfold kl;rw [List.mem_filterMap]
 constructor
 ·rintro ⟨p,hp,q⟩;obtain ⟨h1,rfl,h3⟩:=(YS h).1 q;exact ⟨h1,h3⟩
 ·rintro ⟨h1,h3⟩;exact ⟨pl e,List.mem_range.2 h1.pl_lt.1,(YS h).2 ⟨h1,rfl,h3⟩⟩
structure KL (l:List KEn):Prop where
 srt:l.Pairwise fun a b=>pl a < pl b
 ok:∀ e ∈ l,KOk e
theorem kl_KL {f:Items} (h:KIt f):KL (kl f):=by
 refine ⟨?_,fun e he=>((Zx h).1 he).1⟩;unfold kl;rw [List.pairwise_filterMap];refine List.Pairwise.imp_of_mem ?_ (List.pairwise_lt_range (n:=72));intro a b ha hb hab x hx y hy;obtain ⟨-,rfl,-⟩:=(YS h).1 hx;obtain ⟨-,rfl,-⟩:=(YS h).1 hy;exact hab
theorem YT:∀ {l m:List KEn},l.Pairwise (fun a b=>pl a < pl b)→m.Pairwise (fun a b=>pl a < pl b)→(∀ e,e ∈ l ↔ e ∈ m)→l = m
 | [],[],_,_,_=>rfl
 | [],b :: m,_,_,h=>by have:=(h b).2 (List.mem_cons_self ..);cases this
 | a :: l,[],_,_,h=>by have:=(h a).1 (List.mem_cons_self ..);cases this
 | a :: l,b :: m,hl,hm,h=>by
  obtain ⟨hl1,hl2⟩:=List.pairwise_cons.1 hl;obtain ⟨hm1,hm2⟩:=List.pairwise_cons.1 hm
  have hab:a = b:=by
   rcases List.mem_cons.1 ((h a).1 (List.mem_cons_self ..)) with q | q
   ·exact q
   rcases List.mem_cons.1 ((h b).2 (List.mem_cons_self ..)) with q' | q'
   ·exact q'.symm
   have h1:=hm1 a q;have h2:=hl1 b q';omega
  subst hab
  congr 1
  refine YT hl2 hm2 fun e=>⟨fun q=>?_,fun q=>?_⟩
  ·rcases List.mem_cons.1 ((h e).1 (List.mem_cons_of_mem _ q)) with q' | q'
   ·subst q';have:=hl1 e q;omega
   ·exact q'
  ·rcases List.mem_cons.1 ((h e).2 (List.mem_cons_of_mem _ q)) with q' | q'
   ·subst q';have:=hm1 e q;omega
   ·exact q'
def isK (s k:Int) (e:KEn):Bool:=decide ((e.set:Int) = s) && decide ((e.kind:Int) = k)
theorem Yq {s k:Int} {e:KEn}:isK s k e = true ↔ (e.set:Int) = s∧(e.kind:Int) = k:=by unfold isK;simp
def kfind (l:List KEn) (s k:Int):Option KEn:=l.find? (isK s k)
theorem Zt {l:List KEn} {s k:Int} {e:KEn} (h:kfind l s k = some e):e ∈ l∧(e.set:Int) = s∧(e.kind:Int) = k :=
 ⟨List.mem_of_find?_eq_some h,Yq.1 (List.find?_some h)⟩
theorem KL.uniq {l:List KEn} (h:KL l) {a b:KEn} (ha:a ∈ l) (hb:b ∈ l) (e1:a.set = b.set) (e2:a.kind = b.kind):a = b:=by
 have:pl a = pl b:=by unfold pl;rw [e1,e2]
 have hl:=h.srt;clear h
 induction l with
 | nil=>cases ha
 | cons c l ih =>
  obtain ⟨h1,h2⟩:=List.pairwise_cons.1 hl;rcases List.mem_cons.1 ha with ea | ha2
  ·rcases List.mem_cons.1 hb with eb | hb2
   ·rw [ea,eb]
   ·have:=h1 b hb2;rw [← ea] at this;omega
  ·rcases List.mem_cons.1 hb with eb | hb2
   ·have:=h1 a ha2;rw [← eb] at this;omega
   ·exact ih ha2 hb2 h2
theorem KL.find {l:List KEn} (h:KL l) {e:KEn} (he:e ∈ l):kfind l e.set e.kind = some e:=by
 cases hf:kfind l e.set e.kind with
 | none =>
  have:=List.find?_eq_none.1 hf e he;rw [Yq.2 ⟨rfl,rfl⟩] at this;exact absurd rfl this
 | some e' =>
  obtain ⟨h1,h2,h3⟩:=Zt hf;rw [h.uniq h1 he (by omega) (by omega)]
def isB (s k:Int) (e:KEn):Bool:=decide ((e.set:Int) < s) || (decide ((e.set:Int) = s) && decide ((e.kind:Int) < k))
def rIdx (l:List KEn) (s k:Int):Nat:=(l.takeWhile (isB s k)).length
def rHit (l:List KEn) (s k:Int):Bool:=match l[rIdx l s k]? with
 | some e=>isK s k e
 | none=>false
theorem Zff {s k:Int} {e:KEn} (h:isB s k e = true):isK s k e = false:=by
 cases hk:isK s k e with
 | false=>rfl
 | true =>
  obtain ⟨h1,h2⟩:=Yq.1 hk;unfold isB at h;rw [decide_eq_false (show ¬ (e.set:Int) < s by omega),decide_eq_false (show ¬ (e.kind:Int) < k by omega),Bool.and_false,Bool.or_false] at h
  cases h
theorem KL.idx {l:List KEn} (h:KL l) (s k:Int):kfind l s k = if rHit l s k = true then l[rIdx l s k]? else none:=by
 have hl:=h.srt;have hok:=h.ok;clear h
 induction l with
 | nil=>simp [kfind,rHit,rIdx]
 | cons a l ih =>
  obtain ⟨h1,h2⟩:=List.pairwise_cons.1 hl;have ih:=ih h2 fun e he=>hok e (List.mem_cons_of_mem _ he)
  cases hb:isB s k a with
  | true =>
   have hi:rIdx (a :: l) s k = rIdx l s k + 1:=by unfold rIdx;rw [List.takeWhile_cons,if_pos hb];rfl
   have hh:rHit (a :: l) s k = rHit l s k:=by unfold rHit;rw [hi,gs0]
   rw [hi,hh,gs0,← ih];unfold kfind;rw [List.find?_cons,Zff hb]
  | false =>
   have hi:rIdx (a :: l) s k = 0:=by unfold rIdx;rw [List.takeWhile_cons,if_neg (by rw [hb];decide)];rfl
   have hh:rHit (a :: l) s k = isK s k a:=by unfold rHit;rw [hi];rfl
   rw [hi,hh]
   cases hk:isK s k a with
   | true=>unfold kfind;rw [List.find?_cons,hk];rfl
   | false =>
    rw [if_neg (by decide)];unfold kfind;rw [List.find?_cons,hk]
    show List.find? (isK s k) l = none
    rw [List.find?_eq_none];intro x hx hkx;obtain ⟨e1,e2⟩:=Yq.1 hkx;have h3:=h1 x hx;obtain ⟨-,-,a1,a6,-⟩:=hok a (List.mem_cons_self ..);obtain ⟨-,-,x1,x6,-⟩:=hok x (List.mem_cons_of_mem _ hx)
    have h4:isB s k a = true:=by
     unfold isB;unfold pl at h3;rw [Bool.or_eq_true,Bool.and_eq_true,decide_eq_true_eq,decide_eq_true_eq,decide_eq_true_eq];omega
    rw [hb] at h4;cases h4
theorem ZY (l:List KEn) (s k:Int):rIdx l s k≤l.length:=by
 unfold rIdx;exact (List.takeWhile_prefix (isB s k) (l:=l)).length_le
def rWith (l:List KEn) (e:KEn):List KEn:=(l.take (rIdx l e.set e.kind) ++ [e]) ++ l.drop (if rHit l e.set e.kind = true then rIdx l e.set e.kind + 1 else rIdx l e.set e.kind)
theorem lt_pl {e x:KEn} (he:KOk e) (hx:KOk x):isB e.set e.kind x = decide (pl x < pl e):=by
 obtain ⟨-,-,a1,a6,-⟩:=he;obtain ⟨-,-,x1,x6,-⟩:=hx;unfold isB pl;rw [Bool.eq_iff_iff,Bool.or_eq_true,Bool.and_eq_true,decide_eq_true_eq,decide_eq_true_eq,decide_eq_true_eq,decide_eq_true_eq];omega
theorem Zfg {l:List KEn} (h:KL l) {e:KEn} (he:KOk e):(rWith l e).Pairwise (fun a b=>pl a < pl b)∧∀ x,x ∈ rWith l e ↔ x = e ∨ (x ∈ l∧pl x ≠ pl e):=by
 have hl:=h.srt;have hok:=h.ok;clear h
 induction l with
 | nil=>exact ⟨by simp [rWith],fun x=>by simp [rWith]⟩
 | cons a l ih =>
  obtain ⟨h1,h2⟩:=List.pairwise_cons.1 hl;have hoa:=hok a (List.mem_cons_self ..);have hol:=fun e he=>hok e (List.mem_cons_of_mem _ he);have ih:=ih h2 hol
  cases hb:isB e.set e.kind a with
  | true =>
   have hi:rIdx (a :: l) e.set e.kind = rIdx l e.set e.kind + 1:=by unfold rIdx;rw [List.takeWhile_cons,if_pos hb];rfl
   have hh:rHit (a :: l) e.set e.kind = rHit l e.set e.kind:=by unfold rHit;rw [hi,gs0]
   have hw:rWith (a :: l) e = a :: rWith l e:=by
    unfold rWith;rw [hi,hh,List.take_succ_cons]
    split <;> rfl
   rw [lt_pl he hoa,decide_eq_true_eq] at hb;rw [hw];refine ⟨List.pairwise_cons.2 ⟨fun x hx=>?_,ih.1⟩,fun x=>?_⟩
   ·rcases (ih.2 x).1 hx with rfl | ⟨q,-⟩
    ·exact hb
    ·exact h1 x q
   ·rw [List.mem_cons,ih.2 x,List.mem_cons]
    constructor
    ·rintro (rfl | q | ⟨q,r⟩)
     ·exact .inr ⟨.inl rfl,by omega⟩
     ·exact .inl q
     ·exact .inr ⟨.inr q,r⟩
    ·rintro (q | ⟨q | q,r⟩)
     ·exact .inr (.inl q)
     ·exact .inl q
     ·exact .inr (.inr ⟨q,r⟩)
  | false =>
   have hi:rIdx (a :: l) e.set e.kind = 0:=by unfold rIdx;rw [List.takeWhile_cons,if_neg (by rw [hb];decide)];rfl
   have hh:rHit (a :: l) e.set e.kind = isK e.set e.kind a:=by unfold rHit;rw [hi];rfl
   rw [lt_pl he hoa,decide_eq_false_iff_not] at hb
   have hp:isK e.set e.kind a = decide (pl a = pl e):=by
    rw [Bool.eq_iff_iff,Yq,decide_eq_true_eq]
    constructor
    ·rintro ⟨e1,e2⟩;unfold pl;omega
    ·intro q;obtain ⟨e1,e2⟩:=Zbb hoa he q;omega
   unfold rWith;rw [hi,hh,hp];by_cases hq:pl a = pl e
   ·rw [decide_eq_true hq,if_pos rfl]
    show (e :: l).Pairwise _∧∀ x,x ∈ e :: l ↔ _
    refine ⟨List.pairwise_cons.2 ⟨fun x hx=>by have:=h1 x hx;omega,h2⟩,fun x=>?_⟩;rw [List.mem_cons,List.mem_cons]
    constructor
    ·rintro (q | q)
     ·exact .inl q
     ·exact .inr ⟨.inr q,by have:=h1 x q;omega⟩
    ·rintro (q | ⟨rfl | q,r⟩)
     ·exact .inl q
     ·exact absurd hq r
     ·exact .inr q
   ·rw [decide_eq_false hq,if_neg (by decide)]
    show (e :: a :: l).Pairwise _∧∀ x,x ∈ e :: a :: l ↔ _
    refine ⟨List.pairwise_cons.2 ⟨fun x hx=>?_,hl⟩,fun x=>?_⟩
    ·rcases List.mem_cons.1 hx with rfl | hx
     ·omega
     ·have:=h1 x hx;omega
    ·rw [List.mem_cons,List.mem_cons]
     constructor
     ·rintro (q | rfl | q)
      ·exact .inl q
      ·exact .inr ⟨.inl rfl,hq⟩
      ·exact .inr ⟨.inr q,by have:=h1 x q;omega⟩
     ·rintro (q | ⟨q,r⟩)
      ·exact .inl q
      ·exact .inr q
theorem Zfh {f:Items} {e x:KEn}:set1 f (64 + pl e,some (kB e)) (64 + pl x) = if pl x = pl e then some (kB e) else f (64 + pl x):=by
 unfold set1;by_cases q:pl x = pl e
 ·rw [if_pos (by rw [q]),if_pos q]
 ·rw [if_neg (by omega),if_neg q]
theorem YU {f:Items} (h:KIt f) {e:KEn} (he:KOk e):kl (set1 f (64 + pl e,some (kB e))) = rWith (kl f) e:=by
 obtain ⟨h1,h2⟩:=Zfg (kl_KL h) he;refine YT (kl_KL (h.set he)).srt h1 fun x=>?_;rw [Zx (h.set he),h2 x,Zx h,Zfh]
 constructor
 ·rintro ⟨a,b⟩
  split at b
  ·rename_i q
   simp only [Option.some.injEq] at b;refine .inl ?_;rw [← a.back,← he.back,q,b]
  ·rename_i q;exact .inr ⟨⟨a,b⟩,q⟩
 ·rintro (rfl | ⟨⟨a,b⟩,q⟩)
  ·exact ⟨he,if_pos rfl⟩
  ·exact ⟨a,by rw [if_neg q];exact b⟩
def inS (s:Int) (e:KEn):Bool:=decide ((e.set:Int) = s)
def rDel (l:List KEn) (s:Int):List KEn:=l.filter fun e=>!inS s e
theorem KL.filter {l:List KEn} (h:KL l) (p:KEn→Bool):KL (l.filter p):=⟨h.srt.filter _,fun e he=>h.ok e (List.mem_filter.1 he).1⟩
def six:List Nat:=[1,2,3,4,5,6]
def pKinds (l:List KEn) (s:Int):List Nat:=six.filter fun k=>(kfind l s (k:Int)).isSome
def pInfo (l:List KEn) (s:Int):List KEn:=six.filterMap fun (k:Nat)=>kfind l s (k:Int)
def rInfo (l:List KEn) (s:Int):List KEn:=l.filter (inS s)
theorem Zbc {k:Nat}:k ∈ six ↔ 1≤k∧k≤6:=by
 unfold six;simp only [List.mem_cons,List.not_mem_nil,or_false];omega
theorem Zbd {l:List KEn} (h:KL l) (s:Int):pInfo l s = rInfo l s:=by
 refine YT ?_ (h.filter _).srt fun e=>?_
 ·unfold pInfo;rw [List.pairwise_filterMap]
  refine List.Pairwise.imp ?_ (show six.Pairwise (· < ·) by decide)
  intro a b hab x hx y hy;obtain ⟨-,x1,x2⟩:=Zt hx;obtain ⟨-,y1,y2⟩:=Zt hy;unfold pl;omega
 ·unfold pInfo rInfo inS;rw [List.mem_filterMap,List.mem_filter,decide_eq_true_eq]
  constructor
  ·rintro ⟨k,-,q⟩;obtain ⟨a,b,-⟩:=Zt q;exact ⟨a,b⟩
  ·rintro ⟨a,rfl⟩;obtain ⟨-,-,k1,k6,-⟩:=h.ok e a;exact ⟨e.kind,Zbc.2 ⟨k1,k6⟩,h.find a⟩
theorem Zfi (l:List KEn) (s:Int):(rDel l s).length = l.length ↔ rInfo l s = []:=by
 unfold rDel rInfo;rw [List.filter_eq_nil_iff]
 constructor
 ·intro q e he;have:=List.length_filter_eq_length_iff.1 q e he;simpa using this
 ·intro q;rw [List.length_filter_eq_length_iff];intro e he;have:=q e he;simpa using this
def dels (s:Int) (ks:List Nat):List Rec:=ks.map fun k=>(64 + (8 * s.toNat + k),Option.none)
theorem XN:∀ (ks:List Nat) (f:Items) (s:Int) (k:Nat),sets f (dels s ks) k = if k ∈ ks.map (fun j=>64 + (8 * s.toNat + j)) then none else f k
 | [],f,s,k=>by simp [dels,sets]
 | j :: ks,f,s,k=>by
  have ih:=XN ks (set1 f (64 + (8 * s.toNat + j),Option.none)) s k
  show sets (set1 f (64 + (8 * s.toNat + j),Option.none)) (dels s ks) k = _
  rw [ih,List.map_cons];by_cases q:k ∈ ks.map (fun j=>64 + (8 * s.toNat + j))
  ·rw [if_pos q,if_pos (List.mem_cons_of_mem _ q)]
  ·rw [if_neg q];unfold set1;by_cases e:k = 64 + (8 * s.toNat + j)
   ·rw [if_pos e,if_pos (by rw [e];exact List.mem_cons_self ..)]
   ·rw [if_neg e,if_neg (fun q'=>by
     rcases List.mem_cons.1 q' with q' | q'
     ·exact e q'
     ·exact q q')]
theorem KIt.dels:∀ (ks:List Nat) {f:Items} (s:Int),KIt f→KIt (sets f (dels s ks))
 | [],_,_,h=>h
 | k :: ks,f,s,h=>KIt.dels ks s (h.del (64 + (8 * s.toNat + k)))
theorem ZL {l:List KEn} (h:KL l) {s:Int} {k:Nat}:k ∈ pKinds l s ↔ ∃ e ∈ l,(e.set:Int) = s∧e.kind = k:=by
 unfold pKinds;rw [List.mem_filter,Zbc,Option.isSome_iff_exists]
 constructor
 ·rintro ⟨-,e,he⟩;obtain ⟨a,b,c⟩:=Zt he;exact ⟨e,a,b,by omega⟩
 ·rintro ⟨e,a,rfl,rfl⟩;obtain ⟨-,-,k1,k6,-⟩:=h.ok e a;exact ⟨⟨k1,k6⟩,e,h.find a⟩
theorem Zfj {f:Items} (h:KIt f) (s:Int):kl (sets f (dels s (pKinds (kl f) s))) = rDel (kl f) s:=by
 have hL:=kl_KL h;refine YT (kl_KL (KIt.dels _ s h)).srt (hL.filter _).srt fun x=>?_;unfold rDel inS;rw [Zx (KIt.dels _ s h),List.mem_filter,Zx h,XN]
 constructor
 ·rintro ⟨a,b⟩
  split at b
  ·cases b
  ·rename_i q
   refine ⟨⟨a,b⟩,?_⟩;rw [Bool.not_eq_true',decide_eq_false_iff_not];intro e
   apply q
   rw [List.mem_map];exact ⟨x.kind,(ZL hL).2 ⟨x,(Zx h).2 ⟨a,b⟩,e,rfl⟩,by unfold pl;omega⟩
 ·rintro ⟨⟨a,b⟩,c⟩;rw [Bool.not_eq_true',decide_eq_false_iff_not] at c;refine ⟨a,?_⟩;rw [if_neg ?_]
  ·exact b
  ·intro q;obtain ⟨k,hk,e⟩:=List.mem_map.1 q;obtain ⟨y,hy,e1,e2⟩:=(ZL hL).1 hk;have hoy:=hL.ok y hy;have:pl x = pl y:=by unfold pl at e ⊢;omega
   have:=Zbb a hoy this;omega
def pSets (l:List KEn):List Nat:=[1,2,3,4,5,6,7,8].filter fun s=>!(pKinds l (s:Int)).isEmpty
def rSets:Option Nat→List KEn→List Nat
 | _,[]=>[]
 | o,e :: l=>if o = some e.set then rSets (some e.set) l else e.set :: rSets (some e.set) l
theorem Zbe:∀ {l m:List Nat},l.Pairwise (· < ·)→m.Pairwise (· < ·)→(∀ e,e ∈ l ↔ e ∈ m)→l = m
 | [],[],_,_,_=>rfl
 | [],b :: m,_,_,h=>by have:=(h b).2 (List.mem_cons_self ..);cases this
 | a :: l,[],_,_,h=>by have:=(h a).1 (List.mem_cons_self ..);cases this
 | a :: l,b :: m,hl,hm,h=>by
  obtain ⟨hl1,hl2⟩:=List.pairwise_cons.1 hl;obtain ⟨hm1,hm2⟩:=List.pairwise_cons.1 hm
  have hab:a = b:=by
   rcases List.mem_cons.1 ((h a).1 (List.mem_cons_self ..)) with q | q
   ·exact q
   rcases List.mem_cons.1 ((h b).2 (List.mem_cons_self ..)) with q' | q'
   ·exact q'.symm
   have h1:=hm1 a q;have h2:=hl1 b q';omega
  subst hab
  congr 1
  refine Zbe hl2 hm2 fun e=>⟨fun q=>?_,fun q=>?_⟩
  ·rcases List.mem_cons.1 ((h e).1 (List.mem_cons_of_mem _ q)) with q' | q'
   ·subst q';have:=hl1 e q;omega
   ·exact q'
  ·rcases List.mem_cons.1 ((h e).2 (List.mem_cons_of_mem _ q)) with q' | q'
   ·subst q';have:=hm1 e q;omega
   ·exact q'
theorem Zbf:∀ {l:List KEn} (o:Option Nat),KL l→(∀ n,o = some n→∀ e ∈ l,n≤e.set)→(rSets o l).Pairwise (· < ·)∧(∀ n,o = some n→∀ x ∈ rSets o l,n < x)∧∀ x,(x ∈ rSets o l ∨ (o = some x∧∃ e ∈ l,e.set = x)) ↔ ∃ e ∈ l,e.set = x
 | [],o,_,_=>⟨List.Pairwise.nil,(fun _ _ x hx=>by cases hx),(fun x=>by simp [rSets])⟩
 | e :: l,o,h,ho=>by
  obtain ⟨h1,h2⟩:=List.pairwise_cons.1 h.srt;have hl:KL l:=⟨h2,fun x hx=>h.ok x (List.mem_cons_of_mem _ hx)⟩
  have hle:∀ x ∈ l,e.set≤x.set:=fun x hx=>by
   have:=h1 x hx;obtain ⟨-,-,a1,a6,-⟩:=h.ok e (List.mem_cons_self ..);obtain ⟨-,-,x1,x6,-⟩:=h.ok x (List.mem_cons_of_mem _ hx);unfold pl at this;omega
  obtain ⟨i1,i2,i3⟩:=Zbf (some e.set) hl fun n hn x hx=>by cases hn;exact hle x hx
  unfold rSets;by_cases q:o = some e.set
  ·rw [if_pos q];refine ⟨i1,fun n hn x hx=>?_,fun x=>?_⟩
   ·rw [q] at hn;cases hn;exact i2 _ rfl x hx
   ·constructor
    ·rintro (r | ⟨-,r⟩)
     ·obtain ⟨y,hy,r⟩:=(i3 x).1 (.inl r);exact ⟨y,List.mem_cons_of_mem _ hy,r⟩
     ·exact r
    ·rintro ⟨y,hy,r⟩;by_cases z:x = e.set
     ·exact .inr ⟨by rw [q,z],y,hy,r⟩
     ·rcases List.mem_cons.1 hy with rfl | hy
      ·exact absurd r.symm z
      ·rcases (i3 x).2 ⟨y,hy,r⟩ with w | ⟨w,-⟩
       ·exact .inl w
       ·cases w;exact absurd rfl z
  ·rw [if_neg q];refine ⟨List.pairwise_cons.2 ⟨fun x hx=>i2 _ rfl x hx,i1⟩,fun n hn x hx=>?_,fun x=>?_⟩
   ·have hne:n≤e.set:=ho n hn e (List.mem_cons_self ..);have:n ≠ e.set:=fun w=>q (by rw [hn,w]);rcases List.mem_cons.1 hx with rfl | hx
    ·omega
    ·have:=i2 _ rfl x hx;omega
   ·constructor
    ·rintro (r | ⟨-,r⟩)
     ·rcases List.mem_cons.1 r with rfl | r
      ·exact ⟨e,List.mem_cons_self ..,rfl⟩
      ·obtain ⟨y,hy,r⟩:=(i3 x).1 (.inl r);exact ⟨y,List.mem_cons_of_mem _ hy,r⟩
     ·exact r
    ·rintro ⟨y,hy,r⟩;refine .inl ?_;rcases List.mem_cons.1 hy with rfl | hy
     ·rw [← r];exact List.mem_cons_self ..
     ·rcases (i3 x).2 ⟨y,hy,r⟩ with w | ⟨w,-⟩
      ·exact List.mem_cons_of_mem _ w
      ·cases w;exact List.mem_cons_self ..
theorem Zfk {l:List KEn} (h:KL l):pSets l = rSets none l:=by
 obtain ⟨i1,-,i3⟩:=Zbf none h fun n hn=>by cases hn
 refine Zbe ?_ i1 fun x=>?_
 ·exact List.Pairwise.filter _ (by decide)
 ·have e1:x ∈ rSets none l ↔ ∃ e ∈ l,e.set = x:=by
   rw [← i3 x];simp
  rw [e1];unfold pSets;rw [List.mem_filter]
  constructor
  ·rintro ⟨-,q⟩;have q:pKinds l (x:Int) ≠ []:=by simpa using q
   obtain ⟨k,hk⟩:=List.exists_mem_of_ne_nil _ q;obtain ⟨e,he,h1,-⟩:=(ZL h).1 hk;exact ⟨e,he,by omega⟩
  ·rintro ⟨e,he,rfl⟩;have ho:=h.ok e he;refine ⟨?_,?_⟩
   ·have:=ho.s1;have:=ho.s8;simp only [List.mem_cons,List.not_mem_nil,or_false];omega
   ·have hm:=(ZL h).2 ⟨e,he,rfl,rfl⟩;have:pKinds l (e.set:Int) ≠ []:=fun q=>by rw [q] at hm;cases hm
    simpa using this
end Ky
end Go.Proofs.YtoehlaeaafalmaaGreat
namespace Go.Proofs.YtoehlaeaafalmaaGreat
open Go.RowKit
open Jn Vn
def VAt.bar (A:VAt) (b:Nat):VAt:={ A with X:=fun k=>A.X k ∨ k = b }
section
variable {w w' : World} {A : VAt} {m : Mem} {P : PAt} {p : PSt} {pc : PC} {J : Nat → Nat} {bank end_ ib : Nat} {lv : Value} {xs : List Vx} {s : VSt}
theorem VRep.bar (h:VRep w A m s) (hm:Mod Nowhere w w') {b:Nat} (hb:w.heap.size≤b) (hb':b < w'.heap.size):VRep w' (A.bar b) m s:=by
 obtain ⟨P,p,pc,J,bank,end_,ib,lv,xs,h⟩:=h.ex;have h1:=h.fresh hm;have hib:=h.im.lt
 exact ⟨⟨P,p,pc,J,bank,end_,ib,lv,xs,⟨h1.jr,⟨h1.of.pb,h1.of.ab,h1.of.hb,h1.of.count,h1.of.frames,h1.of.cuts⟩,h1.st,h1.bk,h1.bv,h1.im,h1.ls,h1.xl,h1.ok,h1.idle,fun e=>by
  rcases e with e | e
  ·exact h.nx e
  ·have e:ib = b:=e
   omega,fun k hk=>by
  rcases hk with e | e
  ·exact h1.xb k e
  ·have e:k = b:=e
   omega⟩⟩⟩
theorem JR.cellJ (h:Jr w A.jb A.M m P p pc) (hO:A.Of P p) {k:Nat} (hk:A.J k):∃ cs T,Blk w k cs T:=by
 rcases hk with (e | e | e) | e | e | e
 ·obtain ⟨fx,hp⟩:=h.pg.rep.bp;rw [hO.pb] at hp;rw [e];exact ⟨_,_,hp⟩
 ·have hp:=h.pg.rep.ba;rw [hO.ab] at hp;rw [e];exact ⟨_,_,hp⟩
 ·have hp:=h.pg.rep.bh;rw [hO.hb] at hp;rw [e];exact ⟨_,_,hp⟩
 ·rw [e];exact ⟨_,_,h.pg.ctx.mem.bm⟩
 ·rw [e];exact ⟨_,_,h.pg.ctx.mem.bw⟩
 ·rw [e];exact ⟨_,_,h.pg.ctx.mem.br⟩
theorem Ze {b:Nat} (hb:∃ es c,w.heap[b]? = some (.map es c)) {cs:List Value} {T:TypeId}:¬ Blk w b cs T:=fun h=>by
 obtain ⟨es,c,e⟩:=hb;have h:w.heap[b]? = some (.cells cs.toArray T (0,0)):=h;rw [e] at h
 cases h
theorem VRep.noMap (h:VRep w A m s) {b:Nat} (hb:∃ es c,w.heap[b]? = some (.map es c)):¬ A.S b:=by
 obtain ⟨P,p,pc,J,bank,end_,ib,lv,xs,h⟩:=h.ex;intro e;rcases e with e | e
 ·rw [e] at hb;exact Ze hb h.bv
 ·obtain ⟨cs,T,hc⟩:=JR.cellJ h.jr h.of e;exact Ze hb hc
theorem VRep.keepX (h:VRep w A m s) {b:Nat} (hm:Mod (fun k=>k = b) w w') (hX:A.X b) (hb:∃ es c,w.heap[b]? = some (.map es c)):VRep w' A m s:=by
 obtain ⟨P,p,pc,J,bank,end_,ib,lv,xs,h⟩:=h.ex
 have hsh:∀ U,Shun (fun k=>k = b) w U:=fun U k e cs hb'=>by
  rw [e] at hb';exact Ze hb hb'
 have hj:∀ k,(k = A.jb ∨ P.S k ∨ A.M.S k)→¬ k = b:=by
  rintro k (e | e) ev
  ·rw [ev] at e;have hbj:=h.jr.bj;rw [← e] at hbj;exact Ze hb hbj
  ·have hJ:A.J k:=by rw [← h.of.J];exact e
   rw [ev] at hJ;obtain ⟨cs,T,hc⟩:=JR.cellJ h.jr h.of hJ;exact Ze hb hc
 exact ⟨⟨P,p,pc,J,bank,end_,ib,lv,xs,⟨h.jr.keep hm hj (h.jr.pg.rep.bf.off (hsh _)),h.of,h.st,h.bk,h.bv.mod hm (fun e=>by
  have hbv:=h.bv;have e:A.vb = b:=e;rw [e] at hbv
  exact Ze hb hbv),h.im.mod hm (fun e=>by
  have e:ib = b:=e
  exact h.nx (by rw [e];exact hX)) (hsh _),h.ls.mod hm (hsh _) (hsh _),h.xl,h.ok,h.idle,h.nx,fun k hk=>Nat.lt_of_lt_of_le (h.xb k hk) hm.size⟩⟩⟩
end
theorem VRep.shunT {w:World} {A:VAt} {m:Mem} {s:VSt} (h:VRep w A m s) {T:TypeId} (hT:T ≠ 146∧T ≠ 3∧T ≠ 119∧T ≠ 198) (hV:T ≠ 104):Shun A.S w T:=by
 obtain ⟨P,p,pc,J,bank,end_,ib,lv,xs,h⟩:=h.ex;exact h.shunS hT hV
theorem VRep.noS {w:World} {A:VAt} {m:Mem} {s:VSt} (h:VRep w A m s) {b:Nat} {cs:List Value} {T:TypeId} (hb:Blk w b cs T) (hT:T ≠ 146∧T ≠ 3∧T ≠ 119∧T ≠ 198) (hV:T ≠ 104):¬ A.S b:=fun e=>h.shunT hT hV b e cs hb
theorem VDead.fresh {w w':World} {A:VAt} {m:Mem} {f:Items} (h:VDead w A m f) (hm:Mod Nowhere w w'):VDead w' A m f:=by
 obtain ⟨P,p,pc_of,J,bank,end_,h1,h2,h3,h4,h5⟩:=h.ex;obtain ⟨b,e,ib,act,lv,hb⟩:=h.bv;exact ⟨⟨P,p,pc_of,J,bank,end_,h1.mod hm (fun _ _=>id) (fun _ _=>id),h2,h3,h4,h5⟩,h.mem.mod hm (fun _ _=>id),h.bj.mod hm (fun e=>e),⟨b,e,ib,act,lv,hb.mod hm (fun e=>e)⟩,h.off⟩
theorem Zfl:laidOutB Tryz.prog = true:=by kernel_rfl
theorem placeRow:(88:TypeId) < Tryz.prog.types.size:=of_decide_eq_true (by kernel_rfl)
theorem placeWide:(match Tryz.prog.underlying 88 with | some (.array _ _) | some (.struct _)=>true | _=>false) = true:=by rw [Tryz.underlying88]
theorem placeLaw:WideMaps.KeyLaw Tryz.prog 88:=deep_law_laid Zfl (m:=2) (by omega) placeRow (by kernel_rfl) placeWide
theorem placeKeyed:Maps.Keyed Tryz.prog 88:=Maps.Keyed.of_law placeLaw
theorem placeType:Tryz.prog.keyType 88 = true:=by kernel_rfl
theorem placeCells:Tryz.prog.cellsOf 88 = 2:=by kernel_rfl
theorem intCells:Tryz.prog.cellsOf 3 = 1:=by kernel_rfl
def I64 (x:Int):Prop:=-9223372036854775808≤x∧x≤9223372036854775807
theorem intLits (d:Nat) (x:Int) (h:I64 x):Tryz.prog.keyLits (d + 1) 3 [.int .i64 x] = some [.int .i64 x]:=by
 obtain ⟨h1,h2⟩:=h;rw [Program.keyLits.eq_def];simp only [Tryz.underlying3];rw [if_pos];refine ⟨trivial,?_⟩;unfold Lit.wf;simp [IntKind.min,IntKind.max,IntKind.signed,IntKind.bits];omega
theorem placeLits (d:Nat) (s k:Int) (hs:I64 s) (hk:I64 k):Tryz.prog.keyLits (d + 2) 88 [.int .i64 s,.int .i64 k] = some [.int .i64 s,.int .i64 k]:=by
 rw [Program.keyLits.eq_def];simp only [Tryz.underlying88,placeCells];rw [if_pos ⟨rfl,by kernel_rfl⟩];simp [intCells,intLits _ _ hs,intLits _ _ hk]
def pkv (s k:Int):Value:=.agg #[.int .i64 s,.int .i64 k]
theorem Zbg (s k:Int) (hs:I64 s) (hk:I64 k):∃ l,keyOf Tryz.prog 88 (pkv s k) = some l:=by
 obtain ⟨d,hd⟩:∃ d,Tryz.prog.types.size + 1 = d + 2:=⟨Tryz.prog.types.size - 1,by have h:(0:Nat) < Tryz.prog.types.size:=Nat.lt_of_le_of_lt (Nat.zero_le _) placeRow;omega⟩;refine ⟨.string (keyBytes [.int .i64 s,.int .i64 k]),?_⟩;unfold keyOf;rw [Tryz.underlying88,placeType]
 have hf:(pkv s k).formed Tryz.prog 88 = true:=by
  unfold pkv;simp [Value.formed,Tryz.underlying88,placeCells]
 have hl:(pkv s k).cells.toList = [.int .i64 s,.int .i64 k]:=rfl;rw [hf,hl,hd,placeLits d s k hs hk]
 rfl
theorem Zfm {s k s' k':Int} {l:Lit} (h:keyOf Tryz.prog 88 (pkv s k) = some l) (h':keyOf Tryz.prog 88 (pkv s' k') = some l):s = s'∧k = k':=by
 have:=placeKeyed.inj h h';unfold pkv at this;simpa using this
structure KMap (w:World) (b n:Nat) (f:Int→Int→Option Value):Prop where
 ex:∃ D:DataW Value,w.ownsMap Tryz.prog 88 tokR b n D∧∀ s k l,keyOf Tryz.prog 88 (pkv s k) = some l→Maps.has D l = (f s k).isSome∧∀ v,f s k = some v→∀ z,D.atKey l z = .held v
section
variable {w w' : World} {b n : Nat} {f g : Int → Int → Option Value} {S : Nat → Prop}
theorem KMap.map (h:KMap w b n f):∃ es c,w.heap[b]? = some (.map es c):=by
 obtain ⟨D,⟨es,clock,h1,_⟩,_⟩:=h.ex;exact ⟨es,clock,h1⟩
theorem KMap.lt (h:KMap w b n f):b < w.heap.size:=h.ex.elim fun _ h=>h.1.lt
theorem KMap.mod (h:KMap w b n f) (hm:Mod S w w') (hb:¬ S b):KMap w' b n f:=by
 obtain ⟨D,⟨es,clock,h1,h2⟩,h3⟩:=h.ex;exact ⟨D,⟨es,clock,(hm.block b (Array.getElem?_eq_some_iff.1 h1).1 hb).trans h1,h2⟩,h3⟩
theorem KMap.fresh (h:KMap w b n f) (hm:Mod Nowhere w w'):KMap w' b n f:=h.mod hm id
theorem KMap.congr (h:KMap w b n f) (e:∀ s k,f s k = g s k):KMap w b n g:=by
 obtain ⟨D,h1,h2⟩:=h.ex;exact ⟨D,h1,fun s k=>by rw [← e s k];exact h2 s k⟩
theorem KMap.made (w:World):KMap (w.alloc (.map #[] 0)) w.heap.size 0 (fun _ _=>none) :=
 ⟨.map [],World.ownsMap_made _ _ _ _,fun s k l hl=>⟨rfl,fun v h=>by cases h⟩⟩
theorem KMap.clear (h:KMap w b n f) (ty:TypeId):∃ w',(Builtin.clear_ #[53] ty #[.map (some b)]).run Tryz.prog w = .ok (.tuple #[]) w'∧KMap w' b 0 (fun _ _=>none)∧Mod (fun j=>j = b) w w':=by
 obtain ⟨es,clock,hb⟩:=h.map;refine ⟨ChangeMaps.setBlock w b (.map #[] clock),?_,⟨.map [],⟨#[],clock,?_,⟨by simp,MapKept.stamped_empty clock,by simp⟩,Nat.le_refl _,rfl⟩,fun s k l hl=>⟨rfl,fun v h=>by cases h⟩⟩,?_⟩
 ·simp [Builtin.clear_,run_underlying Tryz.underlying53,MapKept.run_getObj_map hb,MapKept.run_setObj_map _ hb,Result.andThen]
  rfl
 ·exact ChangeMaps.heap_setBlock_same hb _
 ·exact ⟨rfl,rfl,rfl,by simp [ChangeMaps.setBlock],fun k _ hn=>ChangeMaps.heap_setBlock_other hb _ hn⟩
theorem Zfn {w:World} {ops:Array Oper} {rest:List Oper} {o:Oper} {a:Act} {Q:Exit→Act→World→Prop} (hg:o.guard = none) (m x v:Operand) (t:TypeId) (hop:o.op = Op.mapUpdate t m x v) (e:TypeId) (ht:Tryz.prog.underlying t = some (.map 88 e))
  (b n:Nat) (s k:Int) (f:Int→Int→Option Value) (u:Value) (hm:a.eval m = .map (some b)) (h:KMap w b n f) (hn:n < maxLen) (hx:a.eval x = pkv s k) (hv:a.eval v = u) (hs:I64 s) (hk:I64 k)
  (hK:∀ w',KMap w' b (n + 1) (fun i j=>if i = s∧j = k then some u else f i j)→Mod (fun j=>j = b) w w'→wpList Tryz.prog ops Q rest (a.put o.dst undef) w'):wpList Tryz.prog ops Q (o :: rest) a w:=by
 obtain ⟨D,h1,h2⟩:=h.ex;obtain ⟨l,hkey⟩:=Zbg s k hs hk;refine wpList_mapUpdate_in w hg m x v t hop 88 e placeKeyed ht tokR b n D hm h1 hn (pkv s k) u l hx hv hkey (.held u) [] rfl ?_;intro w' h3 h4;have hD:Maps.IsMap D:=by obtain ⟨es,clock,_,_,_,hD⟩:=h1;exact ⟨_,hD⟩
 refine hK w' ⟨_,h3,fun i j l' hl'=>?_⟩ (Yi h4);by_cases e:i = s∧j = k
 ·obtain ⟨rfl,rfl⟩:=e;rw [if_pos ⟨rfl,rfl⟩];have:l' = l:=by rw [hl'] at hkey;cases hkey;rfl
  subst this;exact ⟨by rw [Maps.has_put_same hD (placeKeyed.key hl')];rfl,fun v' hv' z=>by cases hv';exact Maps.atKey_put_same hD (placeKeyed.key hl') _ _⟩
 ·rw [if_neg e]
  have hne:l' ≠ l:=fun q=>by
   subst q;have:=Zfm hl' hkey;exact e this
  obtain ⟨h5,h6⟩:=h2 i j l' hl';exact ⟨by rw [Maps.has_put_other hne];exact h5,fun v' hv' z=>by rw [Maps.atKey_put_other hne];exact h6 v' hv' z⟩
theorem KMap.look_ok (h:KMap w b n f) {z:Value} (hz:(zeroValue 93).run Tryz.prog w = .ok z w) {s k:Int} (hs:I64 s) (hk:I64 k) :
  (Instr.lookup 53 (.map (some b)) (pkv s k) true).run Tryz.prog w = .ok (.tuple #[(f s k).getD z,.bool (f s k).isSome]) w:=by
 obtain ⟨D,h1,h2⟩:=h.ex;obtain ⟨l,hkey⟩:=Zbg s k hs hk;obtain ⟨v,ps,hrun,hv⟩:=h1.look_ok placeKeyed Tryz.underlying53 hz (zd:=.held z) (zp:=[]) rfl hkey;obtain ⟨h3,h4⟩:=h2 s k l hkey;rw [hrun];have hv':tokR v = some (D.atKey l (.held z),ps):=hv;rw [h3]
 cases hf:f s k with
 | none =>
  rw [hf] at h3;rw [Maps.atKey_of_not_has h3] at hv';simp only [tokR,Option.some.injEq,Prod.mk.injEq,DataW.held.injEq] at hv';rw [hv'.1];rfl
 | some u =>
  rw [h4 u hf] at hv';simp only [tokR,Option.some.injEq,Prod.mk.injEq,DataW.held.injEq] at hv';rw [hv'.1];rfl
end
end Go.Proofs.YtoehlaeaafalmaaGreat
