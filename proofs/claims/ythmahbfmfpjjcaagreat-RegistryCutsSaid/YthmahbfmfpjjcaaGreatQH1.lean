/-
  The reference of the registry: find, issuer, implicit, selectable.
-/
import Derived.Test.YthmahbfmfpjjcaaGreatQH9
set_option linter.unusedVariables false
set_option linter.unusedSimpArgs false
set_option maxHeartbeats 4000000
set_option maxRecDepth 100000
namespace Go.Proofs.YthmahbfmfpjjcaaGreat
open Go.RowKit
open Jn Vn Rg
attribute [local go_sem] Oper.semAt_some
namespace Rg
def idxI (L:List En) (a:List Nat):Int:=match L.findIdx? (isAid a) with
 | some i=>(i:Int)
 | none=>-1
theorem ZfE {p:En→Bool} {L:List En} {k:Nat} (h:(L.take k).any p = false) (hk:k < L.length) (hp:p L[k] = true):L.findIdx? p = some k:=by
 rw [List.findIdx?_eq_some_iff_getElem];refine ⟨hk,hp,fun j hj=>?_⟩
 have h1:=List.any_eq_false.1 h L[j] (by
  rw [List.mem_iff_getElem]
  exact ⟨j,by rw [List.length_take];omega,List.getElem_take⟩)
 exact h1
theorem ZfF {p:En→Bool} {L:List En} (h:L.any p = false):L.findIdx? p = none:=by
 rw [List.findIdx?_eq_none_iff];intro x hx;have:=List.any_eq_false.1 h x hx
 cases hq:p x with
 | true=>exact absurd hq this
 | false=>rfl
theorem Zbj {L:List En} {a:List Nat} {k:Nat} (h:L.findIdx? (isAid a) = some k):idxI L a = k∧∃ hk:k < L.length,rFind L a = some L[k]∧L[k].aid = a:=by
 refine ⟨by unfold idxI;rw [h],?_⟩;obtain ⟨hk,hp,hno⟩:=List.findIdx?_eq_some_iff_getElem.1 h;refine ⟨hk,?_,by unfold isAid at hp;simpa using hp⟩;unfold rFind;rw [List.find?_eq_some_iff_getElem];exact ⟨hp,k,hk,rfl,fun j hj=>by have:=hno j hj;simpa using this⟩
theorem Zbk {L:List En} {a:List Nat} (h:L.findIdx? (isAid a) = none):idxI L a = -1∧rFind L a = none:=by
 refine ⟨by unfold idxI;rw [h],?_⟩;unfold rFind;rw [List.find?_eq_none];intro x hx;have:=List.findIdx?_eq_none_iff.1 h x hx;rw [this]
 decide
end Rg
theorem ZI {w:World} {va:Option Addr} {vc:Nat} {L:List En} (h:EL w va vc L) (hi:RInv L) {t:Value} {a:List Nat} (ht:Src w t a) (ba:Bytes a) (la:a.length≤1000) :
  Calls Tryz.prog 81 #[.agg #[.slice va L.length vc],t] w fun e w'=>e = .returned (.int .i64 (idxI L a))∧Mod Nowhere w w':=by
 obtain ⟨ec1,ec2⟩:=h.len0;have h32:=hi.len;have hm1:=m1 w [.slice va L.length vc] 52;have hB:=blk_a (w:=w) [.slice va L.length vc] 52
 have hS:∀ k (hk:k < L.length) b off a1 c1 a2 c2,va = some ⟨b,off,none⟩→(∀ X,Mod Nowhere w X→DSl X (.slice a1 L[k].aid.length c1) L[k].aid∧DSl X (.slice a2 L[k].dom.length c2) L[k].dom)→∀ X,Mod Nowhere w X→Calls Tryz.prog 41 #[.slice a1 L[k].aid.length c1,t] X fun e w'=>e = .returned (.bool (isAid a L[k]))∧Mod Nowhere X w':=fun k hk b off a1 c1 a2 c2 _ hd X hm=>by
  have hok:=hi.ok L[k] (List.getElem_mem hk);have:=hok.a16;exact ZW (hd X hm).1.src (ht.fresh hm) hok.ba ba (by omega) (by omega)
 obtain ⟨ta,tc,rfl,-⟩:=id ht;generalize a.length = n at *;refine hid5 ?_ h hB hS hm1 ht;clear h hB hS hm1 ht;intro h hB hS hm1 ht;go_enter Tryz.func81,Tryz.ntmps81;go_wp2
 go_loopw [5] (fun i wr=>∃ k:Nat,k≤L.length∧i = .int .i64 k∧(L.take k).any (isAid a) = false∧Mod Nowhere (w.alloc (.cells #[.slice va L.length vc] 52)) wr) (fun i _=>L.length - (intOf i).toNat)
 case atStart=>exact ⟨0,by omega,rfl,rfl,Mod.refl _ _⟩
 case round =>
  obtain ⟨k,hk,rfl,hno,hm⟩:=hrel;have x0:=(hB.out wr hm).cell 0;have xl:=(hB.out wr hm).lt;simp only [gz0] at x0;have hmw:=hm1.out.trans hm;by_cases hlt:k < L.length
  ·have hki:(k:Int) < (L.length:Int):=by omega
   obtain ⟨b,off,a1,c1,a2,c2,rfl,-,-,hce⟩:=h.out.ce hlt;obtain ⟨⟨q0,q1,q2,q3,q4,q5,q6,q7,ql⟩,D1,D2⟩:=hce wr hmw;have hC:=hS.out k hlt b off a1 c1 a2 c2 rfl (fun X hm=>(hce X hm).2) wr hmw;have htk:(L.take (k + 1)).any (isAid a) = ((L.take k).any (isAid a) || isAid a L[k]):=by rw [List.take_succ_eq_append_getElem hlt,List.any_append];simp only [List.any_cons,List.any_nil,Bool.or_false]
   have hfd:isAid a L[k] = true→idxI L a = k:=fun hp=>(Zbj (ZfE hno hlt hp)).1;obtain ⟨q,hq⟩:∃ q,isAid a L[k] = q:=⟨_,rfl⟩;rw [hq] at hC htk hfd;generalize L[k].aid.length = n1 at *;generalize L[k].dom.length = n2 at *;generalize L[k].kind = e1 at *;generalize L[k].st = e2 at *;generalize L[k].bf = e3 at *;generalize L[k].pr = e4 at *;generalize L[k].pk = e5 at *;generalize L[k].ob = e6 at *;clear q1 q2 q3 q4 q5 q6 q7;refine hid10 ?_ hC htk hfd hq D1 D2 hce hm hmw hno;clear hC htk hfd hq D1 D2 hce hm hmw hno;intro hC htk hfd hq D1 D2 hce hm hmw hno;go_wp2_with fail;refine hC.out.mono ?_;rintro r w1 ⟨rfl,hm2⟩
   cases q
   ·have hfin:=htk.out;rw [hno.out] at hfin;refine hid2 ?_ hm2 hfin;clear hm2 hfin;intro hm2 hfin;go_wp2;go_roundw
    case rel=>exact ⟨k + 1,by omega,by go_num,hfin.out,hm.out.trans hm2.out⟩
    case measure=>simp [intOf];omega
   ·have hfin:=hfd.out rfl;refine hid2 ?_ hm2 hfin;clear hm2 hfin;intro hm2 hfin;go_wp2;go_ret;exact ⟨Zf hfin.out.symm,hmw.out.trans hm2.out⟩
  ·have hki:¬ (k:Int) < (L.length:Int):=by omega
   have hke:L.take k = L:=List.take_of_length_le (by omega);rw [hke] at hno;have hfin:=(Zbk (ZfF hno)).1;refine hid4 ?_ hno hfin hm hmw;clear hno hfin hm hmw;intro hno hfin hm hmw;go_wp2;go_ret;exact ⟨Zf hfin.out.symm,hmw.out⟩
theorem XT {w:World} {u v:Value} {e:REn} (h:InE w u v e) (l1:e.aid.length≤1000) (l2:e.dom.length≤1000) :
  Calls Tryz.prog 112 #[.agg (eCells u v e).toArray] w fun r w'=>r = .returned (.bool (decide (e.kind = 1) && decide (e.aid = e.dom)))∧Mod Nowhere w w':=by
 have hS:∀ X,Mod Nowhere w X→Calls Tryz.prog 41 #[u,v] X fun r w'=>r = .returned (.bool (decide (e.aid = e.dom)))∧Mod Nowhere X w':=fun X hm=>ZW (h.sa.fresh hm) (h.sd.fresh hm) h.ba h.bd (by omega) (by omega);have hA:=m1 w (eCells u v e) 24;have hC:=hS _ hA;clear hS;obtain ⟨a1,c1,rfl,-⟩:=h.sa;obtain ⟨a2,c2,rfl,-⟩:=h.sd;clear h;obtain ⟨k,st,bf,pr,pk,ob,aid,dom⟩:=e;generalize decide (aid = dom) = q at *;unfold eCells at *;dsimp only at *;generalize aid.length = n1 at *;generalize dom.length = n2 at *;by_cases hk:k = 1
 ·have hkb:(k == 1) = true:=by simp [hk]
  rw [decide_eq_true hk];refine hid3 ?_ hC hA hk;clear hC hA hk;intro hC hA hk;go_enter Tryz.func112,Tryz.ntmps112;go_wp2_with fail;refine (hC.out).mono ?_;rintro e w1 ⟨rfl,hm⟩;go_wp2;go_ret;exact ⟨Za (by simp),hA.out.trans hm⟩
 ·have hkb:(k == 1) = false:=by simpa using hk
  rw [decide_eq_false hk];refine hid3 ?_ hC hA hk;clear hC hA hk;intro hC hA hk;go_enter Tryz.func112,Tryz.ntmps112;go_wp2;go_ret;exact ⟨rfl,hA.out⟩
theorem XU {w:World} {u v:Value} {e:En} (h:CE w u v e):Calls Tryz.prog 115 #[.agg (eCells u v e.raw).toArray] w fun r w'=>r = .returned (.bool (isImp e))∧Mod Nowhere w w':=by
 have hA:=m1 w (eCells u v e.raw) 24;have hp:=h.ok.p31;obtain ⟨a1,c1,rfl,-⟩:=h.inE.sa;obtain ⟨a2,c2,rfl,-⟩:=h.inE.sd;clear h;obtain ⟨k,st,bf,pr,pk,ob,aid,dom⟩:=e;have hr:decide ((1:Int)≤(pr:Int) % 2) = decide (pr % 2 = 1):=decide_eq_decide.2 (by omega);unfold isImp;dsimp only [En.raw] at *;unfold eCells at *;dsimp only at *;generalize aid.length = n1 at *;generalize dom.length = n2 at *;generalize decide (pr % 2 = 1) = q at *;replace hA:=Lib.hid hA;go_enter Tryz.func115,Tryz.ntmps115;go_wp2;go_ret;exact ⟨Za (by first | rfl | simpa using hr),hA.out⟩
end Go.Proofs.YthmahbfmfpjjcaaGreat
namespace Go.Proofs.YthmahbfmfpjjcaaGreat
open Go.RowKit
open Jn Vn Rg
namespace Rg
theorem Yi (p:En→Bool) {L:List En} {k:Nat} (hk:k < L.length):(L.take (k + 1)).any p = ((L.take k).any p || p L[k]):=by
 rw [List.take_succ_eq_append_getElem hk,List.any_append];simp only [List.any_cons,List.any_nil,Bool.or_false]
theorem Yj {p:En→Bool} {L:List En} {k:Nat} (hk:k < L.length) (h:p L[k] = true):L.any p = true:=List.any_eq_true.2 ⟨L[k],List.getElem_mem hk,h⟩
theorem YK:∀ {L:List En} {e:En} {k:Nat} (_:∀ x ∈ L.take k,ltB x.aid e.aid = true) (_:∀ h:k < L.length,ltB L[k].aid e.aid = false),ins e L = L.take k ++ e :: L.drop k
 | [],e,k,_,_=>by unfold ins;simp
 | x :: xs,e,0,_,h2=>by
  have hx:ltB x.aid e.aid = false:=h2 (by simp);unfold ins;rw [List.takeWhile_cons_of_neg (by simp [hx]),List.dropWhile_cons_of_neg (by simp [hx])]
  rfl
 | x :: xs,e,k + 1,h1,h2=>by
  have hx:ltB x.aid e.aid = true:=h1 x (by simp);have ih:=YK (L:=xs) (e:=e) (k:=k) (fun y hy=>h1 y (by simp [hy])) (fun h=>h2 (by simpa using h));unfold ins at ih ⊢;rw [List.takeWhile_cons_of_pos (by simpa using hx),List.dropWhile_cons_of_pos (by simpa using hx),List.cons_append,ih]
  rfl
theorem Zbl {l:List En} (h:l.Pairwise fun a b=>ltB a.aid b.aid = true) {i k:Nat} (hi:i < l.length) (hk:k < l.length) (e:l[i].aid = l[k].aid):i = k:=by
 rcases Nat.lt_trichotomy i k with g | g | g
 ·have:=List.pairwise_iff_getElem.1 h i k hi hk g;rw [e,ZS] at this;cases this
 ·exact g
 ·have:=List.pairwise_iff_getElem.1 h k i hk hi g;rw [e,ZS] at this;cases this
theorem ZfG {L:List En} (h:RInv L) {k:Nat} (hk:k < L.length) {e':En} (ea:e'.aid = L[k].aid):repl L e' = L.set k e':=by
 apply List.ext_getElem
 ·unfold repl;rw [List.length_map,List.length_set]
 ·intro i h1 h2;have hl:i < (L.map fun x=>if x.aid = e'.aid then e' else x).length:=h1
  show (L.map fun x=>if x.aid = e'.aid then e' else x)[i] = _
  rw [List.getElem_set,List.getElem_map];have hi:i < L.length:=by rw [List.length_set] at h2;exact h2
  by_cases hik:k = i
  ·subst hik;rw [if_pos ea.symm,if_pos rfl]
  ·rw [if_neg (fun e=>hik (Zbl h.srt hi hk (e.trans ea)).symm),if_neg hik]
def keepN (L:List En) (a:List Nat) (k:Nat):List En:=(L.take k).filter fun x=>!isAid a x
theorem ZfH {L:List En} {a:List Nat} {k:Nat} (hk:k < L.length) (e:L[k].aid = a):keepN L a (k + 1) = keepN L a k:=by
 unfold keepN;have:isAid a L[k] = true:=by unfold isAid;simp [e]
 rw [List.take_succ_eq_append_getElem hk,List.filter_append,List.filter_cons_of_neg (by rw [this];decide),List.filter_nil,List.append_nil]
theorem ZfI {L:List En} {a:List Nat} {k:Nat} (hk:k < L.length) (e:L[k].aid ≠ a):keepN L a (k + 1) = keepN L a k ++ [L[k]]:=by
 unfold keepN;have:isAid a L[k] = false:=by unfold isAid;simp [e]
 rw [List.take_succ_eq_append_getElem hk,List.filter_append,List.filter_cons_of_pos (by rw [this];decide),List.filter_nil]
theorem ZfJ {L:List En} (a:List Nat) {k:Nat} (hk:L.length≤k):keepN L a k = L.filter fun x=>!isAid a x:=by
 unfold keepN;rw [List.take_of_length_le hk]
def depR (on e:En):Bool:=decide (e.dom = on.aid) || (decide (e.kind = 2) && decide (on.kind = 3) && decide (e.pk = on.pk))
theorem ZfK {on e:En} (h:e.aid ≠ on.aid):dep on e = depR on e:=by unfold dep depR;simp [h]
theorem ZfL {on e:En} (h:e.aid = on.aid):dep on e = false:=by unfold dep;simp [h]
theorem ZJ {L:List En} {a:List Nat}:(idxI L a = -1∧rFind L a = none) ∨ ∃ (k:Nat) (hk:k < L.length),idxI L a = (k:Int)∧rFind L a = some L[k]∧L[k].aid = a:=by
 cases h:L.findIdx? (isAid a) with
 | none=>exact .inl (Zbk h)
 | some k =>
  obtain ⟨h1,hk,h2,h3⟩:=Zbj h;exact .inr ⟨k,hk,h1,h2,h3⟩
theorem ZfM {p:En→Bool} {L:List En} {k:Nat} (h:(L.take k).any p = false) (hk:k < L.length) (hp:p L[k] = true):L.find? p = some L[k]:=by
 rw [List.find?_eq_some_iff_getElem];refine ⟨hp,k,hk,rfl,fun j hj=>?_⟩
 have h1:=List.any_eq_false.1 h L[j] (by
  rw [List.mem_iff_getElem]
  exact ⟨j,by rw [List.length_take];omega,List.getElem_take⟩)
 simpa using h1
theorem ZfN {p:En→Bool} {L:List En} (h:L.any p = false):L.find? p = none:=by
 rw [List.find?_eq_none];intro x hx;have:=List.any_eq_false.1 h x hx;simpa using this
end Rg
end Go.Proofs.YthmahbfmfpjjcaaGreat
namespace Go.Proofs.YthmahbfmfpjjcaaGreat
open Go.RowKit
open Jn Vn Rg
attribute [local go_sem] Oper.semAt_some
theorem XV {w:World} {va:Option Addr} {vc:Nat} {L:List En} (h:EL w va vc L) (hi:RInv L) {t:Value} {a:List Nat} (ht:Src w t a) (ba:Bytes a) (la:a.length≤1000) :
  Calls Tryz.prog 113 #[.agg #[.slice va L.length vc],t] w fun e w'=>e = .returned (.bool (L.any (isDom a)))∧Mod Nowhere w w':=by
 obtain ⟨ec1,ec2⟩:=h.len0;have hm1:=m1 w [.slice va L.length vc] 52;have hB:=blk_a (w:=w) [.slice va L.length vc] 52;have hF:=ZI (h.fresh hm1) hi (ht.fresh hm1) ba la;have hd:=Zbh hi a;obtain ⟨ta,tc,rfl,-⟩:=id ht;rcases ZJ (L:=L) (a:=a) with ⟨h1,h2⟩ | ⟨k,hk,h1,h2,-⟩
 ·rw [h1] at hF;rw [h2] at hd;have hd:L.any (isDom a) = false:=hd;rw [hd];clear h1 h2;generalize a.length = n at *;refine hid6 ?_ h hB hF hm1 ht hd;clear h hB hF hm1 ht hd;intro h hB hF hm1 ht hd;go_enter Tryz.func113,Tryz.ntmps113;go_wp2_with fail;refine (hF.out).mono ?_;rintro e w1 ⟨rfl,hm⟩;go_wp2;go_ret;exact ⟨rfl,hm1.out.trans hm⟩
 ·rw [h1] at hF;rw [h2] at hd;have hd:L.any (isDom a) = decide (L[k].kind = 1):=hd;rw [hd];clear h1 h2;obtain ⟨b,off,a1,c1,a2,c2,rfl,-,-,hce⟩:=h.ce hk;have kb:((L[k].kind:Int) == 1) = decide (L[k].kind = 1):=by by_cases hq:L[k].kind = 1 <;> simp [hq];omega
  have hki:(k:Int) < (L.length:Int):=by omega
  generalize L[k].aid.length = n1 at *;generalize L[k].dom.length = n2 at *;generalize L[k].kind = e1 at *;generalize L[k].st = e2 at *;generalize L[k].bf = e3 at *;generalize L[k].pr = e4 at *;generalize L[k].pk = e5 at *;generalize L[k].ob = e6 at *;generalize decide (e1 = 1) = q at *;generalize a.length = n at *;refine hid7 ?_ h hB hF hm1 ht hd hce;clear h hB hF hm1 ht hd hce;intro h hB hF hm1 ht hd hce;go_enter Tryz.func113,Tryz.ntmps113;go_wp2_with fail;refine (hF.out).mono ?_;rintro e w1 ⟨rfl,hm⟩;have hmw:=hm1.out.trans hm;obtain ⟨⟨q0,q1,q2,q3,q4,q5,q6,q7,ql⟩,-,-⟩:=hce.out w1 hmw;have x0:=(hB.out w1 hm).cell 0
  have xl:=(hB.out w1 hm).lt;simp only [gz0] at x0;clear q0 q2 q3 q4 q5 q6 q7;refine hid2 ?_ hm hmw;clear hm hmw;intro hm hmw;go_wp2;go_ret;exact ⟨Za (by simp),hmw.out⟩
theorem Zbm {w:World} {va:Option Addr} {vc:Nat} {L:List En} (h:EL w va vc L) (h32:L.length≤32) (n:Nat) :
  Calls Tryz.prog 114 #[.agg #[.slice va L.length vc],.int .i64 n] w fun e w'=>e = .returned (.bool (L.any (isPak n)))∧Mod Nowhere w w':=by
 obtain ⟨ec1,ec2⟩:=h.len0;have hm1:=m1 w [.slice va L.length vc] 52;have hB:=blk_a (w:=w) [.slice va L.length vc] 52;refine hid3 ?_ h hB hm1;clear h hB hm1;intro h hB hm1;go_enter Tryz.func114,Tryz.ntmps114;go_wp2
 go_loopw [5] (fun i wr=>∃ k:Nat,k≤L.length∧i = .int .i64 k∧(L.take k).any (isPak n) = false∧Mod Nowhere (w.alloc (.cells #[.slice va L.length vc] 52)) wr) (fun i _=>L.length - (intOf i).toNat)
 case atStart=>exact ⟨0,by omega,rfl,rfl,Mod.refl _ _⟩
 case round =>
  obtain ⟨k,hk,rfl,hno,hm⟩:=hrel;have x0:=(hB.out wr hm).cell 0;have xl:=(hB.out wr hm).lt;simp only [gz0] at x0;have hmw:=hm1.out.trans hm;by_cases hlt:k < L.length
  ·have hki:(k:Int) < (L.length:Int):=by omega
   obtain ⟨b,off,a1,c1,a2,c2,rfl,-,-,hce⟩:=h.out.ce hlt;obtain ⟨⟨q0,q1,q2,q3,q4,q5,q6,q7,ql⟩,D1,D2⟩:=hce wr hmw;have htk:=Yi (isPak n) hlt;rw [hno,Bool.false_or] at htk;have hfd:isPak n L[k] = true→L.any (isPak n) = true:=fun hp=>Yj hlt hp;have hq:isPak n L[k] = (decide (L[k].kind = 3) && decide (L[k].pk = n)):=rfl;rw [hq] at htk hfd;clear hq;have kb:((L[k].kind:Int) == 3) = decide (L[k].kind = 3):=by by_cases hq:L[k].kind = 3 <;> simp [hq];omega
   have pb:((L[k].pk:Int) == (n:Int)) = decide (L[k].pk = n):=by by_cases hq:L[k].pk = n <;> simp [hq];omega
   generalize L[k].aid.length = n1 at *;generalize L[k].dom.length = n2 at *;generalize L[k].kind = e1 at *;generalize L[k].st = e2 at *;generalize L[k].bf = e3 at *;generalize L[k].pr = e4 at *;generalize L[k].pk = e5 at *;generalize L[k].ob = e6 at *;generalize decide (e1 = 3) = b1 at *;generalize decide (e5 = n) = b2 at *;clear q0 q2 q3 q4 q5 q7 D1 D2;refine hid6 ?_ htk hfd hce hm hmw hno;clear htk hfd hce hm hmw hno;intro htk hfd hce hm hmw hno
   cases b1
   ·have hfin:=htk.out;replace hfin:=Lib.hid hfin;go_wp2;go_roundw
    case rel=>exact ⟨k + 1,by omega,by go_num,hfin.out,hm.out⟩
    case measure=>simp [intOf];omega
   ·cases b2
    ·have hfin:=htk.out;replace hfin:=Lib.hid hfin;go_wp2;go_roundw
     case rel=>exact ⟨k + 1,by omega,by go_num,hfin.out,hm.out⟩
     case measure=>simp [intOf];omega
    ·have hfin:=hfd.out rfl;replace hfin:=Lib.hid hfin;go_wp2;go_ret;exact ⟨Za hfin.out.symm,hmw.out⟩
  ·have hki:¬ (k:Int) < (L.length:Int):=by omega
   have hke:L.take k = L:=List.take_of_length_le (by omega);rw [hke] at hno;refine hid3 ?_ hno hm hmw;clear hno hm hmw;intro hno hm hmw;go_wp2;go_ret;exact ⟨Za hno.out.symm,hmw.out⟩
theorem ZfO {W:World} {u v u' v':Value} {x e:En} (hx:CE W u v x) (he:CE W u' v' e) :
  Calls Tryz.prog 117 #[.agg (eCells u v x.raw).toArray,.agg (eCells u' v' e.raw).toArray] W fun r w'=>r = .returned (.bool (depR e x))∧Mod Nowhere W w':=by
 have l1:=hx.ok.d16;have l2:=he.ok.a16;have hS:∀ W',Mod Nowhere W W'→Calls Tryz.prog 41 #[v,u'] W' fun r w'=>r = .returned (.bool (decide (x.dom = e.aid)))∧Mod Nowhere W' w':=fun W' hm=>ZW (hx.inE.sd.fresh hm) (he.inE.sa.fresh hm) hx.inE.bd he.inE.ba (by show x.dom.length≤_;omega) (by show e.aid.length≤_;omega);unfold depR;obtain ⟨a1,c1,rfl,-⟩:=hx.inE.sa;obtain ⟨a2,c2,rfl,-⟩:=hx.inE.sd;obtain ⟨a3,c3,rfl,-⟩:=he.inE.sa;obtain ⟨a4,c4,rfl,-⟩:=he.inE.sd;clear hx he;generalize decide (x.dom = e.aid) = b5 at *;obtain ⟨k,st,bf,pr,pk,ob,aid,dom⟩:=x;obtain ⟨k',st',bf',pr',pk',ob',aid',dom'⟩:=e
 unfold eCells;dsimp only [En.raw] at *;have e1:((k:Int) == 2) = decide (k = 2):=by by_cases hq:k = 2 <;> simp [hq];omega
 have e2:((k':Int) == 3) = decide (k' = 3):=by by_cases hq:k' = 3 <;> simp [hq];omega
 have e3:((pk:Int) == (pk':Int)) = decide (pk = pk'):=by by_cases hq:pk = pk' <;> simp [hq];omega
 generalize decide (k = 2) = b1 at *;generalize decide (k' = 3) = b2 at *;generalize decide (pk = pk') = b3 at *;generalize aid.length = n1 at *;generalize dom.length = n2 at *;generalize aid'.length = n3 at *;generalize dom'.length = n4 at *;have hX:=fun (cs ds:List Value)=>blk_b (w:=W) cs ds 24 24;have m2:=fun (cs ds:List Value)=>m2z W cs ds 24 24;clear l1 l2;refine hid3 ?_ hS m2 hX;clear hS m2 hX;intro hS m2 hX;go_enter Tryz.func117,Tryz.ntmps117;go_wp2_with fail;refine (hS.out _ (m2.out _ _)).mono ?_;rintro r w1 ⟨rfl,hm⟩;obtain ⟨X,Y⟩:=hX.out _ _ _ hm;have x1:=X.cell 1;have x6:=X.cell 6;have y1:=Y.cell 1;have y6:=Y.cell 6;have xl:=X.lt;have yl:=Y.lt
 simp only [gz0,gs0] at x1 x6 y1 y6;have hmw:=(m2.out _ _).trans hm;refine hid4 ?_ X Y hm hmw;clear X Y hm hmw;intro X Y hm hmw
 cases b5
 ·cases b1
  ·go_wp2;go_ret;exact ⟨rfl,hmw.out⟩
  ·cases b2
   ·go_wp2;go_ret;exact ⟨rfl,hmw.out⟩
   ·go_wp2;go_ret;exact ⟨Za (by simp),hmw.out⟩
 ·go_wp2;go_ret;exact ⟨rfl,hmw.out⟩
theorem ZfP {W:World} {u v:Value} {e:En} (h:CE W u v e):Calls Tryz.prog 78 #[.agg (eCells u v e.raw).toArray] W fun r w'=>r = .returned (.bool (isSel e))∧Mod Nowhere W w':=by
 have hA:=m1 W (eCells u v e.raw) 24;obtain ⟨a1,c1,rfl,-⟩:=h.inE.sa;obtain ⟨a2,c2,rfl,-⟩:=h.inE.sd;clear h;obtain ⟨k,st,bf,pr,pk,ob,aid,dom⟩:=e;unfold isSel;unfold eCells at *;dsimp only [En.raw] at *;have e1:((k:Int) != 3) = decide (k ≠ 3):=by by_cases hq:k = 3 <;> simp [hq];omega
 have e2:((st:Int) == 3) = decide (st = 3):=by by_cases hq:st = 3 <;> simp [hq];omega
 have e3:((st:Int) == 4) = decide (st = 4):=by by_cases hq:st = 4 <;> simp [hq];omega
 generalize decide (k ≠ 3) = b1 at *;generalize decide (st = 3) = b2 at *;generalize decide (st = 4) = b3 at *;generalize aid.length = n1 at *;generalize dom.length = n2 at *;replace hA:=Lib.hid hA
 cases b1
 ·go_enter Tryz.func78,Tryz.ntmps78;go_wp2;go_ret;exact ⟨rfl,hA.out⟩
 ·cases b2
  ·go_enter Tryz.func78,Tryz.ntmps78;go_wp2;go_ret;exact ⟨Za (by simp),hA.out⟩
  ·go_enter Tryz.func78,Tryz.ntmps78;go_wp2;go_ret;exact ⟨rfl,hA.out⟩
theorem ZfQ {fn:Func} {p:Tmp} (h:fn.results = #[.cell p 52]) (tmps:Array Value) (w:World) (b:Nat) (c0:Value) (hp:tmps.getD p undef = ptr b) (hb:Blk w b [c0] 52) :
  (results fn tmps).run Tryz.prog w = .ok (.agg #[c0]) w :=
 results_cell_row h _ _ b 52 _ (0,0) _ hp hb Tryz.underlying52 rfl (by kernel_rfl)
theorem ZfR {fn:Func} {p u:Tmp} (h:fn.results = #[.cell p 52,.tmp u]) (tmps:Array Value) (w:World) (b:Nat) (c0:Value) (hp:tmps.getD p undef = ptr b) (hb:Blk w b [c0] 52) :
  (results fn tmps).run Tryz.prog w = .ok (.tuple #[.agg #[c0],tmps.getD u undef]) w:=by
 rw [results_cell_tmp h,hp];have k0:=hb.cell 0;simp only [gz0] at k0
 go_simp
def LPost26 (w:World) (L:List En) (er:Nat) (e:Ending) (w':World):Prop:=∃ va vc,e = .returned (.tuple #[.agg #[.slice va L.length vc],errno er])∧EL w' va vc L∧Mod Nowhere w w'
theorem EL.mod {S:Nat→Prop} {w w':World} {va:Option Addr} {vc:Nat} {L:List En} (h:EL w va vc L) (hm:Mod S w w') (hI:Shun S w 24) (hS:Shun S w 5):EL w' va vc L:=by
 obtain ⟨xs,h1,h2⟩:=h;exact ⟨xs,h1.mod hm hI hS,h2⟩
theorem putS1 {W:World} {b:Nat} {T:TypeId} {c0:Value} (hb:Blk W b [c0] T) (v:Value):Blk (W.setCell ⟨b,0,none⟩ v) b [v] T∧Mod (fun j=>j = b) W (W.setCell ⟨b,0,none⟩ v) :=
 ⟨hb.setCell 0 v,(Mod.refl (fun j=>j = b) W).setCell (p:=⟨b,0,none⟩) (fun _=>rfl) v⟩
theorem s_end {fn:Func} {p u:Tmp} (hfn:fn.results = #[.cell p 52,.tmp u]) {w W:World} {b:Nat} {c0:Value} {va:Option Addr} {vc:Nat} {L:List En} {er:Nat} {R:List En × Nat} {tmps:Array Value} (hR:R = (L,er))
  (hp:tmps.getD p undef = ptr b) (hu:tmps.getD u undef = errno er) (hb:Blk W b [c0] 52) (hwb:w.heap.size≤b) (hel:EL W va vc L) (hm:Mod Nowhere w W) :
  bodyPost Tryz.prog fn (LPost26 w R.1 R.2) .ret ⟨tmps,[]⟩ (W.setCell ⟨b,0,none⟩ (.slice va L.length vc)):=by
 rw [hR];obtain ⟨h1,h2⟩:=putS1 hb (.slice va L.length vc);refine bodyPost_ret (ZfR hfn tmps _ b _ hp h1) rfl ⟨va,vc,by rw [hu],hel.mod h2 (shun1 hb (by decide)) (shun1 hb (by decide)),hm.own h2 hwb⟩
theorem e_end {fn:Func} {p u:Tmp} (hfn:fn.results = #[.cell p 24,.tmp u]) {w W:World} {b:Nat} {o0 o1 o2 o3 o4 o5 o6 o7:Value} {o o':Option En} {v1 v2:Value} {k st bf pr pk ob:Int} {tmps:Array Value}
  (ho:o' = o) (hp:tmps.getD p undef = ptr b) (hu:tmps.getD u undef = .bool o.isSome) (hb:Blk W b [o0,o1,o2,o3,o4,o5,o6,o7] 24) (hwb:w.heap.size≤b) (hm:Mod Nowhere w W)
  (hv:(rOf o).kind = k∧(rOf o).st = st∧(rOf o).bf = bf∧(rOf o).pr = pr∧(rOf o).pk = pk∧(rOf o).ob = ob) (d1:DSl W v1 (rOf o).aid) (d2:DSl W v2 (rOf o).dom) :
  bodyPost Tryz.prog fn (FPost w o') .ret ⟨tmps,[]⟩ ((((((((W.setCell ⟨b,0,none⟩ v1).setCell ⟨b,1,none⟩ (.int .i64 k)).setCell ⟨b,2,none⟩ (.int .i64 st)).setCell ⟨b,3,none⟩ (.int .i64 bf)).setCell ⟨b,4,none⟩ (.int .i64 pr)).setCell ⟨b,5,none⟩ v2).setCell ⟨b,6,none⟩ (.int .i64 pk)).setCell ⟨b,7,none⟩ (.int .i64 ob)):=by
 rw [ho];obtain ⟨rfl,rfl,rfl,rfl,rfl,rfl⟩:=hv;have hb8:=blk8 hb v1 (.int .i64 (rOf o).kind) (.int .i64 (rOf o).st) (.int .i64 (rOf o).bf) (.int .i64 (rOf o).pr) v2 (.int .i64 (rOf o).pk) (.int .i64 (rOf o).ob);unfold put8 at hb8;have hs1:=shun1 (U:=5) hb (by decide);exact bodyPost_ret (ZX hfn _ _ b _ _ _ _ _ _ _ _ hp hb8.1) rfl ⟨_,_,by rw [hu];rfl,DSl.mod d1 hb8.2 hs1,DSl.mod d2 hb8.2 hs1,hm.own hb8.2 hwb⟩
end Go.Proofs.YthmahbfmfpjjcaaGreat
