/-
  The registry, in plain numbers: the error of Add.
-/
import Derived.Test.YthmahbfmfpjjcaaGreatQH2
set_option linter.unusedVariables false
set_option linter.unusedSimpArgs false
set_option maxHeartbeats 16000000
set_option maxRecDepth 100000
namespace Go.Proofs.YthmahbfmfpjjcaaGreat
open Go.RowKit
open Jn Vn Rg
namespace Rg
def addC (tw iss dm ln0 k2 pk k3 im li full:Bool):Nat :=
 if tw = true then 13 else if (!iss && !dm) = true then 12 else if (iss && ln0) = true then 14 else if (k2 && !pk) = true then 12 else if (k3 && pk) = true then 13 else if (im && li) = true then 14 else if full = true then 10 else 0
def addE (l:List En) (e:En):Nat:=addC (l.any (isAid e.aid)) (isIss e) (l.any (isDom e.dom)) (decide (0 < l.length)) (decide (e.kind = 2)) (l.any (isPak e.pk)) (decide (e.kind = 3)) (isImp e) (l.any isImp) (decide (32≤l.length))
theorem ZZ (l:List En) (e:En):(rAdd l e).2 = addE l e∧(addE l e ≠ 0→(rAdd l e).1 = l):=by
 unfold rAdd addE addC;simp only [Bool.and_eq_true,Bool.not_eq_true',decide_eq_true_eq];by_cases c1:l.any (isAid e.aid) = true
 ·rw [if_pos c1,if_pos c1];exact ⟨rfl,fun _=>rfl⟩
 rw [if_neg c1,if_neg c1];by_cases c2:isIss e = false∧l.any (isDom e.dom) = false
 ·rw [if_pos c2,if_pos c2];exact ⟨rfl,fun _=>rfl⟩
 rw [if_neg c2,if_neg c2];by_cases c3:isIss e = true∧0 < l.length
 ·rw [if_pos c3,if_pos c3];exact ⟨rfl,fun _=>rfl⟩
 rw [if_neg c3,if_neg c3];by_cases c4:e.kind = 2∧l.any (isPak e.pk) = false
 ·rw [if_pos c4,if_pos c4];exact ⟨rfl,fun _=>rfl⟩
 rw [if_neg c4,if_neg c4];by_cases c5:e.kind = 3∧l.any (isPak e.pk) = true
 ·rw [if_pos c5,if_pos c5];exact ⟨rfl,fun _=>rfl⟩
 rw [if_neg c5,if_neg c5];by_cases c6:isImp e = true∧l.any isImp = true
 ·rw [if_pos c6,if_pos c6];exact ⟨rfl,fun _=>rfl⟩
 rw [if_neg c6,if_neg c6];by_cases c7:32≤l.length
 ·rw [if_pos c7,if_pos c7];exact ⟨rfl,fun _=>rfl⟩
 rw [if_neg c7,if_neg c7];exact ⟨rfl,fun h=>absurd rfl h⟩
theorem ZbX {l:List En} {e:En} (h:addE l e = 0):(rAdd l e).1 = ins e l:=by
 have h2:=(ZZ l e).1;rw [h] at h2;unfold rAdd at h2 ⊢
 repeat' split at h2
 all_goals first | (simp at h2;done) | skip
 rename_i c1 c2 c3 c4 c5 c6 c7
 rw [if_neg c1,if_neg c2,if_neg c3,if_neg c4,if_neg c5,if_neg c6,if_neg c7]
end Rg
end Go.Proofs.YthmahbfmfpjjcaaGreat
namespace Go.Proofs.YthmahbfmfpjjcaaGreat
open Go.RowKit
open Jn Vn Rg
attribute [local go_sem] Oper.semAt_some
theorem ZbY {X:World} {u v:Value} {e:En} (h:InE X u v e.raw) (l1:e.aid.length≤1000) (l2:e.dom.length≤1000):Calls Tryz.prog 112 #[.agg (eCells u v e.raw).toArray] X fun r w'=>r = .returned (.bool (isIss e))∧Mod Nowhere X w':=by
 have hq:=XT h l1 l2
 have hb:(decide (e.raw.kind = 1) && decide (e.raw.aid = e.raw.dom)) = isIss e:=by
  unfold isIss
  show (decide ((e.kind:Int) = 1) && _) = _
  by_cases e1:e.kind = 1 <;> simp [e1,En.raw]
  omega
 rw [hb] at hq;exact hq
theorem Zg9 {w:World} {va:Option Addr} {vc:Nat} {L:List En} (h:EL w va vc L) (hi:RInv L) {u v:Value} {en:En} (he:EOk en) (hin:InE w u v en.raw) (hni:isIss en = false) :
  Calls Tryz.prog 73 #[.agg #[.slice va L.length vc],.agg (eCells u v en.raw).toArray] w (LPost26 w (rAdd L en).1 (rAdd L en).2):=by
 obtain ⟨ec1,ec2⟩:=h.len0;have h32:=hi.len;have la:en.aid.length≤1000:=by have:=he.a16;omega
 have ld:en.dom.length≤1000:=by have:=he.d16;omega
 have hm1:Mod Nowhere w (((w.alloc (.cells #[.slice va L.length vc] 52)).alloc (.cells (eCells u v en.raw).toArray 24)).alloc (.cells #[.slice none 0 0] 52)):=((m1 w [_] _).trans (m1 _ _ _)).trans (m1 _ [_] _)
 have hBk:∀ X,Mod Nowhere (((w.alloc (.cells #[.slice va L.length vc] 52)).alloc (.cells (eCells u v en.raw).toArray 24)).alloc (.cells #[.slice none 0 0] 52)) X→Blk X (w.heap.size + 2) [.slice none 0 0] 52:=fun X hm=>by
  have:=blk_a (w:=(w.alloc (.cells #[.slice va L.length vc] 52)).alloc (.cells (eCells u v en.raw).toArray 24)) [.slice none 0 0] 52 X hm;simpa using this
 have hK:∀ X,Mod Nowhere (((w.alloc (.cells #[.slice va L.length vc] 52)).alloc (.cells (eCells u v en.raw).toArray 24)).alloc (.cells #[.slice none 0 0] 52)) X→(X.cell? ⟨w.heap.size,0,none⟩ = some (.slice va L.length vc)∧w.heap.size < X.heap.size)∧(X.cell? ⟨w.heap.size + 1,0,none⟩ = some u∧X.cell? ⟨w.heap.size + 1,1,none⟩ = some (.int .i64 en.kind)∧X.cell? ⟨w.heap.size + 1,2,none⟩ = some (.int .i64 en.st)∧X.cell? ⟨w.heap.size + 1,3,none⟩ = some (.int .i64 en.bf)∧X.cell? ⟨w.heap.size + 1,4,none⟩ = some (.int .i64 en.pr)∧X.cell? ⟨w.heap.size + 1,5,none⟩ = some v∧X.cell? ⟨w.heap.size + 1,6,none⟩ = some (.int .i64 en.pk)∧X.cell? ⟨w.heap.size + 1,7,none⟩ = some (.int .i64 en.ob)∧w.heap.size + 1 < X.heap.size)∧X.cell? ⟨w.heap.size + 2,0,none⟩ = some (.slice none 0 0)∧X.frozen? ⟨w.heap.size + 2,0,none⟩ = false∧w.heap.size + 2 < X.heap.size:=fun X hm=>by
  obtain ⟨b1,b2⟩:=blk_b (w:=w) [.slice va L.length vc] (eCells u v en.raw) 52 24 X ((m1 _ [.slice none 0 0] _).trans hm);have b3:=hBk X hm;exact ⟨⟨b1.cell 0,b1.lt⟩,⟨b2.cell 0,b2.cell 1,b2.cell 2,b2.cell 3,b2.cell 4,b2.cell 5,b2.cell 6,b2.cell 7,b2.lt⟩,b3.cell 0,b3.frozen 0,b3.lt⟩
 have hCk:∀ X,Mod Nowhere w X→Calls Tryz.prog 12 #[.agg (eCells u v en.raw).toArray] X fun r w'=>r = .returned (errno 0)∧Mod Nowhere X w':=fun X hm=>by
  have:=XR (hin.fresh hm) la ld;rw [if_pos ((ZB _).2 he.rok)] at this;exact this
 have hFi:=fun X (hm:Mod Nowhere w X)=>ZI (a:=en.aid) (h.fresh hm) hi (hin.fresh hm).sa hin.ba la;have hIs:=fun X (hm:Mod Nowhere w X)=>ZbY (hin.fresh hm) la ld;have hDm:=fun X (hm:Mod Nowhere w X)=>XV (a:=en.dom) (h.fresh hm) hi (hin.fresh hm).sd hin.bd ld;have hNu:=fun X (hm:Mod Nowhere w X)=>Zbm (h.fresh hm) h32 en.pk;have hIm:=fun X (hm:Mod Nowhere w X)=>ZbU (hin.fresh hm) he.p31;have hOw:=fun X (hm:Mod Nowhere w X)=>ZbV (hin.fresh hm) la ld;have hIj:∀ j (hj:j < L.length) X u' v',DSl X u' L[j].aid→DSl X v' L[j].dom→Calls Tryz.prog 115 #[.agg (eCells u' v' L[j].raw).toArray] X fun r w'=>r = .returned (.bool (isImp L[j]))∧Mod Nowhere X w':=fun j hj X u' v' d1 d2=>XU ⟨d1,d2,hi.ok _ (List.getElem_mem hj)⟩
 have hCm:∀ j (hj:j < L.length) X u',Mod Nowhere w X→DSl X u' L[j].aid→Calls Tryz.prog 31 #[u',u] X fun r w'=>r = .returned (.int .i64 (cmpB L[j].aid en.aid))∧Mod Nowhere X w':=fun j hj X u' hm d=>by
  have:=hi.ok _ (List.getElem_mem hj);have:=this.a16;exact XO d.src (hin.fresh hm).sa (hi.ok _ (List.getElem_mem hj)).ba hin.ba (by omega) (by show en.aid.length≤_;omega)
 obtain ⟨R,hR⟩:∃ R,rAdd L en = R:=⟨_,rfl⟩;rw [hR]
 have hRe:∀ er,addE L en = er→er ≠ 0→R = (L,er):=fun er e0 e1=>by
  rw [← hR];obtain ⟨g1,g2⟩:=ZZ L en;exact Prod.ext (g2 (by rw [e0];exact e1)) (by rw [g1,e0])
 have hR0:addE L en = 0→R = (ins en L,0):=fun e0=>by
  rw [← hR];exact Prod.ext (ZbX e0) (by rw [(ZZ L en).1,e0])
 unfold addE at hRe hR0;rw [hni] at hRe hR0;have hIs':=fun X hm=>hIs X hm;simp only [hni] at hIs';clear hIs;generalize hgd:L.any (isDom en.dom) = dm at *;generalize hgp:L.any (isPak en.pk) = pq at *;generalize hgl:L.any isImp = li at *;generalize hgi:isImp en = im at *;have hkk:=he.k1;have hk3:=he.k3;clear hR he;obtain ⟨a1,c1,rfl,-⟩:=hin.sa;obtain ⟨a2,c2,rfl,-⟩:=hin.sd;obtain ⟨xk,xs,xb,xp,xg,xo,xa,xd⟩:=en;unfold eCells at *;dsimp only [En.raw] at *;rcases ZJ (L:=L) (a:=xa) with ⟨g1,g2⟩ | ⟨k,hk,g1,g2,hka⟩
 rotate_left
 ·have hta:L.any (isAid xa) = true:=Yj hk (by unfold isAid;rw [hka];simp);rw [hta] at hRe;rw [g1] at hFi;clear g1 g2 hka hR0;generalize hf1:xa.length = n1 at *;generalize xd.length = n2 at *;refine hid12 ?_ h hm1 hBk hK hCk hFi hIs' hDm hNu hIm hOw hIj;clear h hm1 hBk hK hCk hFi hIs' hDm hNu hIm hOw hIj;intro h hm1 hBk hK hCk hFi hIs' hDm hNu hIm hOw hIj;refine hid9 ?_ hCm hRe hin hni hgd hgp hgl hgi hf1;clear hCm hRe hin hni hgd hgp hgl hgi hf1;intro hCm hRe hin hni hgd hgp hgl hgi hf1;go_enter Tryz.func73,Tryz.ntmps73;go_wp2_with fail;refine (hCk.out _ hm1.out).mono ?_;rintro r w1 ⟨rfl,hm⟩;obtain ⟨⟨k0,kl⟩,⟨y0,y1,y2,y3,y4,y5,y6,y7,yl⟩,r0,rf,rl⟩:=hK.out _ hm
  replace hm:=Lib.hid hm;go_wp2_with fail;refine (hFi.out _ (hm1.out.trans hm.out)).mono ?_;rintro r w2 ⟨rfl,hma0⟩;have hma:=hm.out.trans hma0;clear k0 kl y0 y1 y2 y3 y4 y5 y6 y7 yl r0 rf rl;obtain ⟨⟨k0,kl⟩,⟨y0,y1,y2,y3,y4,y5,y6,y7,yl⟩,r0,rf,rl⟩:=hK.out _ hma;refine hid2 ?_ hma hma0;clear hma hma0;intro hma hma0;have hR:=hRe.out 13 (rfl) (by decide);have hel:=h.out.fresh (hm1.out.trans hma.out);refine hid2 ?_ hR hel;clear hR hel;intro hR hel;go_wp2;exact s_end rfl hR.out rfl rfl (hBk.out _ hma.out) (by omega) hel.out (hm1.out.trans hma.out)
 ·have hta:L.any (isAid xa) = false:=by
   rw [List.any_eq_false];exact fun x hx=>List.find?_eq_none.1 g2 x hx
  rw [hta] at hRe hR0;rw [g1] at hFi;clear g1 g2;have hka:=hta;generalize hf1:xa.length = n1 at *;generalize hf2:xd.length = n2 at *;have f1l:=hf1;have f2l:=hf2;refine hid12 ?_ h hm1 hBk hK hCk hFi hIs' hDm hNu hIm hOw hIj;clear h hm1 hBk hK hCk hFi hIs' hDm hNu hIm hOw hIj;intro h hm1 hBk hK hCk hFi hIs' hDm hNu hIm hOw hIj;refine hid12 ?_ hCm hRe hR0 hin hni hgd hgp hgl hgi hta hka f1l;clear hCm hRe hR0 hin hni hgd hgp hgl hgi hta hka f1l;intro hCm hRe hR0 hin hni hgd hgp hgl hgi hta hka f1l;refine hid3 ?_ f2l hf1 hf2;clear f2l hf1 hf2;intro f2l hf1 hf2;go_enter Tryz.func73,Tryz.ntmps73
  go_wp2_with fail;refine (hCk.out _ hm1.out).mono ?_;rintro r w1 ⟨rfl,hm⟩;obtain ⟨⟨k0,kl⟩,⟨y0,y1,y2,y3,y4,y5,y6,y7,yl⟩,r0,rf,rl⟩:=hK.out _ hm;replace hm:=Lib.hid hm;go_wp2_with fail;refine (hFi.out _ (hm1.out.trans hm.out)).mono ?_;rintro r w2 ⟨rfl,hma0⟩;have hma:=hm.out.trans hma0;clear k0 kl y0 y1 y2 y3 y4 y5 y6 y7 yl r0 rf rl;obtain ⟨⟨k0,kl⟩,⟨y0,y1,y2,y3,y4,y5,y6,y7,yl⟩,r0,rf,rl⟩:=hK.out _ hma;refine hid2 ?_ hma hma0;clear hma hma0;intro hma hma0;go_wp2_with fail;refine (hIs'.out _ (hm1.out.trans hma.out)).mono ?_;rintro r w3 ⟨rfl,hmb0⟩;have hmb:=hma.out.trans hmb0
  clear k0 kl y0 y1 y2 y3 y4 y5 y6 y7 yl r0 rf rl;obtain ⟨⟨k0,kl⟩,⟨y0,y1,y2,y3,y4,y5,y6,y7,yl⟩,r0,rf,rl⟩:=hK.out _ hmb;refine hid2 ?_ hmb hmb0;clear hmb hmb0;intro hmb hmb0;go_wp2_with fail;refine (hDm.out _ (hm1.out.trans hmb.out)).mono ?_;rintro r w4 ⟨rfl,hmc0⟩;have hmc:=hmb.out.trans hmc0;clear k0 kl y0 y1 y2 y3 y4 y5 y6 y7 yl r0 rf rl;obtain ⟨⟨k0,kl⟩,⟨y0,y1,y2,y3,y4,y5,y6,y7,yl⟩,r0,rf,rl⟩:=hK.out _ hmc;refine hid2 ?_ hmc hmc0;clear hmc hmc0;intro hmc hmc0
  cases dm
  ·skip
   have hR:=hRe.out 12 (rfl) (by decide);have hel:=h.out.fresh (hm1.out.trans hmc.out);refine hid2 ?_ hR hel;clear hR hel;intro hR hel;go_wp2;exact s_end rfl hR.out rfl rfl (hBk.out _ hmc.out) (by omega) hel.out (hm1.out.trans hmc.out)
  have hNu1:=hNu.out _ (hm1.out.trans hmc.out);obtain ⟨b2,hb2⟩:∃ b,decide (xk = 2) = b:=⟨_,rfl⟩;obtain ⟨b3,hb3⟩:∃ b,decide (xk = 3) = b:=⟨_,rfl⟩;have kb2:((xk:Int) == 2) = b2:=by rw [← hb2];by_cases hq:xk = 2 <;> simp [hq];omega
  have kb3:((xk:Int) == 3) = b3:=by rw [← hb3];by_cases hq:xk = 3 <;> simp [hq];omega
  rw [hb2,hb3] at hRe hR0
  have hbb:(b2 = true∧b3 = false) ∨ (b2 = false∧b3 = true) ∨ (b2 = false∧b3 = false):=by
   rw [← hb2,← hb3];by_cases hq:xk = 2
   ·subst hq;simp
   ·by_cases hq3:xk = 3 <;> simp [hq,hq3]
  clear hNu;refine hid3 ?_ hNu1 hb2 hb3;clear hNu1 hb2 hb3;intro hNu1 hb2 hb3;rcases hbb with ⟨rfl,rfl⟩ | ⟨rfl,rfl⟩ | ⟨rfl,rfl⟩
  case' inl =>
   go_wp2_with fail;refine (hNu1.out).mono ?_;rintro r w5 ⟨rfl,hmd0⟩;have hmd:=hmc.out.trans hmd0;clear k0 kl y0 y1 y2 y3 y4 y5 y6 y7 yl r0 rf rl;obtain ⟨⟨k0,kl⟩,⟨y0,y1,y2,y3,y4,y5,y6,y7,yl⟩,r0,rf,rl⟩:=hK.out _ hmd;refine hid2 ?_ hmd hmd0;clear hmd hmd0;intro hmd hmd0
   cases pq
   ·skip
    have hR:=hRe.out 12 (rfl) (by decide);have hel:=h.out.fresh (hm1.out.trans hmd.out);refine hid2 ?_ hR hel;clear hR hel;intro hR hel;go_wp2;exact s_end rfl hR.out rfl rfl (hBk.out _ hmd.out) (by omega) hel.out (hm1.out.trans hmd.out)
  case' inr.inl =>
   go_wp2_with fail;refine (hNu1.out).mono ?_;rintro r w5 ⟨rfl,hmd0⟩;have hmd:=hmc.out.trans hmd0;clear k0 kl y0 y1 y2 y3 y4 y5 y6 y7 yl r0 rf rl;obtain ⟨⟨k0,kl⟩,⟨y0,y1,y2,y3,y4,y5,y6,y7,yl⟩,r0,rf,rl⟩:=hK.out _ hmd;refine hid2 ?_ hmd hmd0;clear hmd hmd0;intro hmd hmd0
   cases pq
   rotate_left
   ·skip
    have hR:=hRe.out 13 (rfl) (by decide);have hel:=h.out.fresh (hm1.out.trans hmd.out);refine hid2 ?_ hR hel;clear hR hel;intro hR hel;go_wp2;exact s_end rfl hR.out rfl rfl (hBk.out _ hmd.out) (by omega) hel.out (hm1.out.trans hmd.out)
  case' inr.inr =>
   have hmd:=hmc
  all_goals
   clear hNu1;go_wp2_with fail
   go_loopw [6] (fun i wr=>∃ j:Nat,j≤L.length∧i = .int .i64 j∧(im && (L.take j).any isImp) = false∧Mod Nowhere (((w.alloc (.cells #[.slice va L.length vc] 52)).alloc (.cells #[.slice a1 n1 c1,.int .i64 xk,.int .i64 xs,.int .i64 xb,.int .i64 xp,.slice a2 n2 c2,.int .i64 xg,.int .i64 xo] 24)).alloc (.cells #[.slice none 0 0] 52)) wr) (fun i _=>L.length - (intOf i).toNat)
   case atStart=>exact ⟨0,by omega,rfl,by simp,hmd.out⟩
   case round =>
    obtain ⟨j,hj,rfl,hno,hmj⟩:=hrel;clear k0 kl y0 y1 y2 y3 y4 y5 y6 y7 yl r0 rf rl;obtain ⟨⟨k0,kl⟩,⟨y0,y1,y2,y3,y4,y5,y6,y7,yl⟩,r0,rf,rl⟩:=hK.out _ hmj;by_cases hlt:j < L.length
    ·have hji:(j:Int) < (L.length:Int):=by omega
     have hI1:=hIm.out _ (hm1.out.trans hmj);have hnx:=Yi isImp hlt;have hall:isImp L[j] = true→L.any isImp = true:=fun hq=>Yj hlt hq;obtain ⟨b,off,a3,c3,a4,c4,rfl,-,-,hcj⟩:=h.out.ce hlt;have hJ:=hIj.out j hlt;obtain ⟨ej,hej⟩:∃ ej,L[j] = ej:=⟨_,rfl⟩;rw [hej] at hcj hJ hnx hall;generalize isImp ej = iq at *;obtain ⟨jk,js,jb,jp,jg,jo,ja,jd⟩:=ej;dsimp only [En.raw] at hcj hJ;refine hid8 ?_ hI1 hnx hall hJ hcj hej hmj hno;clear hI1 hnx hall hJ hcj hej hmj hno;intro hI1 hnx hall hJ hcj hej hmj hno;go_wp2_with fail;refine hI1.out.mono ?_;rintro r w6 ⟨rfl,hn1⟩;have hm6:=hmj.out.trans hn1
     clear k0 kl y0 y1 y2 y3 y4 y5 y6 y7 yl r0 rf rl;obtain ⟨⟨k0,kl⟩,⟨y0,y1,y2,y3,y4,y5,y6,y7,yl⟩,r0,rf,rl⟩:=hK.out _ hm6;obtain ⟨⟨q0,q1,q2,q3,q4,q5,q6,q7,ql⟩,d1,d2⟩:=hcj.out w6 (hm1.out.trans hm6);have hJ1:=hJ.out w6 _ _ d1 d2;clear d1 d2;refine hid3 ?_ hm6 hn1 hJ1;clear hm6 hn1 hJ1;intro hm6 hn1 hJ1
     cases im
     ·go_wp2;go_roundw
      case rel=>exact ⟨j + 1,by omega,by go_num,rfl,hm6.out⟩
      case measure=>simp [intOf];omega
     ·have hno2:(L.take j).any isImp = false:=hno.out;go_wp2_with fail;refine hJ1.out.mono ?_;rintro r w7 ⟨rfl,hn2⟩;have hm7:=hm6.out.trans hn2;clear q0 q1 q2 q3 q4 q5 q6 q7 ql;clear k0 kl y0 y1 y2 y3 y4 y5 y6 y7 yl r0 rf rl;obtain ⟨⟨k0,kl⟩,⟨y0,y1,y2,y3,y4,y5,y6,y7,yl⟩,r0,rf,rl⟩:=hK.out _ hm7;refine hid3 ?_ hm7 hn2 hno2;clear hm7 hn2 hno2;intro hm7 hn2 hno2
      cases iq
      ·have hny:(true && (L.take (j + 1)).any isImp) = false:=by rw [hnx.out,hno2.out];rfl
       replace hny:=Lib.hid hny;go_wp2;go_roundw
       case rel=>exact ⟨j + 1,by omega,by go_num,hny.out,hm7.out⟩
       case measure=>simp [intOf];omega
      ·have hli:=hall.out rfl;rw [hgl.out] at hli;subst hli;have hR:=hRe.out 14 (rfl) (by decide);have hel:=h.out.fresh (hm1.out.trans hm7.out);refine hid2 ?_ hR hel;clear hR hel;intro hR hel;go_wp2;exact s_end rfl hR.out rfl rfl (hBk.out _ hm7.out) (by omega) hel.out (hm1.out.trans hm7.out)
    ·have hji:¬ (j:Int) < (L.length:Int):=by omega
     have hje:j = L.length:=by omega
     rw [hje,List.take_length,hgl.out] at hno;by_cases hfull:32≤L.length
     ·have hfi:(32:Int)≤(L.length:Int):=by omega
      replace hmj:=Lib.hid hmj;have hR:=hRe.out 10 (by cases im <;> cases li <;> simp_all [addC]) (by decide);have hel:=h.out.fresh (hm1.out.trans hmj.out);refine hid2 ?_ hR hel;clear hR hel;intro hR hel;go_wp2;exact s_end rfl hR.out rfl rfl (hBk.out _ hmj.out) (by omega) hel.out (hm1.out.trans hmj.out)
     have hfi:¬ (32:Int)≤(L.length:Int):=by omega
     have hRz:=hR0.out (by cases im <;> cases li <;> simp_all [addC]);refine hid3 ?_ hmj hno hRz;clear hmj hno hRz;intro hmj hno hRz;go_wp2_with fail
     go_loopw [7,8] (fun v i wr=>∃ (j:Nat) (va':Option Addr) (vc':Nat) (zs:List Ex),j≤L.length∧i = .int .i64 j∧v = .slice va' j vc'∧EOwn wr (w.heap.size + 3) va' j vc' zs∧exps zs = (L.take j).map En.raw∧(∀ x ∈ L.take j,ltB x.aid xa = true)∧Mod Nowhere (((w.alloc (.cells #[.slice va L.length vc] 52)).alloc (.cells #[.slice a1 n1 c1,.int .i64 xk,.int .i64 xs,.int .i64 xb,.int .i64 xp,.slice a2 n2 c2,.int .i64 xg,.int .i64 xo] 24)).alloc (.cells #[.slice none 0 0] 52)) wr) (fun _ i _=>L.length - (intOf i).toNat)
     case atStart=>exact ⟨0,none,0,[],by omega,rfl,rfl,EOwn.nil _ _,rfl,(fun x hx=>by simp at hx),hmj.out⟩
     case round =>
      clear hj hji hje hfi;obtain ⟨j,va',vc',zs,hj,rfl,rfl,hown,hzs,hlts,hmk⟩:=hrel;clear k0 kl y0 y1 y2 y3 y4 y5 y6 y7 yl r0 rf rl;obtain ⟨⟨k0,kl⟩,⟨y0,y1,y2,y3,y4,y5,y6,y7,yl⟩,r0,rf,rl⟩:=hK.out _ hmk;by_cases hlt:j < L.length
      ·have hji:(j:Int) < (L.length:Int):=by omega
       obtain ⟨b,off,a3,c3,a4,c4,rfl,-,-,hcj⟩:=h.out.ce hlt;have hC:=hCm.out j hlt;have htk:L.take (j + 1) = L.take j ++ [L[j]]:=List.take_succ_eq_append_getElem hlt;obtain ⟨ej,hej⟩:∃ ej,L[j] = ej:=⟨_,rfl⟩;rw [hej] at hcj hC htk;obtain ⟨jk,js,jb,jp,jg,jo,ja,jd⟩:=ej;dsimp only [En.raw] at hcj hC;obtain ⟨cb,hcb⟩:∃ c,cmpB ja xa = c:=⟨_,rfl⟩;rw [hcb] at hC;obtain ⟨⟨q0,q1,q2,q3,q4,q5,q6,q7,ql⟩,-,-⟩:=hcj _ (hm1.out.trans hmk);have hC1:∀ X,Mod Nowhere w X→Calls Tryz.prog 31 _ X _:=fun X hX=>hC X _ hX (hcj X hX).2.1;have hdw:=(Mod.refl Nowhere wr).drew;have hltx:ltB ja xa = decide (cb < 0):=by unfold ltB;rw [hcb]
       refine hid12 ?_ hcj hC hC1 htk hej hcb hmk hown hzs hlts hdw hltx;clear hcj hC hC1 htk hej hcb hmk hown hzs hlts hdw hltx;intro hcj hC hC1 htk hej hcb hmk hown hzs hlts hdw hltx;go_wp2_with fail
       go_region_held3 (fun W=>W.cell? ⟨w.heap.size,0,none⟩ = some (.slice (some ⟨b,off,none⟩) L.length vc)∧W.cell? ⟨w.heap.size + 1,0,none⟩ = some (.slice a1 n1 c1)∧W.cell? ⟨b,off + j * 8,none⟩ = some (.slice a3 ja.length c3)) (simp [*,World.cell?_alloc_some,World.cell?_setCell_far,World.cell?_setCell_other])
        (first | (go_at_call 31;(with_reducible refine (hC1.out _ (hm1.out.trans (hmk.out.trans hdw.out))).mono ?_);rintro e v1 ⟨rfl,hn3⟩;have hmk2:=hmk.out.trans (hdw.out.trans hn3);clear k0 kl y0 y1 y2 y3 y4 y5 y6 y7 yl r0 rf rl q0 q1 q2 q3 q4 q5 q6 q7 ql;obtain ⟨⟨k0,kl⟩,⟨y0,y1,y2,y3,y4,y5,y6,y7,yl⟩,r0,rf,rl⟩:=hK.out _ hmk2;obtain ⟨⟨p0,p1,p2,p3,p4,p5,p6,p7,pl⟩,f1,f2⟩:=hcj.out v1 (hm1.out.trans hmk2);replace hn3:=Lib.hid hn3;replace hmk2:=Lib.hid hmk2;replace f1:=Lib.hid f1;replace f2:=Lib.hid f2) | fail)
       have hown2:=hown.out.fresh (hdw.out.trans hn3.out);by_cases hc0:cb < 0
       ·have hvs:w.heap.size + 3≤v1.heap.size:=by have:=hmk2.out.size;simp at this;omega
        obtain ⟨va2,vc2,W2,r3,ho2,hm4,-⟩:=e_put (x:=((.slice a3 ja.length c3,.slice a4 jd.length c4),⟨jk,js,jb,jp,jg,jo,ja,jd⟩)) ⟨f1.out,f2.out⟩ hown2 hvs (by omega) hmk2.out (by simp)
        have hrel:exps (zs ++ [((.slice a3 ja.length c3,.slice a4 jd.length c4),⟨jk,js,jb,jp,jg,jo,ja,jd⟩)]) = (L.take (j + 1)).map En.raw:=by
         rw [Zy,htk.out,List.map_append,hzs.out];rfl
        have hlt2:∀ x ∈ L.take (j + 1),ltB x.aid xa = true:=fun x hx=>by
         rw [htk.out] at hx;rcases List.mem_append.1 hx with hx | hx
         ·exact hlts.out x hx
         ·rw [List.mem_singleton.1 hx]
          show ltB ja xa = true
          rw [hltx.out,decide_eq_true hc0]
        unfold exCells at r3;dsimp only at r3;refine hid5 ?_ hrel ho2 hm4 hlt2 hown2;clear hrel ho2 hm4 hlt2 hown2;intro hrel ho2 hm4 hlt2 hown2
        go_wp2_with (at_builtin;refine Lib.wpList_append_run _ rfl _ _ _ _ rfl _ _ (by rfl) (by rfl) _ _ r3 ?_;clear r3)
        go_roundw
        case rel=>exact ⟨j + 1,va2,vc2,_,by omega,by go_num,rfl,ho2.out,hrel.out,hlt2.out,hm4.out⟩
        case measure=>simp [intOf];omega
       ·clear p0 p1 p2 p3 p4 p5 p6 p7 pl;replace hown2:=Lib.hid hown2;obtain ⟨ta,tc,hsl,zr,hzl,hzx,hzt⟩:=h.out.rest (k:=j) (by omega);have hins:=YK (e:=⟨xk,xs,xb,xp,xg,xo,xa,xd⟩) hlts.out (fun hh=>by rw [hej.out];show ltB ja xa = false;rw [hltx.out,decide_eq_false hc0]);refine hid4 ?_ hzl hzx hzt hins;clear hzl hzx hzt hins;intro hzl hzx hzt hins;go_wp2_with fail;refine (hOw.out _ (hm1.out.trans hmk2.out)).mono ?_;rintro r w5 ⟨u',v',rfl,f1,f2,hn5⟩;obtain ⟨g1,h1,rfl,-⟩:=Sl.len f1;obtain ⟨g2,h2,rfl,-⟩:=Sl.len f2;have hm5:=hmk2.out.trans hn5;clear k0 kl y0 y1 y2 y3 y4 y5 y6 y7 yl r0 rf rl;obtain ⟨⟨k0,kl⟩,⟨y0,y1,y2,y3,y4,y5,y6,y7,yl⟩,r0,rf,rl⟩:=hK.out _ hm5
        have hv5:w.heap.size + 3≤w5.heap.size:=by have:=hm5.size;simp at this;omega
        obtain ⟨va2,vc2,W5,r5,ho5,hm6,-⟩:=e_put (x:=((.slice g1 xa.length h1,.slice g2 xd.length h2),⟨xk,xs,xb,xp,xg,xo,xa,xd⟩)) ⟨f1,f2⟩ (hown2.out.fresh hn5) hv5 (by omega) hm5 (by simp);have hv6:w.heap.size + 3≤W5.heap.size:=by have:=hm6.size;simp at this;omega
        obtain ⟨va3,vc3,W6,r6,ho6,hm7,-⟩:=YV (fun hz=>(hzt.out hz).fresh (hm1.out.trans hm6)) ho5 hv6 (by rw [hzl.out];omega) hm6 (by simp);rw [hzl.out] at r6 ho6
        have hzz:exps (zs ++ [((.slice g1 xa.length h1,.slice g2 xd.length h2),⟨xk,xs,xb,xp,xg,xo,xa,xd⟩)] ++ zr) = (ins ⟨xk,xs,xb,xp,xg,xo,xa,xd⟩ L).map En.raw:=by
         rw [Zy,Zy,hzs.out,hzx.out,hins.out,List.map_append,List.map_cons,List.append_assoc];rfl
        obtain ⟨hnl,hel⟩:=ho6.el hzz;have hnL:j + 1 + (L.length - j) = L.length + 1:=by omega
        have hR:=hRz.out;unfold exCells at r5;dsimp only at r5;have z0:=(hBk.out _ hm7).cell 0;have zl:=(hBk.out _ hm7).lt;have zf:=(hBk.out _ hm7).frozen 0;simp only [gz0] at z0;have k06:=(hK.out _ hm6).1.1;have kl6:=(hK.out _ hm6).1.2;rw [hnl] at r6;refine hid12 ?_ hn5 hm5 hm6 hm7 ho5 ho6 hzz hel hR f1 f2 hv5;clear hn5 hm5 hm6 hm7 ho5 ho6 hzz hel hR f1 f2 hv5;intro hn5 hm5 hm6 hm7 ho5 ho6 hzz hel hR f1 f2 hv5;refine hid3 ?_ hv6 hnl hnL;clear hv6 hnl hnL;intro hv6 hnl hnL
        go_wp2_with (at_builtin;first | (refine Lib.wpList_append_run _ rfl _ _ _ _ rfl _ _ (by rfl) (by rfl) _ _ r5 ?_;clear r5) | (refine Lib.wpList_append_run _ rfl _ _ _ _ rfl _ _ (by rfl) (by rfl) _ _ r6 ?_;clear r6))
        exact s_end rfl hR.out rfl rfl (hBk.out _ hm7.out) (by omega) hel.out (hm1.out.trans hm7.out)
      ·have hji:¬ (j:Int) < (L.length:Int):=by omega
       refine hid4 ?_ hmk hown hzs hlts;clear hmk hown hzs hlts;intro hmk hown hzs hlts;go_wp2_with fail
       go_quiet (fail)
       obtain ⟨Wq,hWq,mq⟩:∃ Wq,wr.drewN nq = Wq∧Mod Nowhere wr Wq:=⟨_,rfl,(Mod.refl _ _).drewN nq⟩;rw [hWq];have hmk2:=hmk.out.trans mq;have hown2:=hown.out.fresh mq;clear k0 kl y0 y1 y2 y3 y4 y5 y6 y7 yl r0 rf rl;obtain ⟨⟨k0,kl⟩,⟨y0,y1,y2,y3,y4,y5,y6,y7,yl⟩,r0,rf,rl⟩:=hK.out _ hmk2;refine hid4 ?_ hWq mq hmk2 hown2;clear hWq mq hmk2 hown2;intro hWq mq hmk2 hown2;obtain ⟨ta,tc,hsl,zr,hzl,hzx,hzt⟩:=h.out.rest (k:=j) (by omega);have hins:=YK (e:=⟨xk,xs,xb,xp,xg,xo,xa,xd⟩) hlts.out (fun hh=>absurd hh hlt);refine hid4 ?_ hzl hzx hzt hins;clear hzl hzx hzt hins;intro hzl hzx hzt hins
       go_wp2_with fail;refine (hOw.out _ (hm1.out.trans hmk2.out)).mono ?_;rintro r w5 ⟨u',v',rfl,f1,f2,hn5⟩;obtain ⟨g1,h1,rfl,-⟩:=Sl.len f1;obtain ⟨g2,h2,rfl,-⟩:=Sl.len f2;have hm5:=hmk2.out.trans hn5;clear k0 kl y0 y1 y2 y3 y4 y5 y6 y7 yl r0 rf rl;obtain ⟨⟨k0,kl⟩,⟨y0,y1,y2,y3,y4,y5,y6,y7,yl⟩,r0,rf,rl⟩:=hK.out _ hm5;have hv5:w.heap.size + 3≤w5.heap.size:=by have:=hm5.size;simp at this;omega
       obtain ⟨va2,vc2,W5,r5,ho5,hm6,-⟩:=e_put (x:=((.slice g1 xa.length h1,.slice g2 xd.length h2),⟨xk,xs,xb,xp,xg,xo,xa,xd⟩)) ⟨f1,f2⟩ (hown2.out.fresh hn5) hv5 (by omega) hm5 (by simp);have hv6:w.heap.size + 3≤W5.heap.size:=by have:=hm6.size;simp at this;omega
       obtain ⟨va3,vc3,W6,r6,ho6,hm7,-⟩:=YV (fun hz=>(hzt.out hz).fresh (hm1.out.trans hm6)) ho5 hv6 (by rw [hzl.out];omega) hm6 (by simp);rw [hzl.out] at r6 ho6
       have hzz:exps (zs ++ [((.slice g1 xa.length h1,.slice g2 xd.length h2),⟨xk,xs,xb,xp,xg,xo,xa,xd⟩)] ++ zr) = (ins ⟨xk,xs,xb,xp,xg,xo,xa,xd⟩ L).map En.raw:=by
        rw [Zy,Zy,hzs.out,hzx.out,hins.out,List.map_append,List.map_cons,List.append_assoc];rfl
       obtain ⟨hnl,hel⟩:=ho6.el hzz;have hnL:j + 1 + (L.length - j) = L.length + 1:=by omega
       have hR:=hRz.out;unfold exCells at r5;dsimp only at r5;have z0:=(hBk.out _ hm7).cell 0;have zl:=(hBk.out _ hm7).lt;have zf:=(hBk.out _ hm7).frozen 0;simp only [gz0] at z0;have k06:=(hK.out _ hm6).1.1;have kl6:=(hK.out _ hm6).1.2;rw [hnl] at r6;refine hid12 ?_ hn5 hm5 hm6 hm7 ho5 ho6 hzz hel hR f1 f2 hv5;clear hn5 hm5 hm6 hm7 ho5 ho6 hzz hel hR f1 f2 hv5;intro hn5 hm5 hm6 hm7 ho5 ho6 hzz hel hR f1 f2 hv5;refine hid3 ?_ hv6 hnl hnL;clear hv6 hnl hnL;intro hv6 hnl hnL
       go_wp2_with (at_builtin;first | (refine Lib.wpList_append_run _ rfl _ _ _ _ rfl _ _ (by rfl) (by rfl) _ _ r5 ?_;clear r5) | (refine Lib.wpList_append_run _ rfl _ _ _ _ rfl _ _ (by rfl) (by rfl) _ _ r6 ?_;clear r6))
       exact s_end rfl hR.out rfl rfl (hBk.out _ hm7.out) (by omega) hel.out (hm1.out.trans hm7.out)
theorem Zha {w:World} {va:Option Addr} {vc:Nat} {L:List En} (h:EL w va vc L) (hi:RInv L) {u v:Value} {en:En} (he:EOk en) (hin:InE w u v en.raw) (hni:isIss en = true) :
  Calls Tryz.prog 73 #[.agg #[.slice va L.length vc],.agg (eCells u v en.raw).toArray] w (LPost26 w (rAdd L en).1 (rAdd L en).2):=by
 obtain ⟨ec1,ec2⟩:=h.len0;have h32:=hi.len;have la:en.aid.length≤1000:=by have:=he.a16;omega
 have ld:en.dom.length≤1000:=by have:=he.d16;omega
 have hm1:Mod Nowhere w (((w.alloc (.cells #[.slice va L.length vc] 52)).alloc (.cells (eCells u v en.raw).toArray 24)).alloc (.cells #[.slice none 0 0] 52)):=((m1 w [_] _).trans (m1 _ _ _)).trans (m1 _ [_] _)
 have hBk:∀ X,Mod Nowhere (((w.alloc (.cells #[.slice va L.length vc] 52)).alloc (.cells (eCells u v en.raw).toArray 24)).alloc (.cells #[.slice none 0 0] 52)) X→Blk X (w.heap.size + 2) [.slice none 0 0] 52:=fun X hm=>by
  have:=blk_a (w:=(w.alloc (.cells #[.slice va L.length vc] 52)).alloc (.cells (eCells u v en.raw).toArray 24)) [.slice none 0 0] 52 X hm;simpa using this
 have hK:∀ X,Mod Nowhere (((w.alloc (.cells #[.slice va L.length vc] 52)).alloc (.cells (eCells u v en.raw).toArray 24)).alloc (.cells #[.slice none 0 0] 52)) X→(X.cell? ⟨w.heap.size,0,none⟩ = some (.slice va L.length vc)∧w.heap.size < X.heap.size)∧(X.cell? ⟨w.heap.size + 1,0,none⟩ = some u∧X.cell? ⟨w.heap.size + 1,1,none⟩ = some (.int .i64 en.kind)∧X.cell? ⟨w.heap.size + 1,2,none⟩ = some (.int .i64 en.st)∧X.cell? ⟨w.heap.size + 1,3,none⟩ = some (.int .i64 en.bf)∧X.cell? ⟨w.heap.size + 1,4,none⟩ = some (.int .i64 en.pr)∧X.cell? ⟨w.heap.size + 1,5,none⟩ = some v∧X.cell? ⟨w.heap.size + 1,6,none⟩ = some (.int .i64 en.pk)∧X.cell? ⟨w.heap.size + 1,7,none⟩ = some (.int .i64 en.ob)∧w.heap.size + 1 < X.heap.size)∧X.cell? ⟨w.heap.size + 2,0,none⟩ = some (.slice none 0 0)∧X.frozen? ⟨w.heap.size + 2,0,none⟩ = false∧w.heap.size + 2 < X.heap.size:=fun X hm=>by
  obtain ⟨b1,b2⟩:=blk_b (w:=w) [.slice va L.length vc] (eCells u v en.raw) 52 24 X ((m1 _ [.slice none 0 0] _).trans hm);have b3:=hBk X hm;exact ⟨⟨b1.cell 0,b1.lt⟩,⟨b2.cell 0,b2.cell 1,b2.cell 2,b2.cell 3,b2.cell 4,b2.cell 5,b2.cell 6,b2.cell 7,b2.lt⟩,b3.cell 0,b3.frozen 0,b3.lt⟩
 have hCk:∀ X,Mod Nowhere w X→Calls Tryz.prog 12 #[.agg (eCells u v en.raw).toArray] X fun r w'=>r = .returned (errno 0)∧Mod Nowhere X w':=fun X hm=>by
  have:=XR (hin.fresh hm) la ld;rw [if_pos ((ZB _).2 he.rok)] at this;exact this
 have hFi:=fun X (hm:Mod Nowhere w X)=>ZI (a:=en.aid) (h.fresh hm) hi (hin.fresh hm).sa hin.ba la;have hIs:=fun X (hm:Mod Nowhere w X)=>ZbY (hin.fresh hm) la ld;have hDm:=fun X (hm:Mod Nowhere w X)=>XV (a:=en.dom) (h.fresh hm) hi (hin.fresh hm).sd hin.bd ld;have hNu:=fun X (hm:Mod Nowhere w X)=>Zbm (h.fresh hm) h32 en.pk;have hIm:=fun X (hm:Mod Nowhere w X)=>ZbU (hin.fresh hm) he.p31;have hOw:=fun X (hm:Mod Nowhere w X)=>ZbV (hin.fresh hm) la ld;have hIj:∀ j (hj:j < L.length) X u' v',DSl X u' L[j].aid→DSl X v' L[j].dom→Calls Tryz.prog 115 #[.agg (eCells u' v' L[j].raw).toArray] X fun r w'=>r = .returned (.bool (isImp L[j]))∧Mod Nowhere X w':=fun j hj X u' v' d1 d2=>XU ⟨d1,d2,hi.ok _ (List.getElem_mem hj)⟩
 have hCm:∀ j (hj:j < L.length) X u',Mod Nowhere w X→DSl X u' L[j].aid→Calls Tryz.prog 31 #[u',u] X fun r w'=>r = .returned (.int .i64 (cmpB L[j].aid en.aid))∧Mod Nowhere X w':=fun j hj X u' hm d=>by
  have:=hi.ok _ (List.getElem_mem hj);have:=this.a16;exact XO d.src (hin.fresh hm).sa (hi.ok _ (List.getElem_mem hj)).ba hin.ba (by omega) (by show en.aid.length≤_;omega)
 obtain ⟨R,hR⟩:∃ R,rAdd L en = R:=⟨_,rfl⟩;rw [hR]
 have hRe:∀ er,addE L en = er→er ≠ 0→R = (L,er):=fun er e0 e1=>by
  rw [← hR];obtain ⟨g1,g2⟩:=ZZ L en;exact Prod.ext (g2 (by rw [e0];exact e1)) (by rw [g1,e0])
 have hR0:addE L en = 0→R = (ins en L,0):=fun e0=>by
  rw [← hR];exact Prod.ext (ZbX e0) (by rw [(ZZ L en).1,e0])
 unfold addE at hRe hR0;rw [hni] at hRe hR0;have hIs':=fun X hm=>hIs X hm;simp only [hni] at hIs';clear hIs hDm hNu hIm hIj hCm;have hk1:en.kind = 1:=by unfold isIss at hni;simp at hni;exact hni.1
 generalize hgd:L.any (isDom en.dom) = dm at *;generalize hgp:L.any (isPak en.pk) = pq at *;generalize hgl:L.any isImp = li at *;generalize hgi:isImp en = im at *;have hkk:=he.k1;have hk3:=he.k3;clear hR he;obtain ⟨a1,c1,rfl,-⟩:=hin.sa;obtain ⟨a2,c2,rfl,-⟩:=hin.sd;obtain ⟨xk,xs,xb,xp,xg,xo,xa,xd⟩:=en;unfold eCells at *;dsimp only [En.raw] at *;rcases ZJ (L:=L) (a:=xa) with ⟨g1,g2⟩ | ⟨k,hk,g1,g2,hka⟩
 rotate_left
 ·have hta:L.any (isAid xa) = true:=Yj hk (by unfold isAid;rw [hka];simp);rw [hta] at hRe;rw [g1] at hFi;clear g1 g2 hka hR0;generalize hf1:xa.length = n1 at *;generalize xd.length = n2 at *;refine hid12 ?_ hk1 h hm1 hBk hK hCk hFi hIs' hOw hRe hin hni;clear hk1 h hm1 hBk hK hCk hFi hIs' hOw hRe hin hni;intro hk1 h hm1 hBk hK hCk hFi hIs' hOw hRe hin hni;refine hid5 ?_ hgd hgp hgl hgi hf1;clear hgd hgp hgl hgi hf1;intro hgd hgp hgl hgi hf1;go_enter Tryz.func73,Tryz.ntmps73;go_wp2_with fail;refine (hCk.out _ hm1.out).mono ?_;rintro r w1 ⟨rfl,hm⟩;obtain ⟨⟨k0,kl⟩,⟨y0,y1,y2,y3,y4,y5,y6,y7,yl⟩,r0,rf,rl⟩:=hK.out _ hm;replace hm:=Lib.hid hm
  go_wp2_with fail;refine (hFi.out _ (hm1.out.trans hm.out)).mono ?_;rintro r w2 ⟨rfl,hma0⟩;have hma:=hm.out.trans hma0;clear k0 kl y0 y1 y2 y3 y4 y5 y6 y7 yl r0 rf rl;obtain ⟨⟨k0,kl⟩,⟨y0,y1,y2,y3,y4,y5,y6,y7,yl⟩,r0,rf,rl⟩:=hK.out _ hma;refine hid2 ?_ hma hma0;clear hma hma0;intro hma hma0;have hR:=hRe.out 13 (rfl) (by decide);have hel:=h.out.fresh (hm1.out.trans hma.out);refine hid2 ?_ hR hel;clear hR hel;intro hR hel;go_wp2;exact s_end rfl hR.out rfl rfl (hBk.out _ hma.out) (by omega) hel.out (hm1.out.trans hma.out)
 ·have hta:L.any (isAid xa) = false:=by
   rw [List.any_eq_false];exact fun x hx=>List.find?_eq_none.1 g2 x hx
  rw [hta] at hRe hR0;rw [g1] at hFi;clear g1 g2;generalize hf1:xa.length = n1 at *;generalize hf2:xd.length = n2 at *;refine hid12 ?_ hk1 h hm1 hBk hK hCk hFi hIs' hOw hRe hR0 hin;clear hk1 h hm1 hBk hK hCk hFi hIs' hOw hRe hR0 hin;intro hk1 h hm1 hBk hK hCk hFi hIs' hOw hRe hR0 hin;refine hid8 ?_ hni hgd hgp hgl hgi hta hf1 hf2;clear hni hgd hgp hgl hgi hta hf1 hf2;intro hni hgd hgp hgl hgi hta hf1 hf2;go_enter Tryz.func73,Tryz.ntmps73;go_wp2_with fail;refine (hCk.out _ hm1.out).mono ?_;rintro r w1 ⟨rfl,hm⟩;obtain ⟨⟨k0,kl⟩,⟨y0,y1,y2,y3,y4,y5,y6,y7,yl⟩,r0,rf,rl⟩:=hK.out _ hm;replace hm:=Lib.hid hm
  go_wp2_with fail;refine (hFi.out _ (hm1.out.trans hm.out)).mono ?_;rintro r w2 ⟨rfl,hma0⟩;have hma:=hm.out.trans hma0;clear k0 kl y0 y1 y2 y3 y4 y5 y6 y7 yl r0 rf rl;obtain ⟨⟨k0,kl⟩,⟨y0,y1,y2,y3,y4,y5,y6,y7,yl⟩,r0,rf,rl⟩:=hK.out _ hma;refine hid2 ?_ hma hma0;clear hma hma0;intro hma hma0;go_wp2_with fail;refine (hIs'.out _ (hm1.out.trans hma.out)).mono ?_;rintro r w3 ⟨rfl,hmd0⟩;have hmd:=hma.out.trans hmd0;clear k0 kl y0 y1 y2 y3 y4 y5 y6 y7 yl r0 rf rl;obtain ⟨⟨k0,kl⟩,⟨y0,y1,y2,y3,y4,y5,y6,y7,yl⟩,r0,rf,rl⟩:=hK.out _ hmd;refine hid2 ?_ hmd hmd0;clear hmd hmd0;intro hmd hmd0;by_cases h0:0 < L.length
  ·have h0i:(0:Int) < (L.length:Int):=by omega
   have hR:=hRe.out 14 (by simp [addC,h0]) (by decide);have hel:=h.out.fresh (hm1.out.trans hmd.out);refine hid2 ?_ hR hel;clear hR hel;intro hR hel;go_wp2;exact s_end rfl hR.out rfl rfl (hBk.out _ hmd.out) (by omega) hel.out (hm1.out.trans hmd.out)
  have h0i:¬ (0:Int) < (L.length:Int):=by omega
  have hL0:L = []:=List.eq_nil_of_length_eq_zero (by omega);have hli:li = false:=by rw [← hgl.out,hL0];rfl
  have kb2:((xk:Int) == 2) = false:=by rw [hk1.out];rfl
  have kb3:((xk:Int) == 3) = false:=by rw [hk1.out];rfl
  have hRz:=hR0.out (by simp [addC,h0,hli,hk1.out];omega);refine hid2 ?_ hRz hL0;clear hRz hL0;intro hRz hL0;go_wp2_with fail
  go_loopw [6] (fun i wr=>i = .int .i64 0∧Mod Nowhere (((w.alloc (.cells #[.slice va L.length vc] 52)).alloc (.cells #[.slice a1 n1 c1,.int .i64 xk,.int .i64 xs,.int .i64 xb,.int .i64 xp,.slice a2 n2 c2,.int .i64 xg,.int .i64 xo] 24)).alloc (.cells #[.slice none 0 0] 52)) wr) (fun i _=>0)
  case atStart=>exact ⟨rfl,hmd.out⟩
  case round =>
   obtain ⟨rfl,hmj⟩:=hrel;clear k0 kl y0 y1 y2 y3 y4 y5 y6 y7 yl r0 rf rl;obtain ⟨⟨k0,kl⟩,⟨y0,y1,y2,y3,y4,y5,y6,y7,yl⟩,r0,rf,rl⟩:=hK.out _ hmj;have hfi:¬ (32:Int)≤(L.length:Int):=by omega
   clear h0i;refine hid2 ?_ hmj h0;clear hmj h0;intro hmj h0;go_wp2_with fail
   go_loopw [7,8] (fun v i wr=>∃ (j:Nat) (va':Option Addr) (vc':Nat) (zs:List Ex),j≤L.length∧i = .int .i64 j∧v = .slice va' j vc'∧EOwn wr (w.heap.size + 3) va' j vc' zs∧exps zs = (L.take j).map En.raw∧(∀ x ∈ L.take j,ltB x.aid xa = true)∧Mod Nowhere (((w.alloc (.cells #[.slice va L.length vc] 52)).alloc (.cells #[.slice a1 n1 c1,.int .i64 xk,.int .i64 xs,.int .i64 xb,.int .i64 xp,.slice a2 n2 c2,.int .i64 xg,.int .i64 xo] 24)).alloc (.cells #[.slice none 0 0] 52)) wr) (fun _ i _=>L.length - (intOf i).toNat)
   case atStart=>exact ⟨0,none,0,[],by omega,rfl,rfl,EOwn.nil _ _,rfl,(fun x hx=>by simp at hx),hmj.out⟩
   case round =>
    obtain ⟨j,va',vc',zs,hj,rfl,rfl,hown,hzs,hlts,hmk⟩:=hrel;clear k0 kl y0 y1 y2 y3 y4 y5 y6 y7 yl r0 rf rl;obtain ⟨⟨k0,kl⟩,⟨y0,y1,y2,y3,y4,y5,y6,y7,yl⟩,r0,rf,rl⟩:=hK.out _ hmk;have hji:¬ (j:Int) < (L.length:Int):=by have:=h0.out;omega
    have hlt:¬ j < L.length:=by omega
    clear hfi;refine hid4 ?_ hmk hown hzs hlts;clear hmk hown hzs hlts;intro hmk hown hzs hlts;go_wp2_with fail
    go_quiet (fail)
    obtain ⟨Wq,hWq,mq⟩:∃ Wq,wr.drewN nq = Wq∧Mod Nowhere wr Wq:=⟨_,rfl,(Mod.refl _ _).drewN nq⟩;rw [hWq];have hmk2:=hmk.out.trans mq;have hown2:=hown.out.fresh mq;clear k0 kl y0 y1 y2 y3 y4 y5 y6 y7 yl r0 rf rl;obtain ⟨⟨k0,kl⟩,⟨y0,y1,y2,y3,y4,y5,y6,y7,yl⟩,r0,rf,rl⟩:=hK.out _ hmk2;refine hid4 ?_ hWq mq hmk2 hown2;clear hWq mq hmk2 hown2;intro hWq mq hmk2 hown2;obtain ⟨ta,tc,hsl,zr,hzl,hzx,hzt⟩:=h.out.rest (k:=j) (by omega);have hins:=YK (e:=⟨xk,xs,xb,xp,xg,xo,xa,xd⟩) hlts.out (fun hh=>absurd hh (by have:=h0.out;omega));refine hid4 ?_ hzl hzx hzt hins;clear hzl hzx hzt hins;intro hzl hzx hzt hins
    go_wp2_with fail;refine (hOw.out _ (hm1.out.trans hmk2.out)).mono ?_;rintro r w5 ⟨u',v',rfl,f1,f2,hn5⟩;obtain ⟨g1,h1,rfl,-⟩:=Sl.len f1;obtain ⟨g2,h2,rfl,-⟩:=Sl.len f2;have hm5:=hmk2.out.trans hn5;clear k0 kl y0 y1 y2 y3 y4 y5 y6 y7 yl r0 rf rl;obtain ⟨⟨k0,kl⟩,⟨y0,y1,y2,y3,y4,y5,y6,y7,yl⟩,r0,rf,rl⟩:=hK.out _ hm5;have hv5:w.heap.size + 3≤w5.heap.size:=by have:=hm5.size;simp at this;omega
    obtain ⟨va2,vc2,W5,r5,ho5,hm6,-⟩:=e_put (x:=((.slice g1 xa.length h1,.slice g2 xd.length h2),⟨xk,xs,xb,xp,xg,xo,xa,xd⟩)) ⟨f1,f2⟩ (hown2.out.fresh hn5) hv5 (by omega) hm5 (by simp);have hv6:w.heap.size + 3≤W5.heap.size:=by have:=hm6.size;simp at this;omega
    obtain ⟨va3,vc3,W6,r6,ho6,hm7,-⟩:=YV (fun hz=>(hzt.out hz).fresh (hm1.out.trans hm6)) ho5 hv6 (by rw [hzl.out];omega) hm6 (by simp);rw [hzl.out] at r6 ho6
    have hzz:exps (zs ++ [((.slice g1 xa.length h1,.slice g2 xd.length h2),⟨xk,xs,xb,xp,xg,xo,xa,xd⟩)] ++ zr) = (ins ⟨xk,xs,xb,xp,xg,xo,xa,xd⟩ L).map En.raw:=by
     rw [Zy,Zy,hzs.out,hzx.out,hins.out,List.map_append,List.map_cons,List.append_assoc];rfl
    obtain ⟨hnl,hel⟩:=ho6.el hzz;have hnL:j + 1 + (L.length - j) = L.length + 1:=by omega
    have hR:=hRz.out;unfold exCells at r5;dsimp only at r5;have z0:=(hBk.out _ hm7).cell 0;have zl:=(hBk.out _ hm7).lt;have zf:=(hBk.out _ hm7).frozen 0;simp only [gz0] at z0;have k06:=(hK.out _ hm6).1.1;have kl6:=(hK.out _ hm6).1.2;rw [hnl] at r6;refine hid12 ?_ hn5 hm5 hm6 hm7 ho5 ho6 hzz hel hR f1 f2 hv5;clear hn5 hm5 hm6 hm7 ho5 ho6 hzz hel hR f1 f2 hv5;intro hn5 hm5 hm6 hm7 ho5 ho6 hzz hel hR f1 f2 hv5;refine hid3 ?_ hv6 hnl hnL;clear hv6 hnl hnL;intro hv6 hnl hnL
    go_wp2_with (at_builtin;first | (refine Lib.wpList_append_run _ rfl _ _ _ _ rfl _ _ (by rfl) (by rfl) _ _ r5 ?_;clear r5) | (refine Lib.wpList_append_run _ rfl _ _ _ _ rfl _ _ (by rfl) (by rfl) _ _ r6 ?_;clear r6))
    exact s_end rfl hR.out rfl rfl (hBk.out _ hm7.out) (by omega) hel.out (hm1.out.trans hm7.out)
theorem Zhb {w:World} {va:Option Addr} {vc:Nat} {L:List En} (h:EL w va vc L) {u v:Value} {e:REn} (hin:InE w u v e) (la:e.aid.length≤1000) (ld:e.dom.length≤1000) (hv:rValid e = false) :
  Calls Tryz.prog 73 #[.agg #[.slice va L.length vc],.agg (eCells u v e).toArray] w (LPost26 w L 1):=by
 have hm1:Mod Nowhere w (((w.alloc (.cells #[.slice va L.length vc] 52)).alloc (.cells (eCells u v e).toArray 24)).alloc (.cells #[.slice none 0 0] 52)):=((m1 w [_] _).trans (m1 _ _ _)).trans (m1 _ [_] _)
 have hBk:∀ X,Mod Nowhere (((w.alloc (.cells #[.slice va L.length vc] 52)).alloc (.cells (eCells u v e).toArray 24)).alloc (.cells #[.slice none 0 0] 52)) X→Blk X (w.heap.size + 2) [.slice none 0 0] 52:=fun X hm=>by
  have:=blk_a (w:=(w.alloc (.cells #[.slice va L.length vc] 52)).alloc (.cells (eCells u v e).toArray 24)) [.slice none 0 0] 52 X hm;simpa using this
 have hB2:∀ X,Mod Nowhere (((w.alloc (.cells #[.slice va L.length vc] 52)).alloc (.cells (eCells u v e).toArray 24)).alloc (.cells #[.slice none 0 0] 52)) X→Blk X w.heap.size [.slice va L.length vc] 52:=fun X hm=>(blk_b (w:=w) [.slice va L.length vc] (eCells u v e) 52 24 X ((m1 _ [.slice none 0 0] _).trans hm)).1;have hCk:=XR (hin.fresh hm1) la ld;rw [if_neg (by rw [hv];decide)] at hCk;clear hv;obtain ⟨a1,c1,rfl,-⟩:=hin.sa;obtain ⟨a2,c2,rfl,-⟩:=hin.sd;clear hin;obtain ⟨xk,xs,xb,xp,xg,xo,xa,xd⟩:=e;unfold eCells at *;dsimp only at *;generalize xa.length = n1 at *
 generalize xd.length = n2 at *;have hR:(L,1) = (L,1):=rfl;refine hid5 ?_ h hm1 hBk hB2 hCk;clear h hm1 hBk hB2 hCk;intro h hm1 hBk hB2 hCk;go_enter Tryz.func73,Tryz.ntmps73;go_wp2_with fail;refine (hCk.out).mono ?_;rintro e w1 ⟨rfl,hm⟩;have bR:=hBk.out _ hm;have bS:=hB2.out _ hm;have hmw:=hm1.out.trans hm;have hel:=h.out.fresh hmw;have x0:=bS.cell 0;have xl:=bS.lt;have z0:=bR.cell 0;have zl:=bR.lt;have zf:=bR.frozen 0;simp only [gz0] at x0 z0;refine hid5 ?_ hm bR bS hmw hel;clear hm bR bS hmw hel;intro hm bR bS hmw hel;go_wp2;exact s_end (R:=(L,1)) rfl rfl rfl rfl bR.out (by omega) hel.out hmw.out
theorem Zhc {w:World} {va:Option Addr} {vc:Nat} {L:List En} (h:EL w va vc L) (hi:RInv L) {u v:Value} {e:REn} (hin:InE w u v e) (la:e.aid.length≤1000) (ld:e.dom.length≤1000) :
  Calls Tryz.prog 73 #[.agg #[.slice va L.length vc],.agg (eCells u v e).toArray] w (LPost26 w (if rValid e = true then rAdd L e.en else (L,1)).1 (if rValid e = true then rAdd L e.en else (L,1)).2):=by
 cases hv:rValid e with
 | true =>
  obtain ⟨k1,k2⟩:=((ZB e).1 hv).en hin.ba hin.bd;rw [if_pos rfl];have hin':InE w u v e.en.raw:=by rw [k2];exact hin
  have hq:Calls Tryz.prog 73 #[.agg #[.slice va L.length vc],.agg (eCells u v e.en.raw).toArray] w (LPost26 w (rAdd L e.en).1 (rAdd L e.en).2):=by
   cases hi2:isIss e.en with
   | true=>exact Zha h hi k1 hin' hi2
   | false=>exact Zg9 h hi k1 hin' hi2
  rw [k2] at hq;exact hq
 | false =>
  rw [if_neg (by decide)];exact Zhb h hin la ld hv
theorem ZbZ {w:World} {va vb:Option Addr} {ca cb:Nat} {L M:List En} (h:EL w va ca L) (g:EL w vb cb M) (hi:RInv L) (gi:RInv M) :
  Calls Tryz.prog 80 #[.slice va L.length ca,.slice vb M.length cb] w fun e w'=>e = .returned (.bool (decide (L = M)))∧Mod Nowhere w w':=by
 obtain ⟨ec1,ec2⟩:=h.len0;obtain ⟨fc1,fc2⟩:=g.len0;have h32:=hi.len;by_cases hlen:L.length = M.length
 ·have hS:∀ j (hj:j < L.length) (hk:j < M.length) X u v u' v',DSl X u L[j].aid→DSl X v L[j].dom→DSl X u' M[j].aid→DSl X v' M[j].dom→Calls Tryz.prog 14 #[.agg (eCells u v L[j].raw).toArray,.agg (eCells u' v' M[j].raw).toArray] X fun r w'=>r = .returned (.bool (decide (L[j] = M[j])))∧Mod Nowhere X w':=fun j hj hk X u v u' v' d1 d2 d3 d4=>by
   have k1:=hi.ok _ (List.getElem_mem hj);have k2:=gi.ok _ (List.getElem_mem hk);have x1:=k1.a16;have x2:=k1.d16;have x3:=k2.a16;have x4:=k2.d16;have:=XQ (w:=X) (x:=((u,v),L[j].raw)) (y:=((u',v'),M[j].raw)) (ExD.s ⟨d1,d2⟩ k1.ba k1.bd) (ExD.s ⟨d3,d4⟩ k2.ba k2.bd) (by show L[j].aid.length≤_;omega) (by show L[j].dom.length≤_;omega) (by show M[j].aid.length≤_;omega) (by show M[j].dom.length≤_;omega);rw [show decide (L[j] = M[j]) = decide (L[j].raw = M[j].raw) from decide_eq_decide.2 ⟨fun e=>by rw [e],Ze2⟩];exact this
  obtain ⟨q,hq⟩:∃ q,decide (L = M) = q:=⟨_,rfl⟩;rw [hq];have hli:(L.length:Int) = (M.length:Int):=by omega
  have hlb:((L.length:Int) != (M.length:Int)) = false:=by simp;omega
  refine hid5 ?_ h g hS hq hli;clear h g hS hq hli;intro h g hS hq hli;go_enter Tryz.func80,Tryz.ntmps80;go_wp2_with fail
  go_loopw [5] (fun i wr=>∃ j:Nat,j≤L.length∧i = .int .i64 j∧L.take j = M.take j∧Mod Nowhere w wr) (fun i _=>L.length - (intOf i).toNat)
  case atStart=>exact ⟨0,by omega,rfl,rfl,Mod.refl _ _⟩
  case round =>
   obtain ⟨j,hj,rfl,htk,hmj⟩:=hrel;by_cases hlt:j < L.length
   ·have hlm:j < M.length:=by omega
    have hji:(j:Int) < (L.length:Int):=by omega
    have hjm:(j:Int) < (M.length:Int):=by omega
    obtain ⟨b,off,a1,c1,a2,c2,rfl,-,-,hce⟩:=h.out.ce hlt;obtain ⟨b',off',a3,c3,a4,c4,rfl,-,-,hcm⟩:=g.out.ce hlm;have hnx:L[j] = M[j]→L.take (j + 1) = M.take (j + 1):=fun e=>by rw [List.take_succ_eq_append_getElem hlt,List.take_succ_eq_append_getElem hlm,htk,e]
    have hno:L[j] ≠ M[j]→q = false:=fun e=>by
     rw [← hq.out];exact decide_eq_false fun e2=>e (by subst e2;rfl)
    have hSj:=hS.out j hlt hlm;obtain ⟨x,hx⟩:∃ x,L[j] = x:=⟨_,rfl⟩;obtain ⟨y,hy⟩:∃ y,M[j] = y:=⟨_,rfl⟩;rw [hx] at hce hSj;rw [hy] at hcm hSj;rw [hx,hy] at hnx hno;obtain ⟨d,hd⟩:∃ d,decide (x = y) = d:=⟨_,rfl⟩;rw [hd] at hSj;have hd1:d = true→L.take (j + 1) = M.take (j + 1):=fun e=>hnx (of_decide_eq_true (hd.trans e));have hd2:d = false→q = false:=fun e=>hno (of_decide_eq_false (hd.trans e));clear hd hnx hno;obtain ⟨xk,xs,xb,xp,xg,xo,xa,xd⟩:=x;obtain ⟨yk,ys,yb,yp,yg,yo,ya,yd⟩:=y;unfold eCells at hSj;dsimp only [En.raw] at hce hcm hSj;obtain ⟨⟨p0,p1,p2,p3,p4,p5,p6,p7,pl⟩,-,-⟩:=hce _ hmj;obtain ⟨⟨q0,q1,q2,q3,q4,q5,q6,q7,ql⟩,-,-⟩:=hcm _ hmj
    have hS1:∀ X,Mod Nowhere w X→Calls Tryz.prog 14 _ X _:=fun X hX=>hSj X _ _ _ _ (hce X hX).2.1 (hce X hX).2.2 (hcm X hX).2.1 (hcm X hX).2.2;have hdw:=(Mod.refl Nowhere wr).drew;refine hid11 ?_ hce hcm hSj hS1 hdw hd1 hd2 hx hy htk hmj;clear hce hcm hSj hS1 hdw hd1 hd2 hx hy htk hmj;intro hce hcm hSj hS1 hdw hd1 hd2 hx hy htk hmj;go_wp2_with fail
    go_region_held3 (fun W=>W.cell? ⟨b,off + j * 8,none⟩ = some (.slice a1 xa.length c1)∧W.cell? ⟨b,off + j * 8 + 1,none⟩ = some (.int .i64 xk)∧W.cell? ⟨b,off + j * 8 + 2,none⟩ = some (.int .i64 xs)∧W.cell? ⟨b,off + j * 8 + 3,none⟩ = some (.int .i64 xb)∧W.cell? ⟨b,off + j * 8 + 4,none⟩ = some (.int .i64 xp)∧W.cell? ⟨b,off + j * 8 + 5,none⟩ = some (.slice a2 xd.length c2)∧W.cell? ⟨b,off + j * 8 + 6,none⟩ = some (.int .i64 xg)∧W.cell? ⟨b,off + j * 8 + 7,none⟩ = some (.int .i64 xo) ∧
      W.cell? ⟨b',off' + j * 8,none⟩ = some (.slice a3 ya.length c3)∧W.cell? ⟨b',off' + j * 8 + 1,none⟩ = some (.int .i64 yk)∧W.cell? ⟨b',off' + j * 8 + 2,none⟩ = some (.int .i64 ys)∧W.cell? ⟨b',off' + j * 8 + 3,none⟩ = some (.int .i64 yb)∧W.cell? ⟨b',off' + j * 8 + 4,none⟩ = some (.int .i64 yp)∧W.cell? ⟨b',off' + j * 8 + 5,none⟩ = some (.slice a4 yd.length c4)∧W.cell? ⟨b',off' + j * 8 + 6,none⟩ = some (.int .i64 yg)∧W.cell? ⟨b',off' + j * 8 + 7,none⟩ = some (.int .i64 yo)) (simp [*,World.cell?_alloc_some,World.cell?_setCell_far,World.cell?_setCell_other])
     (first | (go_at_call 14;(with_reducible refine (hS1.out _ (hmj.out.trans hdw.out)).mono ?_);rintro e v1 ⟨rfl,hn3⟩;have hmk:=hmj.out.trans (hdw.out.trans hn3);clear p0 p1 p2 p3 p4 p5 p6 p7 pl q0 q1 q2 q3 q4 q5 q6 q7 ql;obtain ⟨⟨p0,p1,p2,p3,p4,p5,p6,p7,pl⟩,-,-⟩:=hce.out _ hmk;obtain ⟨⟨q0,q1,q2,q3,q4,q5,q6,q7,ql⟩,-,-⟩:=hcm.out _ hmk;replace hn3:=Lib.hid hn3;replace hmk:=Lib.hid hmk) | fail)
    clear p0 p1 p2 p3 p4 p5 p6 p7 pl q0 q1 q2 q3 q4 q5 q6 q7 ql
    cases d
    ·have hz:=hd2.out rfl;replace hz:=Lib.hid hz;go_wp2;go_ret;exact ⟨Za hz.out.symm,hmk.out⟩
    ·have hz:=hd1.out rfl;replace hz:=Lib.hid hz;go_wp2;go_roundw
     case rel=>exact ⟨j + 1,by omega,by go_num,hz.out,hmk.out⟩
     case measure=>simp [intOf];omega
   ·have hji:¬ (j:Int) < (L.length:Int):=by omega
    have hz:q = true:=by
     rw [← hq.out];rw [List.take_of_length_le (by omega),List.take_of_length_le (by omega)] at htk;exact decide_eq_true htk
    refine hid3 ?_ hz htk hmj;clear hz htk hmj;intro hz htk hmj;go_wp2;go_ret;exact ⟨Za hz.out.symm,hmj.out⟩
 ·have hq:decide (L = M) = false:=decide_eq_false fun e=>hlen (by rw [e]);rw [hq];have hlb:((L.length:Int) != (M.length:Int)) = true:=by simp;omega
  refine hid3 ?_ h g hq;clear h g hq;intro h g hq;go_enter Tryz.func80,Tryz.ntmps80;go_wp2;go_ret;exact ⟨rfl,Mod.refl _ _⟩
end Go.Proofs.YthmahbfmfpjjcaaGreat
