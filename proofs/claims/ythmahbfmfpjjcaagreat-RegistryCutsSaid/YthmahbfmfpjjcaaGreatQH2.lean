/-
  The reference of the registry: a list of entries gets others.
-/
import Derived.Test.YthmahbfmfpjjcaaGreatQH1
set_option linter.unusedVariables false
set_option linter.unusedSimpArgs false
set_option maxHeartbeats 16000000
set_option maxRecDepth 100000
namespace Go.Proofs.YthmahbfmfpjjcaaGreat
open Go.RowKit
open Jn Vn Rg
attribute [local go_sem] Oper.semAt_some
theorem YV {w W:World} {B:Nat} {zs:List Ex} {ua:Option Addr} {uc:Nat} (hz:zs.length ≠ 0→ESl W (.slice ua zs.length uc) zs) {va:Option Addr} {L vcap:Nat} {ys:List Ex} (ho:EOwn W B va L vcap ys) (hB:B≤W.heap.size) (hL:L + zs.length≤1000) (hm:Mod Nowhere w W) (hw:w.heap.size≤B) :
  ∃ (va':Option Addr) (vcap':Nat) (W2:World),
   (Builtin.append_ #[40,40] 40 #[.slice va L vcap,.slice ua zs.length uc]).run Tryz.prog W = .ok (.slice va' (L + zs.length) vcap') W2 ∧
   EOwn W2 B va' (L + zs.length) vcap' (ys ++ zs)∧Mod Nowhere w W2∧Mod (Above B) W W2:=by
 obtain ⟨i0,hi0,hz0,hz1,hz2⟩:=info_parts XN;by_cases h0:zs.length = 0
 ·have hy:zs = []:=List.eq_nil_of_length_eq_zero h0;subst hy
  have hc:L≤vcap:=by
   obtain ⟨a,c,e,hc⟩:=Zg ho.own;simp at e;rw [e.2];exact hc
  refine ⟨va,vcap,W,YF (P:=Tryz.prog) W 40 40 24 i0 Tryz.underlying40 hi0 va ua L vcap uc hc,by rw [List.append_nil];exact ho,hm,Mod.refl _ _⟩
 ·replace hz:=hz h0;obtain ⟨b,off,cap,e0,hb,h1,h2,hc,hlast⟩:=hz.sl.open (by omega);simp at e0;obtain ⟨rfl,rfl⟩:=e0;have hxl:(exsCells zs).length = zs.length * 8:=hz.sl.1
  have hnews:∀ j u,(exsCells zs)[j]? = some u→W.cell? ((⟨b,off,none⟩:Addr).add j) = some u:=fun j u hj=>by
   have hjl:=(List.getElem?_eq_some_iff.1 hj).1;rw [add_lit,hc j (by omega),gd0,hj];rfl
  have hone:∀ u ∈ exsCells zs,u.oneCell' = true:=by
   intro u hu;unfold exsCells at hu;obtain ⟨x,hx,hu⟩:=List.mem_flatMap.1 hu;have hd:=hz.data x hx;obtain ⟨a1,c1,e1,-⟩:=Sl.len hd.da;obtain ⟨a2,c2,e2,-⟩:=Sl.len hd.dd;unfold exCells at hu;rw [e1,e2] at hu;simp only [List.mem_cons,List.not_mem_nil,or_false] at hu;rcases hu with rfl | rfl | rfl | rfl | rfl | rfl | rfl | rfl <;> rfl
  obtain ⟨g,gc,w',hr,ho',hg,_,_⟩:=run_append_lies (P:=Tryz.prog) W 40 40 B 24 i0 _ 8 96 Tryz.underlying40 hi0 hz0 hz1 hz2 rfl (by decide) (.slice va L vcap) L (exsCells ys) ho.own ⟨b,off,none⟩ zs.length _ (exsCells zs) hxl hnews hone (by omega) (by unfold maxLen;omega) (by omega) hB _ rfl;obtain ⟨b1,b2,b3⟩:=Za9 ho.own hg;have hsh:=b3 5 (by decide);refine ⟨_,gc,w',hr,⟨by rw [List.length_append,← ho.len],by rw [Za7];exact ho',fun y hy=>?_⟩,hm.step b1 fun i hi e=>absurd hi (by have:=b2 i e;omega),b1.mono fun i hi e=>b2 i e⟩;rcases List.mem_append.1 hy with e' | e'
  ·exact (ho.data y e').mod b1 hsh
  ·exact (hz.data y e').mod b1 hsh
theorem EOwn.el {w:World} {B n cap:Nat} {va:Option Addr} {zs:List Ex} (h:EOwn w B va n cap zs) {L:List En} (hx:exps zs = L.map En.raw):n = L.length∧EL w va cap L:=by
 have hl:zs.length = L.length:=by rw [← Zs,hx,List.length_map]
 have h1:=h.len;refine ⟨by omega,zs,?_,hx⟩;rw [← hl,← h1];exact h.esl
theorem ZgZ {X:World} {u v:Value} {e:En} (h:CE X u v e):Calls Tryz.prog 112 #[.agg (eCells u v e.raw).toArray] X fun r w'=>r = .returned (.bool (isIss e))∧Mod Nowhere X w':=by
 have:=h.ok.a16;have:=h.ok.d16;have hq:=XT h.inE (by show e.aid.length≤1000;omega) (by show e.dom.length≤1000;omega)
 have hb:(decide (e.raw.kind = 1) && decide (e.raw.aid = e.raw.dom)) = isIss e:=by
  unfold isIss
  show (decide ((e.kind:Int) = 1) && _) = _
  by_cases e1:e.kind = 1 <;> simp [e1,En.raw]
  omega
 rw [hb] at hq;exact hq
theorem Zg0 {w:World} {va:Option Addr} {vc:Nat} {L:List En} (h:EL w va vc L) (hi:RInv L) {t:Value} {a:List Nat} (ht:Src w t a) (ba:Bytes a) (la:a.length≤1000) :
  Calls Tryz.prog 74 #[.agg #[.slice va L.length vc],t] w (LPost26 w (rRemove L a).1 (rRemove L a).2):=by
 obtain ⟨ec1,ec2⟩:=h.len0;have h32:=hi.len;have hm1:=m2z w [.slice va L.length vc] [.slice none 0 0] 52 52;have hB:=blk_b (w:=w) [.slice va L.length vc] [.slice none 0 0] 52 52;have hF:=ZI (h.fresh hm1) hi (ht.fresh hm1) ba la;obtain ⟨ta,tc,rfl,-⟩:=id ht;obtain ⟨R,hR⟩:∃ R,rRemove L a = R:=⟨_,rfl⟩;rw [hR];unfold rRemove at hR;rcases ZJ (L:=L) (a:=a) with ⟨h1,h2⟩ | ⟨k,hk,h1,h2,hka⟩
 ·rw [h1] at hF;rw [h2] at hR;have hR:R = (L,12):=hR.symm;clear h1 h2;generalize a.length = n at *;refine hid6 ?_ h hB hF hm1 ht hR;clear h hB hF hm1 ht hR;intro h hB hF hm1 ht hR;go_enter Tryz.func74,Tryz.ntmps74;go_wp2_with fail;refine (hF.out).mono ?_;rintro e w1 ⟨rfl,hm⟩;obtain ⟨bS,bR⟩:=hB.out w1 hm;have hmw:=hm1.out.trans hm;have hel:=h.out.fresh hmw;have x0:=bS.cell 0;have xl:=bS.lt;have z0:=bR.cell 0;have zl:=bR.lt;have zf:=bR.frozen 0;simp only [gz0] at x0 z0;refine hid5 ?_ hm hmw bS bR hel;clear hm hmw bS bR hel;intro hm hmw bS bR hel;go_wp2;exact s_end rfl hR.out rfl rfl bR.out (by omega) hel.out hmw.out
 ·rw [h1] at hF;rw [h2] at hR;dsimp only at hR;have hok:=hi.ok _ (List.getElem_mem hk);obtain ⟨b,off,a1,c1,a2,c2,rfl,-,-,hce⟩:=h.ce hk;have hki:(k:Int) < (L.length:Int):=by omega
  obtain ⟨en,hen⟩:∃ en,L[k] = en:=⟨_,rfl⟩;rw [hen] at hce hok hR hka;have hI:∀ X u v,DSl X u en.aid→DSl X v en.dom→Calls Tryz.prog 112 #[.agg (eCells u v en.raw).toArray] X fun r w'=>r = .returned (.bool (isIss en))∧Mod Nowhere X w':=fun X u v d1 d2=>ZgZ ⟨d1,d2,hok⟩;have hD:∀ j (hj:j < L.length) X u v u' v',DSl X u L[j].aid→DSl X v L[j].dom→DSl X u' en.aid→DSl X v' en.dom→Calls Tryz.prog 117 #[.agg (eCells u v L[j].raw).toArray,.agg (eCells u' v' en.raw).toArray] X fun r w'=>r = .returned (.bool (depR en L[j]))∧Mod Nowhere X w':=fun j hj X u v u' v' d1 d2 d3 d4=>ZfO ⟨d1,d2,hi.ok _ (List.getElem_mem hj)⟩ ⟨d3,d4,hok⟩
  have hne:∀ j (hj:j < L.length),j ≠ k→L[j].aid ≠ a∧dep en L[j] = depR en L[j]:=fun j hj hjk=>by
   have h0:L[j].aid ≠ L[k].aid:=fun e=>hjk (Zbl hi.srt hj hk e);rw [hen] at h0;exact ⟨by rw [← hka];exact h0,ZfK h0⟩
  have hat:dep en L[k] = false∧L[k].aid = a:=by rw [hen];exact ⟨ZfL rfl,hka⟩
  have hR14:isIss en = true→R = (L,14):=fun hq=>by rw [← hR,if_pos hq]
  have hR15:isIss en = false→L.any (dep en) = true→R = (L,15):=fun hq hd=>by rw [← hR,if_neg (by rw [hq];decide),if_pos hd]
  have hR0:isIss en = false→L.any (dep en) = false→R = (keepN L a L.length,0):=fun hq hd=>by rw [← hR,if_neg (by rw [hq];decide),if_neg (by rw [hd];decide),ZfJ a (Nat.le_refl _)]
  obtain ⟨pd,hpd⟩:∃ pd,dep en = pd:=⟨_,rfl⟩;rw [hpd] at hne hat hR15 hR0;generalize isIss en = is at *;generalize hdr:depR en = dr at *;clear hR h1 h2 hka;obtain ⟨yk,ys,yb,yp,yg,yo,ya,yd⟩:=en;unfold eCells at hI;dsimp only [En.raw] at hce hI hD;generalize a.length = n at *;refine hid12 ?_ h hB hF hm1 ht hce hen hok hI hD hne hat;clear h hB hF hm1 ht hce hen hok hI hD hne hat;intro h hB hF hm1 ht hce hen hok hI hD hne hat;refine hid5 ?_ hR14 hR15 hR0 hpd hdr;clear hR14 hR15 hR0 hpd hdr;intro hR14 hR15 hR0 hpd hdr;go_enter Tryz.func74,Tryz.ntmps74;go_wp2_with fail;refine (hF.out).mono ?_;rintro e w1 ⟨rfl,hm⟩
  obtain ⟨bS,bR⟩:=hB.out w1 hm;have hmw:=hm1.out.trans hm;obtain ⟨⟨q0,q1,q2,q3,q4,q5,q6,q7,ql⟩,d1,d2⟩:=hce.out w1 hmw;have hI1:=hI.out w1 _ _ d1 d2;have x0:=bS.cell 0;have xl:=bS.lt;have z0:=bR.cell 0;have zl:=bR.lt;have zf:=bR.frozen 0;simp only [gz0] at x0 z0;clear d1 d2;refine hid5 ?_ hm hmw bS bR hI1;clear hm hmw bS bR hI1;intro hm hmw bS bR hI1;go_wp2_with fail;refine (hI1.out).mono ?_;rintro e w2 ⟨rfl,hm2⟩;have hmb:=hm.out.trans hm2;have hmw2:=hm1.out.trans hmb;obtain ⟨bS2,bR2⟩:=hB.out w2 hmb;clear q0 q1 q2 q3 q4 q5 q6 q7 ql x0 xl z0 zl zf;have x0:=bS2.cell 0;have xl:=bS2.lt;have z0:=bR2.cell 0;have zl:=bR2.lt;have zf:=bR2.frozen 0;simp only [gz0] at x0 z0
  cases is
  ·have hsz:w.heap.size + 2≤w2.heap.size:=by have:=hmb.size;simp at this;omega
   refine hid5 ?_ hm2 hmb hmw2 bS2 bR2;clear hm2 hmb hmw2 bS2 bR2;intro hm2 hmb hmw2 bS2 bR2;go_wp2_with fail
   go_loopw [7,8] (fun v i wr=>∃ (j nl:Nat) (va':Option Addr) (vc':Nat) (zs:List Ex),j≤L.length∧i = .int .i64 j∧v = .slice va' nl vc'∧nl≤j∧EOwn wr (w.heap.size + 2) va' nl vc' zs∧exps zs = (keepN L a j).map En.raw∧(L.take j).any pd = false∧Mod Nowhere ((w.alloc (.cells #[.slice (some ⟨b,off,none⟩) L.length vc] 52)).alloc (.cells #[.slice none 0 0] 52)) wr) (fun _ i _=>L.length - (intOf i).toNat)
   case atStart=>exact ⟨0,0,none,0,[],by omega,rfl,rfl,by omega,EOwn.nil _ _,rfl,rfl,hmb.out⟩
   case round =>
    obtain ⟨j,nl,va',vc',zs,hj,rfl,rfl,hnl,hown,hzs,hany,hmj⟩:=hrel;have hmwj:=hm1.out.trans hmj;obtain ⟨bS3,bR3⟩:=hB.out wr hmj;clear x0 xl z0 zl zf;have x0:=bS3.cell 0;have xl:=bS3.lt;have z0:=bR3.cell 0;have zl:=bR3.lt;have zf:=bR3.frozen 0;simp only [gz0] at x0 z0;by_cases hlt:j < L.length
    ·have hji:(j:Int) < (L.length:Int):=by omega
     by_cases hjk:j = k
     ·subst hjk;have hnx:(L.take (j + 1)).any pd = false:=by rw [Yi pd hlt,hany,hat.out.1];rfl
      have hkn:exps zs = (keepN L a (j + 1)).map En.raw:=by rw [ZfH hlt hat.out.2];exact hzs
      have hjb:((j:Int) != (j:Int)) = false:=by simp
      refine hid9 ?_ bS3 bR3 hmj hmwj hown hzs hany hnx hkn;clear bS3 bR3 hmj hmwj hown hzs hany hnx hkn;intro bS3 bR3 hmj hmwj hown hzs hany hnx hkn;go_wp2;go_roundw
      case rel=>exact ⟨j + 1,nl,va',vc',zs,by omega,by go_num,rfl,by omega,hown.out,hkn.out,hnx.out,hmj.out⟩
      case measure=>simp [intOf];omega
     ·have hjb:((j:Int) != (k:Int)) = true:=by simp;omega
      obtain ⟨hn1,hn2⟩:=hne.out j hlt hjk;have hnx:=Yi pd hlt;rw [hany,hn2,Bool.false_or] at hnx;have hkn:=ZfI hlt hn1;have hall:dr L[j] = true→L.any pd = true:=fun hq=>Yj hlt (by rw [hn2];exact hq);obtain ⟨b',off',a3,c3,a4,c4,e0,-,-,hcj⟩:=h.out.ce hlt
      cases e0
      have hDj:=hD.out j hlt;obtain ⟨ej,hej⟩:∃ ej,L[j] = ej:=⟨_,rfl⟩;rw [hej] at hcj hDj hnx hkn hall;generalize dr ej = dq at *;obtain ⟨xk,xs,xb,xp,xg,xo,xa,xd⟩:=ej;unfold eCells at hDj;dsimp only [En.raw] at hcj hDj;obtain ⟨⟨q0,q1,q2,q3,q4,q5,q6,q7,ql⟩,-,-⟩:=hcj wr hmwj;obtain ⟨⟨y0,y1,y2,y3,y4,y5,y6,y7,yl⟩,-,-⟩:=hce.out wr hmwj;have hD1:∀ X,Mod Nowhere w X→Calls Tryz.prog 117 _ X _:=fun X hX=>hDj X _ _ _ _ (hcj X hX).2.1 (hcj X hX).2.2 (hce.out X hX).2.1 (hce.out X hX).2.2;have hdw:=(Mod.refl Nowhere wr).drew;refine hid12 ?_ bS3 bR3 hmj hmwj hown hzs hany hnx hkn hall hDj hcj;clear bS3 bR3 hmj hmwj hown hzs hany hnx hkn hall hDj hcj;intro bS3 bR3 hmj hmwj hown hzs hany hnx hkn hall hDj hcj;refine hid5 ?_ hej hn1 hn2 hD1 hdw;clear hej hn1 hn2 hD1 hdw;intro hej hn1 hn2 hD1 hdw
      go_wp2_with fail
      go_region_held3 (fun W=>W.cell? ⟨w.heap.size,0,none⟩ = some (.slice (some ⟨b,off,none⟩) L.length vc)∧W.cell? ⟨b,off + j * 8,none⟩ = some (.slice a3 xa.length c3)∧W.cell? ⟨b,off + j * 8 + 1,none⟩ = some (.int .i64 xk)∧W.cell? ⟨b,off + j * 8 + 2,none⟩ = some (.int .i64 xs)∧W.cell? ⟨b,off + j * 8 + 3,none⟩ = some (.int .i64 xb)∧W.cell? ⟨b,off + j * 8 + 4,none⟩ = some (.int .i64 xp)∧W.cell? ⟨b,off + j * 8 + 5,none⟩ = some (.slice a4 xd.length c4)∧W.cell? ⟨b,off + j * 8 + 6,none⟩ = some (.int .i64 xg)∧W.cell? ⟨b,off + j * 8 + 7,none⟩ = some (.int .i64 xo) ∧
        W.cell? ⟨b,off + k * 8,none⟩ = some (.slice a1 ya.length c1)∧W.cell? ⟨b,off + k * 8 + 1,none⟩ = some (.int .i64 yk)∧W.cell? ⟨b,off + k * 8 + 2,none⟩ = some (.int .i64 ys)∧W.cell? ⟨b,off + k * 8 + 3,none⟩ = some (.int .i64 yb)∧W.cell? ⟨b,off + k * 8 + 4,none⟩ = some (.int .i64 yp)∧W.cell? ⟨b,off + k * 8 + 5,none⟩ = some (.slice a2 yd.length c2)∧W.cell? ⟨b,off + k * 8 + 6,none⟩ = some (.int .i64 yg)∧W.cell? ⟨b,off + k * 8 + 7,none⟩ = some (.int .i64 yo)) (simp [*,World.cell?_alloc_some,World.cell?_setCell_far,World.cell?_setCell_other])
       (first | (go_at_call 117;(with_reducible refine (hD1.out _ (hmwj.out.trans hdw.out)).mono ?_);rintro e v1 ⟨rfl,hm3⟩;have hmj2:=hmj.out.trans (hdw.out.trans hm3);have hmw3:=hmwj.out.trans (hdw.out.trans hm3);obtain ⟨bS4,bR4⟩:=hB.out v1 hmj2;obtain ⟨⟨p0,p1,p2,p3,p4,p5,p6,p7,pl⟩,f1,f2⟩:=hcj.out v1 hmw3;obtain ⟨⟨g0,g1,g2,g3,g4,g5,g6,g7,gl⟩,-,-⟩:=hce.out v1 hmw3;have u0:=bS4.cell 0;have ul:=bS4.lt;have t0:=bR4.cell 0;have tl:=bR4.lt;have tf:=bR4.frozen 0;simp only [gz0] at u0 t0;replace hm3:=Lib.hid hm3;replace hmj2:=Lib.hid hmj2;replace hmw3:=Lib.hid hmw3;replace bS4:=Lib.hid bS4;replace bR4:=Lib.hid bR4;replace f1:=Lib.hid f1;replace f2:=Lib.hid f2) | fail)
      clear g0 g1 g2 g3 g4 g5 g6 g7 gl q0 q1 q2 q3 q4 q5 q6 q7 y0 y1 y2 y3 y4 y5 y6 y7 x0 z0 zf ql yl xl zl
      cases dq
      ·have hvs:w.heap.size + 2≤v1.heap.size:=by have:=hmj2.out.size;simp at this;omega
       obtain ⟨va2,vc2,W2,r3,ho2,hm4,-⟩:=e_put (x:=((.slice a3 xa.length c3,.slice a4 xd.length c4),⟨xk,xs,xb,xp,xg,xo,xa,xd⟩)) ⟨f1.out,f2.out⟩ (hown.out.fresh (hdw.out.trans hm3.out)) hvs (by omega) hmj2.out (by simp)
       have hrel:exps (zs ++ [((.slice a3 xa.length c3,.slice a4 xd.length c4),⟨xk,xs,xb,xp,xg,xo,xa,xd⟩)]) = (keepN L a (j + 1)).map En.raw:=by
        rw [Zy,hkn.out,List.map_append,hzs.out];rfl
       unfold exCells at r3;dsimp only at r3;refine hid3 ?_ hrel ho2 hm4;clear hrel ho2 hm4;intro hrel ho2 hm4
       go_wp2_with (at_builtin;refine Lib.wpList_append_run _ rfl _ _ _ _ rfl _ _ (by rfl) (by rfl) _ _ r3 ?_;clear r3)
       go_roundw
       case rel=>exact ⟨j + 1,nl + 1,va2,vc2,_,by omega,by go_num,rfl,by omega,ho2.out,hrel.out,hnx.out,hm4.out⟩
       case measure=>simp [intOf];omega
      ·have hR:=hR15.out (by first | rfl | trivial) (hall.out rfl);have hel:=h.out.fresh hmw3.out;refine hid2 ?_ hel hR;clear hel hR;intro hel hR;go_wp2;exact s_end rfl hR.out rfl rfl bR4.out (by omega) hel.out hmw3.out
    ·have hji:¬ (j:Int) < (L.length:Int):=by omega
     have hje:j = L.length:=by omega
     rw [hje] at hzs hany;rw [List.take_length] at hany;have hR:=hR0.out (by first | rfl | trivial) hany;obtain ⟨rfl,hel⟩:=hown.el hzs;refine hid9 ?_ bS3 bR3 hmj hmwj hown hzs hany hR hel;clear bS3 bR3 hmj hmwj hown hzs hany hR hel;intro bS3 bR3 hmj hmwj hown hzs hany hR hel;go_wp2;exact s_end rfl hR.out rfl rfl bR3.out (by omega) hel.out hmwj.out
  ·have hR:=hR14.out rfl;have hel:=h.out.fresh hmw2;refine hid7 ?_ hm2 hmb hmw2 bS2 bR2 hel hR;clear hm2 hmb hmw2 bS2 bR2 hel hR;intro hm2 hmb hmw2 bS2 bR2 hel hR;go_wp2;exact s_end rfl hR.out rfl rfl bR2.out (by omega) hel.out hmw2.out
theorem X7:∀ (zs:List Ex) (k:Nat),exsCells (zs.drop k) = (exsCells zs).drop (k * 8)
 | zs,0=>rfl
 | [],k + 1=>by simp [exsCells]
 | z :: zs,k + 1=>by
  show exsCells (zs.drop k) = (exCells z ++ exsCells zs).drop ((k + 1) * 8)
  rw [X7 zs k,List.drop_append,show (exCells z).drop ((k + 1) * 8) = [] from List.drop_eq_nil_of_le (by rw [ZV];omega),List.nil_append,ZV,show (k + 1) * 8 - 8 = k * 8 by omega]
theorem EL.rest {w:World} {va:Option Addr} {vc:Nat} {L:List En} (h:EL w va vc L) {k:Nat} (hk:k≤L.length) :
  ∃ ta tc,(∀ W,(Instr.slice 40 (.slice va L.length vc) (some (.int .i64 k)) none none).run Tryz.prog W = .ok (.slice ta (L.length - k) tc) W) ∧
   ∃ zs,zs.length = L.length - k∧exps zs = (L.drop k).map En.raw∧(zs.length ≠ 0→ESl w (.slice ta zs.length tc) zs):=by
 obtain ⟨e1,e2⟩:=h.len0;obtain ⟨xs,hs,hx⟩:=h;have hl:xs.length = L.length:=by rw [← Zs,hx,List.length_map]
 obtain ⟨i0,hi0,hz0,hz1,hz2⟩:=info_parts XN
 have hxd:exps (xs.drop k) = (L.drop k).map En.raw:=by
  unfold exps at hx ⊢;rw [List.map_drop,List.map_drop,hx]
 have hk1:(k:Int)≤(L.length:Int):=by omega
 rcases hs.sl.2 with ⟨e,h0⟩ | ⟨b,off,cap,cs,e,hb,h1,h2,h3,h4⟩
 ·simp at e;obtain ⟨rfl,-,rfl⟩:=e;have hL:L.length = 0:=by omega
  have hk0:k = 0:=by omega
  subst hk0;rw [hL];refine ⟨none,0,fun W=>?_,xs.drop 0,by rw [List.drop_zero,hl];omega,hxd,fun hn=>absurd (by rw [List.drop_zero,hl];omega) hn⟩;simp [Instr.slice,Instr.sliceBounds,Instr.sliceBound,run_underlying Tryz.underlying40,asIntOf,sizeOf,typeInfo,hi0,hz1,add_lit]
 ·simp at e;obtain ⟨rfl,-,rfl⟩:=e;by_cases hc:k < vc
  ·refine ⟨some ⟨b,off + k * 8,none⟩,vc - k,fun W=>?_,xs.drop k,by rw [List.length_drop,hl],hxd,fun hn=>?_⟩
   ·have h3':vc - k ≠ 0:=by omega
    simp [Instr.slice,Instr.sliceBounds,Instr.sliceBound,run_underlying Tryz.underlying40,asIntOf,sizeOf,typeInfo,hi0,hz1,add_lit,hk,h3',show ¬ vc = k by omega,show ¬ vc < L.length by omega]
   ·refine ⟨⟨?_,.inr ⟨b,off + k * 8,vc - k,cs,?_,hb,?_,?_,?_,?_⟩⟩,fun x hx'=>hs.data x (List.mem_of_mem_drop hx')⟩
    ·rw [X7,List.length_drop,hs.sl.1,List.length_drop,Nat.sub_mul]
    ·rfl
    ·rw [List.length_drop];omega
    ·omega
    ·omega
    ·rw [X7,← h4,List.drop_take,List.drop_drop,List.length_drop,Nat.sub_mul]
  ·have hn:L.length = k:=by omega
   have hcv:vc = k:=by omega
   refine ⟨some ⟨b,off,none⟩,0,fun W=>?_,xs.drop k,by rw [List.length_drop,hl],hxd,fun hn=>absurd (by rw [List.length_drop,hl];omega) hn⟩;rw [hn,hcv];simp [Instr.slice,Instr.sliceBounds,Instr.sliceBound,run_underlying Tryz.underlying40,asIntOf,sizeOf,typeInfo,hi0,hz1,add_lit]
theorem ZbU {w:World} {u v:Value} {e:En} (h:InE w u v e.raw) (hp:e.pr≤31):Calls Tryz.prog 115 #[.agg (eCells u v e.raw).toArray] w fun r w'=>r = .returned (.bool (isImp e))∧Mod Nowhere w w':=by
 have hA:=m1 w (eCells u v e.raw) 24;obtain ⟨a1,c1,rfl,-⟩:=h.sa;obtain ⟨a2,c2,rfl,-⟩:=h.sd;clear h;obtain ⟨k,st,bf,pr,pk,ob,aid,dom⟩:=e;have hr:decide ((1:Int)≤(pr:Int) % 2) = decide (pr % 2 = 1):=decide_eq_decide.2 (by omega);unfold isImp;dsimp only [En.raw] at *;unfold eCells at *;dsimp only at *;generalize aid.length = n1 at *;generalize dom.length = n2 at *;generalize decide (pr % 2 = 1) = q at *;replace hA:=Lib.hid hA;go_enter Tryz.func115,Tryz.ntmps115;go_wp2;go_ret;exact ⟨Za (by first | rfl | simpa using hr),hA.out⟩
theorem ZbV {w:World} {u v:Value} {e:En} (h:InE w u v e.raw) (l1:e.aid.length≤1000) (l2:e.dom.length≤1000) :
  Calls Tryz.prog 116 #[.agg (eCells u v e.raw).toArray] w fun r w'=>∃ u' v',r = .returned (.agg (eCells u' v' e.raw).toArray)∧DSl w' u' e.aid∧DSl w' v' e.dom∧Mod Nowhere w w':=by
 have hAp:∀ X s (d:List Nat),Src X s d→d.length≤1000→∃ ga gc w',(Builtin.append_ #[22,22] 22 #[.slice (some ⟨X.heap.size,0,none⟩) 0 0,s]).run Tryz.prog (X.alloc (.cells #[] 5)) = .ok (.slice ga d.length gc) w'∧DSl w' (.slice ga d.length gc) d∧Mod Nowhere X w':=fun X s d hs hd=>by
  have hm0:Mod Nowhere X (X.alloc (.cells #[] 5)):=(Mod.refl _ X).alloc _;obtain ⟨ga,gc,w',h1,h2,h3⟩:=XL (XK X) (hs.fresh hm0) (by omega) (by simp) 22;exact ⟨ga,gc,w',h1,Sl.of_owns h2,hm0.step h3 fun i hi e=>by have e:X.heap.size≤i:=e;omega⟩
 have hB:=blk_b (w:=w) (eCells u v e.raw) zero8 24 24;have hm1:=m2z w (eCells u v e.raw) zero8 24 24;obtain ⟨g1,k1,w1,r1,d1,n1⟩:=hAp _ u e.aid (h.sa.fresh hm1) l1;have hmw:=hm1.trans n1;obtain ⟨bE,bR⟩:=hB _ n1;have hsd:=h.sd;obtain ⟨a1,c1,rfl,-⟩:=h.sa;obtain ⟨a2,c2,rfl,-⟩:=id hsd;clear h;obtain ⟨k,st,bf,pr,pk,ob,aid,dom⟩:=e;unfold zero8 eCells at *;dsimp only [En.raw] at *;simp only [World.size_alloc] at r1;have bE1:=bE.setCell 0 (.slice g1 aid.length k1);have p1:Mod (fun j=>j = w.heap.size) w1 (w1.setCell ⟨w.heap.size,0,none⟩ (.slice g1 aid.length k1)):=(Mod.refl (fun j=>j = w.heap.size) w1).setCell (p:=⟨w.heap.size,0,none⟩) (fun _=>rfl) _;have hmx:=hmw.own p1 (Nat.le_refl _)
 have bR1:=bR.mod p1 (fun e=>by have e:w.heap.size + 1 = w.heap.size:=e;omega);have d1':=DSl.mod d1 p1 (shun1 bE (by decide));obtain ⟨X,hX⟩:∃ X,w1.setCell ⟨w.heap.size,0,none⟩ (.slice g1 aid.length k1) = X:=⟨_,rfl⟩;rw [hX] at bE1 p1 hmx bR1 d1';obtain ⟨g2,k2,w2,r2,d2,n2⟩:=hAp X _ dom (hsd.fresh hmx) l2;have hmy:=hmx.trans n2;have bE2:=bE1.mod n2 id;have bR2:=bR1.mod n2 id;have bE3:=bE2.setCell 5 (.slice g2 dom.length k2);have p2:Mod (fun j=>j = w.heap.size) w2 (w2.setCell ⟨w.heap.size,5,none⟩ (.slice g2 dom.length k2)):=(Mod.refl (fun j=>j = w.heap.size) w2).setCell (p:=⟨w.heap.size,5,none⟩) (fun _=>rfl) _;have hmz:=hmy.own p2 (Nat.le_refl _)
 have bR3:=bR2.mod p2 (fun e=>by have e:w.heap.size + 1 = w.heap.size:=e;omega);have f1:=DSl.mod (d1'.fresh n2) p2 (shun1 bE2 (by decide));have f2:=DSl.mod d2 p2 (shun1 bE2 (by decide));obtain ⟨Y,hY⟩:∃ Y,w2.setCell ⟨w.heap.size,5,none⟩ (.slice g2 dom.length k2) = Y:=⟨_,rfl⟩;rw [hY] at bE3 p2 hmz bR3 f1 f2;simp only [List.set_cons_zero,List.set_cons_succ] at bE1 bE2 bE3;have hb8:=blk8 bR3 (.slice g1 aid.length k1) (.int .i64 k) (.int .i64 st) (.int .i64 bf) (.int .i64 pr) (.slice g2 dom.length k2) (.int .i64 pk) (.int .i64 ob);unfold put8 at hb8;have hs1:=shun1 (U:=5) bR3 (by decide);have e1:=DSl.mod f1 hb8.2 hs1
 have e2:=DSl.mod f2 hb8.2 hs1;have hmf:=hmz.own hb8.2 (by omega);have hbl:=hb8.1;clear hb8 hs1 f1 f2 d1 d1' d2;have x0:=bE.cell 0;have xf:=bE.frozen 0;have xl:=bE.lt;have v5:=bE1.cell 5;have vl:=bE1.lt;have u5:=bE2.cell 5;have ul:=bE2.lt;have uf:=bE2.frozen 5;have z0:=bE3.cell 0;have z1:=bE3.cell 1;have z2:=bE3.cell 2;have z3:=bE3.cell 3;have z4:=bE3.cell 4;have z5:=bE3.cell 5;have z6:=bE3.cell 6;have z7:=bE3.cell 7;have zl:=bE3.lt;have yl:=bR3.lt;have y0:=bR3.cell 0;have y1:=bR3.cell 1;have y2:=bR3.cell 2;have y3:=bR3.cell 3;have y4:=bR3.cell 4;have y5:=bR3.cell 5;have y6:=bR3.cell 6;have y7:=bR3.cell 7;have yf0:=bR3.frozen 0;have yf1:=bR3.frozen 1;have yf2:=bR3.frozen 2;have yf3:=bR3.frozen 3;have yf4:=bR3.frozen 4;have yf5:=bR3.frozen 5;have yf6:=bR3.frozen 6;have yf7:=bR3.frozen 7
 simp only [gz0,gs0] at y0 y1 y2 y3 y4 y5 y6 y7;simp only [gz0,gs0] at x0 v5 u5 z0 z1 z2 z3 z4 z5 z6 z7;generalize aid.length = m1 at *;generalize dom.length = m2 at *;clear l1 l2;refine hid12 ?_ hAp hB hm1 hmw bE bR hsd bE1 p1 hmx bR1 n1;clear hAp hB hm1 hmw bE bR hsd bE1 p1 hmx bR1 n1;intro hAp hB hm1 hmw bE bR hsd bE1 p1 hmx bR1 n1;refine hid12 ?_ n2 hmy bE2 bR2 bE3 p2 hmz bR3 e1 e2 hmf hbl;clear n2 hmy bE2 bR2 bE3 p2 hmz bR3 e1 e2 hmf hbl;intro n2 hmy bE2 bR2 bE3 p2 hmz bR3 e1 e2 hmf hbl;go_enter Tryz.func116,Tryz.ntmps116
 go_wp2_with (at_builtin;first | (refine Lib.wpList_append_run _ rfl _ _ _ _ rfl _ _ (by rfl) (by rfl) _ _ r1 ?_;clear r1) | (refine Lib.wpList_append_run _ rfl _ _ _ _ rfl _ _ (by rfl) (by rfl) _ _ r2 ?_;clear r2))
 refine bodyPost_ret (XP rfl _ _ (w.heap.size + 1) _ _ _ _ _ _ _ _ rfl hbl.out) rfl ?_;exact ⟨_,_,rfl,e1.out,e2.out,hmf.out⟩
end Go.Proofs.YthmahbfmfpjjcaaGreat
