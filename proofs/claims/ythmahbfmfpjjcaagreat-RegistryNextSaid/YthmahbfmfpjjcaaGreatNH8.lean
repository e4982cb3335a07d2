/-
  The law RegistryNext.
-/
import Derived.Test.YthmahbfmfpjjcaaGreatNH5
import Derived.Test.YthmahbfmfpjjcaaGreatNH7
set_option linter.unusedVariables false
set_option linter.unusedSimpArgs false
set_option maxRecDepth 100000
namespace Go.Proofs.YthmahbfmfpjjcaaGreat
open Go.RowKit
open Jn Vn Rg
attribute [local go_sem] Oper.semAt_some
theorem fewB_op {l:List OpI} (h:fewB l = true) {k:Nat} (hk:k < l.length):l[k].e.aid.length≤40∧l[k].e.dom.length≤40∧l[k].aid.length≤40∧l[k].dom.length≤40:=by
 unfold fewB at h;simp only [Bool.and_eq_true,List.all_eq_true] at h;have:=h.2 _ (List.getElem_mem hk);unfold fewOp at this;simp at this;omega
section
variable {W0 W W' : World} {A : VAt} {rb B k : Nat} {M : Md}
theorem DoSt.own (h:DoSt W0 W A rb B k M) {N:Nat} {cs:List Value} (hb:Blk W N cs 54) (hm:Mod (fun j=>j = N) W W') (hN:W0.heap.size≤N):DoSt W0 W' A rb B k M:=by
 obtain ⟨⟨m,s,h1,h2,h3⟩,h4,h5,h6⟩:=h;exact ⟨⟨m,s,{ h1 with vl:={ h1.vl with rep:=h1.vl.rep.keepB hm hb (by decide) },at_:=Blk.mod h1.at_ hm (fun e=>by have e:rb = N:=e;have hr:=h1.at_;rw [e] at hr;exact absurd (Blk.inj hr hb).2 (by decide)) },h2,h3⟩,h4.mod hm (fun e=>by have e:B = N:=e;rw [e] at h4;exact absurd (h4.inj hb).2 (by decide)),h5,h6.own hm hN⟩
theorem DoSt.keepM (h:DoSt W0 W A rb B k M) (hm:Mod A.S W W') {N:Nat} {cs:List Value} (hb:Blk W N cs 54):Blk W' N cs 54:=by
 obtain ⟨⟨m,s,h1,-⟩,-⟩:=h;exact hb.mod hm (h1.vl.rep.noS hb (by decide) (by decide))
theorem DoSt.keepL (h:DoSt W0 W A rb B k M) (hm:Mod A.S W W') {va:Option Addr} {vc:Nat} {L:List En} (hel:EL W va vc L):EL W' va vc L:=by
 obtain ⟨⟨m,s,h1,-⟩,-⟩:=h;exact hel.mod hm (h1.vl.rep.shunT (by decide) (by decide)) (h1.vl.rep.shunT (by decide) (by decide))
def MBox (W:World) (N:Nat) (M:Md) (va:Option Addr) (vc:Nat) (ua:Option Addr) (uc:Nat):Prop:=Blk W N [.slice va M.now.length vc,.slice ua M.was.length uc,.bool M.act] 54∧EL W va vc M.now∧EL W ua uc M.was
theorem MBox.fresh {N:Nat} {va ua:Option Addr} {vc uc:Nat} (h:MBox W N M va vc ua uc) (hm:Mod Nowhere W W'):MBox W' N M va vc ua uc:=⟨h.1.mod hm id,h.2.1.fresh hm,h.2.2.fresh hm⟩
theorem MBox.four {N:Nat} {va ua:Option Addr} {vc uc:Nat} (h:MBox W N M va vc ua uc):W.cell? ⟨N,0,none⟩ = some (.slice va M.now.length vc)∧W.cell? ⟨N,1,none⟩ = some (.slice ua M.was.length uc)∧W.cell? ⟨N,2,none⟩ = some (.bool M.act)∧(∀ o,W.frozen? ⟨N,o,none⟩ = false)∧N < W.heap.size:=⟨h.1.cell 0,h.1.cell 1,h.1.cell 2,h.1.frozen,h.1.lt⟩
theorem MBox.put {N:Nat} {M':Md} {va ua va' ua':Option Addr} {vc uc vc' uc':Nat} (h:Blk W N [.slice va M.now.length vc,.slice ua M.was.length uc,.bool M.act] 54) (h1:EL W va' vc' M'.now) (h2:EL W ua' uc' M'.was) :
  MBox (((W.setCell ⟨N,0,none⟩ (.slice va' M'.now.length vc')).setCell ⟨N,1,none⟩ (.slice ua' M'.was.length uc')).setCell ⟨N,2,none⟩ (.bool M'.act)) N M' va' vc' ua' uc'∧Mod (fun j=>j = N) W (((W.setCell ⟨N,0,none⟩ (.slice va' M'.now.length vc')).setCell ⟨N,1,none⟩ (.slice ua' M'.was.length uc')).setCell ⟨N,2,none⟩ (.bool M'.act)):=by
 obtain ⟨g1,g2⟩:=put3 h (.slice va' M'.now.length vc') (.slice ua' M'.was.length uc') (.bool M'.act);exact ⟨⟨g1,h1.mod g2 (shun1 h (by decide)) (shun1 h (by decide)),h2.mod g2 (shun1 h (by decide)) (shun1 h (by decide))⟩,g2⟩
end
theorem rOf_s {o:Option En} {L:List En} (hi:RInv L) (ho:∀ e,o = some e→e ∈ L):Bytes (rOf o).aid∧Bytes (rOf o).dom∧(rOf o).aid.length≤16∧(rOf o).dom.length≤16:=by
 cases o with
 | none=>exact ⟨fun k=>by simp [rOf,zeroR],fun k=>by simp [rOf,zeroR],by simp [rOf,zeroR],by simp [rOf,zeroR]⟩
 | some e =>
  have h:=hi.ok e (ho e rfl);exact ⟨h.ba,h.bd,h.a16,h.d16⟩
set_option maxHeartbeats 16000000 in
theorem lawNext_go {w:World} {l:List OpI} {va ta sa:Option Addr} {vc tc sc:Nat} {p a:List Nat} (i0:InROps w (.slice va l.length vc) l) (i1:Src w (.slice ta p.length tc) p) (i2:Src w (.slice sa a.length sc) a) (bp:Bytes p) (ba:Bytes a) (hq:fewB l = true) (lp:p.length≤100) (la:a.length≤100) :
  Calls Tryz.prog 5 #[.slice va l.length vc,.slice ta p.length tc,.slice sa a.length sc] w fun e w'=>e = .returned (.bool true)∧Mod Nowhere w w':=by
 have hF:Calls Tryz.prog 25 #[.slice va l.length vc] w fun e w'=>e = .returned (.bool true)∧w' = w:=by
  have:=few26_ok i0;rw [hq] at this;exact this
 have hO:=open26_ok w;have hWk:=fun W=>works_ok W;have hl60:=fewB_len hq;have hb1:¬ (p.length:Int) > 100:=by omega
 have hb1':¬ 100 < p.length:=by omega
 have hb2:¬ (a.length:Int) > 100:=by omega
 have hb2':¬ 100 < a.length:=by omega
 refine hid6 ?_ i0 i1 i2 hF hO hWk;clear i0 i1 i2 hF hO hWk;intro i0 i1 i2 hF hO hWk;go_enter Tryz.func5,Tryz.ntmps5;go_wp2_with fail;refine (hF.out).mono ?_;rintro e w1 ⟨rfl,rfl⟩
 go_upto_region 3 with (fail)
 go_wp2_with fail;refine hO.out.mono ?_;intro e w2 ho;obtain ⟨A,-,rb,rfl,hd,-⟩:=DoSt.new ho;clear ho hO;obtain ⟨k0,k1,k2,kl⟩:=hd.c;obtain ⟨B,hB⟩:∃ B,w2.heap.size = B:=⟨_,rfl⟩;rw [hB] at hd k0 k1 k2 kl;have hmd:=hd.md;refine hid3 ?_ hd hB hmd;clear hd hB hmd;intro hd hB hmd
 go_upto_region 6 with (fail)
 generalize w2.alloc (.cells #[ptr A.M.mb,ptr A.vb,ptr rb] 48) = w3 at *;rw [hB.out]
 go_upto_region 7 with (fail)
 generalize hw4:w3.alloc (.cells #[.slice none 0 0,.slice none 0 0,.bool false] 54) = w4;generalize hN:w3.heap.size = N;have hA:Mod Nowhere w3 w4:=hw4 ▸ m1 w3 [.slice none 0 0,.slice none 0 0,.bool false] _;have hbx:MBox w4 N mFirst none 0 none 0:=⟨by rw [← hw4,← hN];exact Blk.new w3 _ _,⟨[],ESl.nil _,rfl⟩,⟨[],ESl.nil _,rfl⟩⟩;have hd4:=hd.out.fresh hA;have hNw:w1.heap.size≤N:=by have:=hmd.out.size;omega
 refine hid3 ?_ hA hbx hd4;clear hA hbx hd4;intro hA hbx hd4;go_wp2;clear k0 k1 k2 kl hw4 hN
 go_loopw [10] (fun i wr=>∃ (k:Nat) (va' ua':Option Addr) (vc' uc':Nat),k≤l.length∧i = .int .i64 k∧DoSt w1 wr A rb B k (rRun mFirst ((l.map OpI.r).take k))∧MInv (rRun mFirst ((l.map OpI.r).take k))∧MBox wr N (rRun mFirst ((l.map OpI.r).take k)) va' vc' ua' uc') (fun i _=>l.length - (intOf i).toNat)
 case atStart=>exact ⟨0,none,none,0,0,by omega,rfl,hd4.out,MInv.first,hbx.out⟩
 case round =>
  obtain ⟨k,va',ua',vc',uc',hk,rfl,hd,hi,hbx⟩:=hrel;obtain ⟨k0,k1,k2,kl⟩:=hd.c;obtain ⟨s0,s1,s2,sf,sl⟩:=hbx.four;by_cases hlt:k < l.length
  ·have hki:(k:Int) < (l.length:Int):=by omega
   obtain ⟨f1,f2,f3,f4⟩:=fewB_op hq hlt;have hop:=i0.out.op hlt;have hpl:=fun X va ua vc uc (h1:Mod Nowhere w1 X) h2 h3=>play_ok (w:=X) (va:=va) (ua:=ua) (vc:=vc) (uc:=uc) h2 h3 hi.now (hop.fresh h1) f1 f2 f3 f4;have hi':=hi.play l[k].r hop.inE.ba hop.inE.bd;obtain ⟨b,off,x0,x1,x2,x3,x4,x5,x6,x7,a1,a2,a3,a4,n1,n2,n3,n4,c1,c2,c3,c4,rfl,g1,g2,hce,hoc⟩:=i0.out.ce hlt
   have hD:∀ X,Mod Nowhere wr X→Calls Tryz.prog 27 #[.agg #[ptr A.M.mb,ptr A.vb,ptr rb],.agg #[.int .i64 x0,.slice a1 n1 c1,.int .i64 x1,.int .i64 x2,.int .i64 x3,.int .i64 x4,.slice a2 n2 c2,.int .i64 x5,.int .i64 x6,.slice a3 n3 c3,.slice a4 n4 c4,.int .i64 x7]] X (DoR w1 X A rb B k (rRun mFirst ((l.map OpI.r).take (k + 1))) (rPlay (rRun mFirst ((l.map OpI.r).take k)) l[k].r).2):=fun X hX=>by
    have:=(hd.fresh hX).do_ (by omega) ((i0.out.op hlt).fresh (hd.md.trans hX));rw [hce,rRun_step l hlt] at this;exact this
   rw [hce,rRun_step l hlt] at hpl;rw [rRun_step l hlt] at hi';obtain ⟨er,her⟩:∃ er,(rPlay (rRun mFirst ((l.map OpI.r).take k)) l[k].r).2 = er:=⟨_,rfl⟩;rw [her] at hD hpl;obtain ⟨o0,o1,o2,o3,o4,o5,o6,o7,o8,o9,o10,o11,ol⟩:=hoc wr hd.md;have hdr:=(Mod.refl Nowhere wr).drew;have hmd:=hd.md;obtain ⟨M',hM'⟩:∃ M',rRun mFirst ((l.map OpI.r).take (k + 1)) = M':=⟨_,rfl⟩;rw [hM'] at hD hpl hi';obtain ⟨M,hM⟩:∃ M,rRun mFirst ((l.map OpI.r).take k) = M:=⟨_,rfl⟩;rw [hM] at hd hi hbx hpl s0 s1 s2;clear hop f1 f2 f3 f4;refine hid12 ?_ hd hi hbx hD hpl hi' hoc hce hdr hmd her hM';clear hd hi hbx hD hpl hi' hoc hce hdr hmd her hM';intro hd hi hbx hD hpl hi' hoc hce hdr hmd her hM';replace hM:=Lib.hid hM
   go_wp2_with fail
   go_region_held3 (fun W=>W.cell? ⟨B,0,none⟩ = some (ptr A.M.mb)∧W.cell? ⟨B,1,none⟩ = some (ptr A.vb)∧W.cell? ⟨B,2,none⟩ = some (ptr rb)∧W.cell? ⟨b,off + k * 12,none⟩ = some (.int .i64 x0)∧W.cell? ⟨b,off + k * 12 + 1,none⟩ = some (.slice a1 n1 c1)∧W.cell? ⟨b,off + k * 12 + 2,none⟩ = some (.int .i64 x1)∧W.cell? ⟨b,off + k * 12 + 3,none⟩ = some (.int .i64 x2)∧W.cell? ⟨b,off + k * 12 + 4,none⟩ = some (.int .i64 x3)∧W.cell? ⟨b,off + k * 12 + 5,none⟩ = some (.int .i64 x4)∧W.cell? ⟨b,off + k * 12 + 6,none⟩ = some (.slice a2 n2 c2)∧W.cell? ⟨b,off + k * 12 + 7,none⟩ = some (.int .i64 x5)∧W.cell? ⟨b,off + k * 12 + 8,none⟩ = some (.int .i64 x6)∧W.cell? ⟨b,off + k * 12 + 9,none⟩ = some (.slice a3 n3 c3)∧W.cell? ⟨b,off + k * 12 + 10,none⟩ = some (.slice a4 n4 c4)∧W.cell? ⟨b,off + k * 12 + 11,none⟩ = some (.int .i64 x7)) (simp [*,World.cell?_alloc_some,World.cell?_setCell_far,World.cell?_setCell_other])
    (first | (go_at_call 27;(with_reducible refine (hD.out _ hdr.out).mono ?_);rintro e v1 ⟨rfl,hd2,hS⟩;obtain ⟨j0,j1,j2,jl⟩:=hd2.c;obtain ⟨p0,p1,p2,p3,p4,p5,p6,p7,p8,p9,p10,p11,pl⟩:=hoc.out v1 hd2.md;replace hd2:=Lib.hid hd2;replace hS:=Lib.hid hS) | fail)
   have hb2:=(hd.out.fresh hdr.out).keepM hS.out (hbx.out.fresh hdr.out).1;have hL1:=(hd.out.fresh hdr.out).keepL hS.out (hbx.out.fresh hdr.out).2.1;have hL2:=(hd.out.fresh hdr.out).keepL hS.out (hbx.out.fresh hdr.out).2.2;have hdv:=(Mod.refl Nowhere v1).drew;have hP:=hpl.out v1.drew _ _ _ _ (hd2.out.md.trans hdv) (hL1.fresh hdv) (hL2.fresh hdv);clear k0 k1 k2 kl s0 s1 s2 sf sl o0 o1 o2 o3 o4 o5 o6 o7 o8 o9 o10 o11 ol;have s0:=hb2.cell 0;have s1:=hb2.cell 1;have s2:=hb2.cell 2;have sf:=hb2.frozen;have sl:=hb2.lt;simp only [List.getElem?_cons_zero,List.getElem?_cons_succ] at s0 s1 s2;refine hid5 ?_ hb2 hL1 hL2 hdv hP;clear hb2 hL1 hL2 hdv hP;intro hb2 hL1 hL2 hdv hP
   go_wp2_with fail
   go_region_law (first | (go_simp;go_at_call 28;(with_reducible refine hP.out.mono ?_);rintro e v2 ⟨va2,vc2,ua2,uc2,rfl,e1,e2,hm2⟩;have hmv:=hdv.out.trans hm2;obtain ⟨hbx2,mN⟩:=MBox.put (hb2.out.mod hmv id) e1 e2;have hdN:=(hd2.out.fresh hmv).own (hb2.out.mod hmv id) mN hNw;have t0:=(hb2.out.mod hmv id).cell 0;have t1:=(hb2.out.mod hmv id).cell 1;have t2:=(hb2.out.mod hmv id).cell 2;have tf:=(hb2.out.mod hmv id).frozen;have tl:=(hb2.out.mod hmv id).lt;simp only [List.getElem?_cons_zero,List.getElem?_cons_succ] at t0 t1 t2;replace hbx2:=Lib.hid hbx2;replace mN:=Lib.hid mN;replace hdN:=Lib.hid hdN;replace hmv:=Lib.hid hmv;replace e1:=Lib.hid e1;replace e2:=Lib.hid e2;replace hm2:=Lib.hid hm2))
   all_goals
    clear s0 s1 s2 sf sl t0 t1 t2 tf tl j0 j1 j2 jl p0 p1 p2 p3 p4 p5 p6 p7 p8 p9 p10 p11 pl;go_wp2;go_roundw
    case rel=>exact ⟨k + 1,va2,ua2,vc2,uc2,by omega,by go_num,by rw [hM'.out];exact hdN.out,by rw [hM'.out];exact hi'.out,by rw [hM'.out];exact hbx2.out⟩
    case measure=>simp [intOf];omega
  ·have hki:¬ (k:Int) < (l.length:Int):=by omega
   obtain ⟨M,hM⟩:∃ M,rRun mFirst ((l.map OpI.r).take k) = M:=⟨_,rfl⟩;rw [hM] at hd hi hbx s0 s1 s2;clear hM;obtain ⟨now,was,act⟩:=M;have hinv:=hi.now;have q1:=hd.next (i1.out.fresh hd.md) (i2.out.fresh hd.md) bp ba;dsimp only at hinv q1 s0 s1 s2;have q2:=fun X (hX:Mod Nowhere wr X)=>qNext_ok (hbx.2.1.fresh hX) hinv (i1.out.fresh (hd.md.trans hX)) (i2.out.fresh (hd.md.trans hX)) bp ba (by omega) (by omega);obtain ⟨ro,hro⟩:∃ o,rNext now (fun e=>begB p e.aid) a = o:=⟨_,rfl⟩;simp only [hro] at q1 q2
   have hlaw:∀ e,ro = some e→e ∈ now∧begB p e.aid = true∧cmpB e.aid a > 0:=fun e he=>by
    have:=next_law (hro.trans he);exact ⟨this.1,this.2.2.1,this.2.2.2⟩
   obtain ⟨g1,g2,g3,g4⟩:=rOf_s hinv fun e he=>(hlaw e he).1
   have hT:ro.isSome = true→begB p (rOf ro).aid = true∧cmpB (rOf ro).aid a > 0:=fun hs=>by
    obtain ⟨e,rfl⟩:=Option.isSome_iff_exists.1 hs;exact (hlaw e rfl).2
   obtain ⟨re,hre⟩:∃ re,rOf ro = re:=⟨_,rfl⟩;rw [hre] at g1 g2 g3 g4 hT
   have hS:∀ X u v u' v',DSl X u re.aid→DSl X v re.dom→DSl X u' re.aid→DSl X v' re.dom→Calls Tryz.prog 14 #[.agg (eCells u v re).toArray,.agg (eCells u' v' re).toArray] X fun r w'=>r = .returned (.bool true)∧Mod Nowhere X w':=fun X u v u' v' d1 d2 d3 d4=>by
    have:=rEnSame_ok (w:=X) (x:=((u,v),re)) (y:=((u',v'),re)) (ExD.s ⟨d1,d2⟩ g1 g2) (ExD.s ⟨d3,d4⟩ g1 g2) (by show re.aid.length≤_;omega) (by show re.dom.length≤_;omega) (by show re.aid.length≤_;omega) (by show re.dom.length≤_;omega);rw [decide_eq_true rfl] at this;exact this
   have hBg:∀ X u,Mod Nowhere wr X→DSl X u re.aid→Calls Tryz.prog 30 #[u,.slice ta p.length tc] X (fun r w'=>r = .returned (.bool (begB p re.aid))∧Mod Nowhere X w')∧Calls Tryz.prog 31 #[u,.slice sa a.length sc] X (fun r w'=>r = .returned (.int .i64 (cmpB re.aid a))∧Mod Nowhere X w'):=fun X u hX d =>
    ⟨rBegins_ok d.src (i1.out.fresh (hd.md.trans hX)) g1 bp (by omega) (by omega),rCmp_ok d.src (i2.out.fresh (hd.md.trans hX)) g1 ba (by omega) (by omega)⟩
   have hmd:=hd.md;obtain ⟨fo,hfo⟩:∃ fo,ro.isSome = fo:=⟨_,rfl⟩;rw [hfo] at hT;obtain ⟨ek,est,ebf,epr,epk,eob,eaid,edom⟩:=re;unfold eCells at hS;dsimp only at hS hBg hT;generalize begB p eaid = pb at *;generalize cmpB eaid a = cb at *;clear hlaw hro hinv g1 g2 g3 g4;refine hid11 ?_ hd hi hbx q1 q2 hT hre hS hBg hmd hfo;clear hd hi hbx q1 q2 hT hre hS hBg hmd hfo;intro hd hi hbx q1 q2 hT hre hS hBg hmd hfo;go_wp2_with fail;refine q1.out.mono ?_;intro r w5 hp;obtain ⟨a1,c1,a2,c2,rfl,b5,d1,d2,hm5⟩:=hp.box hre.out;clear hp;rw [hfo.out];dsimp only at b5 d1 d2 hm5 ⊢;refine hid4 ?_ b5 d1 d2 hm5;clear b5 d1 d2 hm5;intro b5 d1 d2 hm5
   go_upto_region 13 with (fail)
   generalize hw6:w5.alloc (.cells #[.slice a1 eaid.length c1,.int .i64 ek,.int .i64 est,.int .i64 ebf,.int .i64 epr,.slice a2 edom.length c2,.int .i64 epk,.int .i64 eob] 24) = w6 at *;generalize hN1:w5.heap.size = N1 at *;clear k0 k1 k2 kl s0 s1 s2 sf sl hw6;obtain ⟨s0,s1,s2,sf,sl⟩:=(hbx.out.fresh hm5.out).four;have v0:=b5.out.cell 0;have v1:=b5.out.cell 1;have v2:=b5.out.cell 2;have v3:=b5.out.cell 3;have v4:=b5.out.cell 4;have v5:=b5.out.cell 5;have v6:=b5.out.cell 6;have v7:=b5.out.cell 7;have vl:=b5.out.lt;simp only [List.getElem?_cons_zero,List.getElem?_cons_succ] at v0 v1 v2 v3 v4 v5 v6 v7;have q:=q2.out _ hm5.out
   dsimp only at s0 s1 s2;replace q:=Lib.hid q;go_wp2_with fail;refine q.out.mono ?_;intro r w7 hp;obtain ⟨a3,c3,a4,c4,rfl,b7,d3,d4,hm7⟩:=hp.box hre.out;clear hp;rw [hfo.out];dsimp only at b7 d3 d4 hm7 ⊢;have b5':=b5.out.mod hm7 id;have d1':=d1.out.fresh hm7;have d2':=d2.out.fresh hm7;have hmx:=hm5.out.trans hm7;refine hid8 ?_ b7 d3 d4 hm7 b5' d1' d2' hmx;clear b7 d3 d4 hm7 b5' d1' d2' hmx;intro b7 d3 d4 hm7 b5' d1' d2' hmx
   go_upto_region 14 with (fail)
   generalize hw8:w7.alloc (.cells #[.slice a3 eaid.length c3,.int .i64 ek,.int .i64 est,.int .i64 ebf,.int .i64 epr,.slice a4 edom.length c4,.int .i64 epk,.int .i64 eob] 24) = w8 at *;generalize hN2:w7.heap.size = N2 at *;clear s0 s1 s2 sf sl v0 v1 v2 v3 v4 v5 v6 v7 vl hw8;have v0:=b5'.out.cell 0;have v1:=b5'.out.cell 1;have v2:=b5'.out.cell 2;have v3:=b5'.out.cell 3;have v4:=b5'.out.cell 4;have v5:=b5'.out.cell 5;have v6:=b5'.out.cell 6;have v7:=b5'.out.cell 7;have vl:=b5'.out.lt;simp only [List.getElem?_cons_zero,List.getElem?_cons_succ] at v0 v1 v2 v3 v4 v5 v6 v7;have y0:=b7.out.cell 0;have y1:=b7.out.cell 1;have y2:=b7.out.cell 2;have y3:=b7.out.cell 3;have y4:=b7.out.cell 4;have y5:=b7.out.cell 5;have y6:=b7.out.cell 6;have y7:=b7.out.cell 7;have yl:=b7.out.lt
   simp only [List.getElem?_cons_zero,List.getElem?_cons_succ] at y0 y1 y2 y3 y4 y5 y6 y7;have q3:=hS.out w8 _ _ _ _ d1'.out d2'.out d3.out d4.out;have hnn:(fo != fo) = false:=by simp
   replace q3:=Lib.hid q3;go_wp2_with fail;refine q3.out.mono ?_;rintro r w9 ⟨rfl,hm9⟩;have b9:=b5'.out.mod hm9 id;have d9:=d1'.out.fresh hm9;have hmy:=hmx.out.trans hm9;clear v0 v1 v2 v3 v4 v5 v6 v7 vl y0 y1 y2 y3 y4 y5 y6 y7 yl;have v0:=b9.cell 0;have vl:=b9.lt;simp only [List.getElem?_cons_zero] at v0;obtain ⟨q4,-⟩:=hBg.out _ _ hmy d9;refine hid5 ?_ b9 d9 hmy hm9 q4;clear b9 d9 hmy hm9 q4;intro b9 d9 hmy hm9 q4
   cases fo
   ·go_wp2_with fail;refine (hWk.out _).mono ?_;rintro r w10 ⟨rfl,hm10⟩;go_wp2;go_ret;exact ⟨rfl,hmd.out.trans (hmy.out.trans hm10)⟩
   ·obtain ⟨hp1,hp2⟩:=hT.out rfl;subst hp1;have hp3:0 < cb:=hp2;go_wp2_with fail;refine q4.out.mono ?_;rintro r w10 ⟨rfl,hm10⟩;have b10:=b9.out.mod hm10 id;have hmz:=hmy.out.trans hm10;clear v0 vl;have v0:=b10.cell 0;have vl:=b10.lt;simp only [List.getElem?_cons_zero] at v0;obtain ⟨-,q5⟩:=hBg.out _ _ hmz (d9.out.fresh hm10);refine hid4 ?_ b10 hmz hm10 q5;clear b10 hmz hm10 q5;intro b10 hmz hm10 q5;go_wp2_with fail;refine q5.out.mono ?_;rintro r w11 ⟨rfl,hm11⟩;go_wp2_with fail;refine (hWk.out _).mono ?_;rintro r w12 ⟨rfl,hm12⟩;go_wp2;go_ret;exact ⟨rfl,hmd.out.trans (hmz.out.trans (hm11.trans hm12))⟩
set_option maxHeartbeats 4000000 in
theorem lawNext_few {w:World} {l:List OpI} {va ta sa:Option Addr} {vc n tc m sc:Nat} (i0:InROps w (.slice va l.length vc) l) (hq:fewB l = false) :
  Calls Tryz.prog 5 #[.slice va l.length vc,.slice ta n tc,.slice sa m sc] w fun e w'=>e = .returned (.bool true)∧Mod Nowhere w w':=by
 have hF:Calls Tryz.prog 25 #[.slice va l.length vc] w fun e w'=>e = .returned (.bool false)∧w' = w:=by
  have:=few26_ok i0;rw [hq] at this;exact this
 have hWk:=fun W=>works_ok W;refine hid2 ?_ hF hWk;clear hF hWk;intro hF hWk;go_enter Tryz.func5,Tryz.ntmps5;go_wp2_with fail;refine (hF.out).mono ?_;rintro e w1 ⟨rfl,rfl⟩;go_wp2_with fail;refine (hWk.out _).mono ?_;rintro e w2 ⟨rfl,hm⟩;go_wp2;go_ret;exact ⟨rfl,hm⟩
set_option maxHeartbeats 4000000 in
theorem lawNext_long {w:World} {l:List OpI} {va ta sa:Option Addr} {vc n tc m sc:Nat} (i0:InROps w (.slice va l.length vc) l) (hq:fewB l = true) (hl:(n:Int) > 100) :
  Calls Tryz.prog 5 #[.slice va l.length vc,.slice ta n tc,.slice sa m sc] w fun e w'=>e = .returned (.bool true)∧Mod Nowhere w w':=by
 have hF:Calls Tryz.prog 25 #[.slice va l.length vc] w fun e w'=>e = .returned (.bool true)∧w' = w:=by
  have:=few26_ok i0;rw [hq] at this;exact this
 have hWk:=fun W=>works_ok W;have hl':100 < n:=by omega
 refine hid2 ?_ hF hWk;clear hF hWk;intro hF hWk;go_enter Tryz.func5,Tryz.ntmps5;go_wp2_with fail;refine (hF.out).mono ?_;rintro e w1 ⟨rfl,rfl⟩;go_wp2_with fail;refine (hWk.out _).mono ?_;rintro e w2 ⟨rfl,hm⟩;go_wp2;go_ret;exact ⟨rfl,hm⟩
set_option maxHeartbeats 4000000 in
theorem lawNext_long2 {w:World} {l:List OpI} {va ta sa:Option Addr} {vc n tc m sc:Nat} (i0:InROps w (.slice va l.length vc) l) (hq:fewB l = true) (hn:¬ (n:Int) > 100) (hl:(m:Int) > 100) :
  Calls Tryz.prog 5 #[.slice va l.length vc,.slice ta n tc,.slice sa m sc] w fun e w'=>e = .returned (.bool true)∧Mod Nowhere w w':=by
 have hF:Calls Tryz.prog 25 #[.slice va l.length vc] w fun e w'=>e = .returned (.bool true)∧w' = w:=by
  have:=few26_ok i0;rw [hq] at this;exact this
 have hWk:=fun W=>works_ok W;have hl':100 < m:=by omega
 have hn':¬ 100 < n:=by omega
 refine hid2 ?_ hF hWk;clear hF hWk;intro hF hWk;go_enter Tryz.func5,Tryz.ntmps5;go_wp2_with fail;refine (hF.out).mono ?_;rintro e w1 ⟨rfl,rfl⟩;go_wp2_with fail;refine (hWk.out _).mono ?_;rintro e w2 ⟨rfl,hm⟩;go_wp2;go_ret;exact ⟨rfl,hm⟩
theorem lawNext_ok (v1:Value) (l:List OpI) (v2:Value) (p:List Nat) (v3:Value) (a:List Nat) (w:World) (i0:InROps w v1 l) (i1:InBytes w v2 p) (i2:InBytes w v3 a):Calls Tryz.prog 5 #[v1,v2,v3] w fun e w'=>e = .returned (.bool true)∧Below w.heap.size w w':=by
 refine Calls.mono (?_:Calls _ _ _ _ (fun e w'=>e = .returned (.bool true)∧Mod Nowhere w w')) (fun e w' h=>⟨h.1,h.2.below⟩);obtain ⟨va,vc,rfl,-⟩:=i0.gen;obtain ⟨hs,bp⟩:=i1;obtain ⟨ht,ba⟩:=i2;obtain ⟨ta,tc,rfl,-⟩:=id hs;obtain ⟨sa,sc,rfl,-⟩:=id ht
 cases hq:fewB l with
 | false=>exact lawNext_few i0 hq
 | true =>
  by_cases hl:p.length≤100
  ·by_cases hl2:a.length≤100
   ·exact lawNext_go i0 hs ht bp ba hq hl hl2
   ·exact lawNext_long2 i0 hq (by omega) (by omega)
  ·exact lawNext_long i0 hq (by omega)
end Go.Proofs.YthmahbfmfpjjcaaGreat
