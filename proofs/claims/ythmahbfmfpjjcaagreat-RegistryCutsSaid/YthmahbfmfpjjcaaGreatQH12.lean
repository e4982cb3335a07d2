/-
  The law's shows, whatever the two lists are.
-/
import Derived.Test.YthmahbfmfpjjcaaGreatQH11
set_option linter.unusedVariables false
set_option linter.unusedSimpArgs false
set_option maxHeartbeats 32000000
set_option maxRecDepth 100000
namespace Go.Proofs.YthmahbfmfpjjcaaGreat
open Go.RowKit
open Jn Vn Rg
attribute [local go_sem] Oper.semAt_some
theorem Zjd {w:World} {rb:Nat} {A:VAt} {m:Mem} {s:VSt} {Y L:List En} (hr:Reg w rb A m s Y) (hne:Y ≠ L) (hlv:RInv L) {va:Option Addr} {vc:Nat} (hel:EL w va vc L) :
  Calls Tryz.prog 32 #[ptr rb,.agg #[.slice va L.length vc]] w fun e w'=>e = .returned (.bool false)∧Mod Nowhere w w':=by
 have hinv:=hr.inv;obtain ⟨ec1,ec2⟩:=hel.len0;have hm1:=m1 w [.slice va L.length vc] 52;have hB:=blk_a (w:=w) [.slice va L.length vc] 52;have q1:=ZcW (hr.fresh hm1);have q2:=fun X (hX:Mod Nowhere w X)=>Zc6 (hel.fresh hX) hlv;obtain ⟨ro,hro⟩:∃ o,pDefault Y = o:=⟨_,rfl⟩;obtain ⟨so,hso⟩:∃ o,rDefault L = o:=⟨_,rfl⟩;simp only [hro] at q1;simp only [hso] at q2;obtain ⟨re,hre⟩:∃ re,rOf ro = re:=⟨_,rfl⟩;obtain ⟨se,hse⟩:∃ re,rOf so = re:=⟨_,rfl⟩
 have hQ:∀ X va' vc',Mod Nowhere w X→EL X va' vc' Y→Calls Tryz.prog 80 #[.slice va' Y.length vc',.slice va L.length vc] X fun e w'=>e = .returned (.bool false)∧Mod Nowhere X w':=fun X va' vc' hX he=>by
  have:=ZbZ he (hel.fresh hX) hinv hlv;rw [decide_eq_false hne] at this;exact this
 have hLi:=fun X (hX:Mod Nowhere w X)=>Jm (hr.fresh hX);generalize hfo:ro.isSome = fo at *;generalize hgo:so.isSome = go at *;obtain ⟨ek,est,ebf,epr,epk,eob,eaid,edom⟩:=re;obtain ⟨fk,fst,fbf,fpr,fpk,fob,faid,fdom⟩:=se;clear hro hso hne hlv hinv;refine hid12 ?_ hr hel hm1 hB q1 q2 hQ hLi hre hse hfo hgo;clear hr hel hm1 hB q1 q2 hQ hLi hre hse hfo hgo;intro hr hel hm1 hB q1 q2 hQ hLi hre hse hfo hgo;go_enter Tryz.func32,Tryz.ntmps32;go_wp2_with fail;refine q1.out.mono ?_;intro r w5 hp;obtain ⟨a1,c1,a2,c2,rfl,b5,d1,d2,hm5⟩:=hp.box hre.out;clear hp b5 d1 d2;rw [hfo.out]
 dsimp only at hm5 ⊢;replace hm5:=Lib.hid hm5
 go_upto_region 2 with (fail)
 generalize hw6:w5.alloc (.cells #[.slice a1 eaid.length c1,.int .i64 ek,.int .i64 est,.int .i64 ebf,.int .i64 epr,.slice a2 edom.length c2,.int .i64 epk,.int .i64 eob] 24) = w6 at *;clear hw6;have bS:=hB.out w6 hm5.out;have x0:=bS.cell 0;have xl:=bS.lt;simp only [gz0] at x0;have q:=q2.out w6 (hm1.out.trans hm5.out);refine hid2 ?_ q bS;clear q bS;intro q bS;go_wp2_with fail;refine q.out.mono ?_;intro r w7 hp;obtain ⟨a3,c3,a4,c4,rfl,b7,d3,d4,hm7⟩:=hp.box hse.out;clear hp b7 d3 d4;rw [hgo.out];dsimp only at hm7 ⊢;have hmx:=hm5.out.trans hm7;refine hid2 ?_ hm7 hmx;clear hm7 hmx;intro hm7 hmx
 go_upto_region 3 with (fail)
 generalize hw8:w7.alloc (.cells #[.slice a3 faid.length c3,.int .i64 fk,.int .i64 fst,.int .i64 fbf,.int .i64 fpr,.slice a4 fdom.length c4,.int .i64 fpk,.int .i64 fob] 24) = w8 at *;clear hw8 x0 xl;have hmw:=hm1.out.trans hmx.out
 have hF:∀ X,Mod Nowhere w8 X→X.cell? ⟨w.heap.size,0,none⟩ = some (.slice va L.length vc)∧w.heap.size < X.heap.size:=fun X hX=>by
  have z3:=hB.out X (hmx.out.trans hX);exact ⟨z3.cell 0,z3.lt⟩
 obtain ⟨x0,xl⟩:=hF w8 (Mod.refl _ _);refine hid2 ?_ hmw hF;clear hmw hF;intro hmw hF;go_wp2_with fail;refine ZC (fun i v w'=>match i with | 0=>(v = ptr rb) | 1=>(∃ la lc,v = .slice la Y.length lc∧EL w' la lc Y) | 2=>(v = .pointer (some ⟨w.heap.size,0,none⟩)) | 3=>(v = .slice va L.length vc) | 4=>(v = .bool false) | 5=>(v = .bool false) | 9=>(v = .bool false) | 10=>(v = .bool false) | 14=>(v = .bool false) | 15=>(v = .bool false) | _=>True) ?A_ (by first | assumption | kernel_rfl) (by kernel_rfl) (by kernel_rfl) ?hA_ ?hS_ ?hE_
 case hA_=>intro xs;simp [putAll,List.range,List.range.loop,Act.put] <;> rfl
 case hS_ =>
  refine ⟨?_,?_,?_,?_,?_,?_,?_,?_,?_,?_,?_,?_,?_,?_,?_,?_,trivial⟩
  ·-- 0: t19:=move(t0)
   intro yv w' hR hF K hK;clear hF
   go_simp
   exact hK _ _ (fun _ _=>by first | trivial | rfl | simp [*]) (Mod.refl _ _)
  ·-- 1: t20:=CALL F24 (t19)
   intro yv w' hR hF K hK;have f0:(yv 0) = ptr rb:=hF 0 (by kernel_rfl) w' (Mod.refl _ _);clear hF;generalize yv 0 = y0 at *;subst f0;have hm1:=(Mod.refl Nowhere w8).drew.trans hR;have hc:=hLi.out w' (hmw.out.trans hm1);replace hc:=Lib.hid hc
   go_simp
   go_at_call 24
   refine hc.out.mono ?_;intro e w1 hp;obtain ⟨la,lc,rfl,hl,hm1'⟩:=EPost.el hp;exact hK _ _ (fun W hW=>⟨la,lc,rfl,hl.fresh hW⟩) hm1'
  ·-- 2: t21:=fieldAddr(52,t3,0)
   intro yv w' hR hF K hK;clear hF
   go_simp
   exact hK _ _ (fun _ _=>by first | trivial | rfl | simp [*]) (Mod.refl _ _)
  ·-- 3: t22:=load(40,t21)
   intro yv w' hR hF K hK;have f2:(yv 2) = .pointer (some ⟨w.heap.size,0,none⟩):=hF 2 (by kernel_rfl) w' (Mod.refl _ _);clear hF;generalize yv 2 = y2 at *;subst f2;have hm1:=(Mod.refl Nowhere w8).drew.trans hR;obtain ⟨x0,xl⟩:=hF.out w' hm1
   go_simp
   exact hK _ _ (fun _ _=>rfl) (Mod.refl _ _)
  ·-- 4: t23:=CALL F80 (t20,t22)
   intro yv w' hR hF K hK;have f1:∃ la lc,(yv 1) = .slice la Y.length lc∧EL w' la lc Y:=hF 1 (by kernel_rfl) w' (Mod.refl _ _);have f3:(yv 3) = .slice va L.length vc:=hF 3 (by kernel_rfl) w' (Mod.refl _ _);clear hF;generalize yv 1 = y1 at *;generalize yv 3 = y3 at *;subst f3;obtain ⟨la,lc,rfl,hl⟩:=f1;have hm1:=(Mod.refl Nowhere w8).drew.trans hR;have hc:=hQ.out w' _ _ (hmw.out.trans hm1) hl;replace hc:=Lib.hid hc
   go_simp
   go_at_call 80
   refine hc.out.mono ?_;rintro e w1 ⟨rfl,hm1'⟩;exact hK _ _ (fun _ _=>rfl) hm1'
  ·-- 5: t24:=move(t23)
   intro yv w' hR hF K hK;have f4:(yv 4) = .bool false:=hF 4 (by kernel_rfl) w' (Mod.refl _ _);clear hF;generalize yv 4 = y4 at *;subst f4
   go_simp
   exact hK _ _ (fun _ _=>by first | trivial | rfl | simp [*]) (Mod.refl _ _)
  ·-- 6: t25:=move(t6)   [guard (5,true)]
   intro yv w' hR hF K hK;have f5:(yv 5) = .bool false:=hF 5 (by kernel_rfl) w' (Mod.refl _ _);clear hF;generalize yv 5 = y5 at *;subst f5
   go_simp
   exact hK _ _ (fun _ _=>by first | trivial | rfl | simp [*]) (Mod.refl _ _)
  ·-- 7: t26:=move(t8)   [guard (5,true)]
   intro yv w' hR hF K hK;have f5:(yv 5) = .bool false:=hF 5 (by kernel_rfl) w' (Mod.refl _ _);clear hF;generalize yv 5 = y5 at *;subst f5
   go_simp
   exact hK _ _ (fun _ _=>by first | trivial | rfl | simp [*]) (Mod.refl _ _)
  ·-- 8: t27:=binOp(eql,4,t25,t26,4)   [guard (5,true)]
   intro yv w' hR hF K hK;have f5:(yv 5) = .bool false:=hF 5 (by kernel_rfl) w' (Mod.refl _ _);clear hF;generalize yv 5 = y5 at *;subst f5
   go_simp
   exact hK _ _ (fun _ _=>by first | trivial | rfl | simp [*]) (Mod.refl _ _)
  ·-- 9: t28:=pick(t24,t27,const(Value.bool(false)))
   intro yv w' hR hF K hK;have f5:(yv 5) = .bool false:=hF 5 (by kernel_rfl) w' (Mod.refl _ _);clear hF;generalize yv 5 = y5 at *;subst f5
   go_simp
   exact hK _ _ (fun _ _=>by first | trivial | rfl | simp [*]) (Mod.refl _ _)
  ·-- 10: t29:=move(t28)
   intro yv w' hR hF K hK;have f9:(yv 9) = .bool false:=hF 9 (by kernel_rfl) w' (Mod.refl _ _);have f5:(yv 5) = .bool false:=hF 5 (by kernel_rfl) w' (Mod.refl _ _);clear hF;generalize yv 9 = y9 at *;subst f9;generalize yv 5 = y5 at *;subst f5
   go_simp
   exact hK _ _ (fun _ _=>by first | trivial | rfl | simp [*]) (Mod.refl _ _)
  ·-- 11: t30:=load(24,t5)   [guard (10,true)]
   intro yv w' hR hF K hK;have f10:(yv 10) = .bool false:=hF 10 (by kernel_rfl) w' (Mod.refl _ _);clear hF;generalize yv 10 = y10 at *;subst f10
   go_simp
   exact hK _ _ (fun _ _=>by first | trivial | rfl | simp [*]) (Mod.refl _ _)
  ·-- 12: t31:=load(24,t7)   [guard (10,true)]
   intro yv w' hR hF K hK;have f10:(yv 10) = .bool false:=hF 10 (by kernel_rfl) w' (Mod.refl _ _);clear hF;generalize yv 10 = y10 at *;subst f10
   go_simp
   exact hK _ _ (fun _ _=>by first | trivial | rfl | simp [*]) (Mod.refl _ _)
  ·-- 13: t32:=CALL F14 (t30,t31)   [guard (10,true)]
   intro yv w' hR hF K hK;have f10:(yv 10) = .bool false:=hF 10 (by kernel_rfl) w' (Mod.refl _ _);clear hF;generalize yv 10 = y10 at *;subst f10
   go_simp
   exact hK _ _ (fun _ _=>by first | trivial | rfl | simp [*]) (Mod.refl _ _)
  ·-- 14: t33:=pick(t29,t32,const(Value.bool(false)))
   intro yv w' hR hF K hK;have f10:(yv 10) = .bool false:=hF 10 (by kernel_rfl) w' (Mod.refl _ _);clear hF;generalize yv 10 = y10 at *;subst f10
   go_simp
   exact hK _ _ (fun _ _=>by first | trivial | rfl | simp [*]) (Mod.refl _ _)
  ·-- 15: t4:=assign(t33)
   intro yv w' hR hF K hK;have f14:(yv 14) = .bool false:=hF 14 (by kernel_rfl) w' (Mod.refl _ _);have f0:(yv 0) = ptr rb:=hF 0 (by kernel_rfl) w' (Mod.refl _ _);have f1:∃ la lc,(yv 1) = .slice la Y.length lc∧EL w' la lc Y:=hF 1 (by kernel_rfl) w' (Mod.refl _ _);have f2:(yv 2) = .pointer (some ⟨w.heap.size,0,none⟩):=hF 2 (by kernel_rfl) w' (Mod.refl _ _);have f3:(yv 3) = .slice va L.length vc:=hF 3 (by kernel_rfl) w' (Mod.refl _ _);have f4:(yv 4) = .bool false:=hF 4 (by kernel_rfl) w' (Mod.refl _ _);have f5:(yv 5) = .bool false:=hF 5 (by kernel_rfl) w' (Mod.refl _ _);have f9:(yv 9) = .bool false:=hF 9 (by kernel_rfl) w' (Mod.refl _ _)
   have f10:(yv 10) = .bool false:=hF 10 (by kernel_rfl) w' (Mod.refl _ _);clear hF;generalize yv 14 = y14 at *;subst f14;generalize yv 0 = y0 at *;subst f0;generalize yv 1 = y1 at *;generalize yv 2 = y2 at *;subst f2;generalize yv 3 = y3 at *;subst f3;generalize yv 4 = y4 at *;subst f4;generalize yv 5 = y5 at *;subst f5;generalize yv 9 = y9 at *;subst f9;generalize yv 10 = y10 at *;subst f10
   go_simp
   exact hK _ _ (fun _ _=>by first | trivial | rfl | simp [*]) (Mod.refl _ _)
 case hE_ =>
  intro yv w' hR hF;have f0:(yv 0) = ptr rb:=hF 0 (by simp) w' (Mod.refl _ _);have f1:∃ la lc,(yv 1) = .slice la Y.length lc∧EL w' la lc Y:=hF 1 (by simp) w' (Mod.refl _ _);have f2:(yv 2) = .pointer (some ⟨w.heap.size,0,none⟩):=hF 2 (by simp) w' (Mod.refl _ _);have f3:(yv 3) = .slice va L.length vc:=hF 3 (by simp) w' (Mod.refl _ _);have f4:(yv 4) = .bool false:=hF 4 (by simp) w' (Mod.refl _ _);have f5:(yv 5) = .bool false:=hF 5 (by simp) w' (Mod.refl _ _);have f9:(yv 9) = .bool false:=hF 9 (by simp) w' (Mod.refl _ _);have f10:(yv 10) = .bool false:=hF 10 (by simp) w' (Mod.refl _ _);have f14:(yv 14) = .bool false:=hF 14 (by simp) w' (Mod.refl _ _)
  have f15:(yv 15) = .bool false:=hF 15 (by simp) w' (Mod.refl _ _);clear hF;generalize yv 0 = y0 at *;subst f0;generalize yv 1 = y1 at *;generalize yv 2 = y2 at *;subst f2;generalize yv 3 = y3 at *;subst f3;generalize yv 4 = y4 at *;subst f4;generalize yv 5 = y5 at *;subst f5;generalize yv 9 = y9 at *;subst f9;generalize yv 10 = y10 at *;subst f10;generalize yv 14 = y14 at *;subst f14;generalize yv 15 = y15 at *;subst f15;have hmf:=hmw.out.trans ((Mod.refl Nowhere w8).drew.trans hR);replace hmf:=Lib.hid hmf;go_wp2;go_ret;exact ⟨rfl,hmf.out⟩
theorem Zje {w:World} {rb:Nat} {A:VAt} {m:Mem} {s:VSt} {Y L:List En} (hr:Reg w rb A m s Y) (hlv:RInv L) {va:Option Addr} {vc:Nat} (hel:EL w va vc L) :
  Calls Tryz.prog 32 #[ptr rb,.agg #[.slice va L.length vc]] w fun e w'=>e = .returned (.bool (decide (Y = L)))∧Mod Nowhere w w':=by
 by_cases h:Y = L
 ·subst h;rw [decide_eq_true rfl];exact Zc9 hr hel
 ·rw [decide_eq_false h];exact Zjd hr h hlv hel
def NotAlive (w:World) (vb:Nat):Prop:=∀ W,Mod Nowhere w W→Calls Tryz.prog 34 #[ptr vb] W fun e w'=>e = .returned (.bool false)∧Mod Nowhere W w'
theorem NotAlive.fresh {w w':World} {vb:Nat} (h:NotAlive w vb) (hm:Mod Nowhere w w'):NotAlive w' vb:=fun W hW=>h W (hm.trans hW)
theorem Zda {w:World} {rb vb:Nat} (hp:RgAt w rb vb) (h:NotAlive w vb) :
  Calls Tryz.prog 50 #[ptr rb] w fun e w'=>e = .returned (errno 7)∧Mod Nowhere w w':=by
 have hA:=h w (Mod.refl _ _);have c0:=Blk.cell hp 0;have cl:=Blk.lt hp;simp only [gz0] at c0;refine hid2 ?_ hA h;clear hA h;intro hA h;go_enter Tryz.func50,Tryz.ntmps50;go_wp2_with fail;refine (hA.out).mono ?_;rintro e w1 ⟨rfl,hm⟩;go_wp2;go_ret;exact ⟨rfl,hm⟩
theorem Zjf {w:World} {rb vb:Nat} (hp:RgAt w rb vb) (h:NotAlive w vb):Calls Tryz.prog 51 #[ptr rb] w fun e w'=>∃ b,e = .returned (.map (some b))∧w.heap.size≤b∧EMap w' b 0 (fun _=>none)∧Mod Nowhere w w':=by
 have hmm:=run_makeMap (P:=Tryz.prog) 78 w;have hmd0:Mod Nowhere w (w.alloc (.map #[] 0)):=(Mod.refl _ w).alloc _;have hR:=Zda (hp.fresh hmd0) (h.fresh hmd0);have hmp0:EMap (w.alloc (.map #[] 0)) w.heap.size 0 (fun _=>none):=⟨_,JMap.made w,fun k=>trivial⟩;have hfin:∀ W,Mod Nowhere (w.alloc (.map #[] 0)) W→∃ b,Ending.returned (.map (some w.heap.size)) = .returned (.map (some b))∧w.heap.size≤b∧EMap W b 0 (fun _=>none)∧Mod Nowhere w W:=fun W hW=>⟨_,rfl,Nat.le_refl _,hmp0.fresh hW,hmd0.trans hW⟩;clear hmp0 hmd0;generalize w.alloc (.map #[] 0) = w1 at *;refine hid4 ?_ hR hfin h hp;clear hR hfin h hp;intro hR hfin h hp
 go_enter Tryz.func51,Tryz.ntmps51;go_wp2_with fail;refine (hR.out).mono ?_;rintro e w2 ⟨rfl,hm⟩;have hz:=hfin.out w2 hm;refine hid2 ?_ hz hm;clear hz hm;intro hz hm;go_wp2;go_ret;exact hz.out
theorem Zjg {w:World} {rb vb:Nat} (hp:RgAt w rb vb) (h:NotAlive w vb):Calls Tryz.prog 24 #[ptr rb] w (EPost w []):=by
 have hA:=Zjf hp h;have hO:=fun W b (hm:EMap W b 0 (fun _=>none))=>ZcT (l:=[]) hm Rg.SRel.nil;simp only [List.map_nil] at hO;refine hid4 ?_ hA hO hp h;clear hA hO hp h;intro hA hO hp h;go_enter Tryz.func24,Tryz.ntmps24;go_wp2_with fail;refine (hA.out).mono ?_;rintro e w1 ⟨b,rfl,hb,hm,hmd⟩;have hO1:=hO.out w1 b hm;refine hid4 ?_ hm hmd hb hO1;clear hm hmd hb hO1;intro hm hmd hb hO1;go_wp2_with fail;refine (hO1.out).mono ?_;rintro e w2 ⟨v,xs,rfl,hs,hx,hm2⟩;obtain ⟨va,vc,rfl,-⟩:=hs.sl.gen;have hfin:EPost w [] (.returned (.slice va xs.length vc)) w2:=⟨_,xs,rfl,hs,hx,hmd.out.trans hm2⟩
 clear hs hx hm2;replace hfin:=Lib.hid hfin;go_wp2;go_ret;exact hfin.out
theorem Zjh {w:World} {rb vb:Nat} (hp:RgAt w rb vb) (h:NotAlive w vb) (a:Option Addr) (n c:Nat):Calls Tryz.prog 20 #[ptr rb,.slice a n c] w fun e w'=>e = .returned (errno 7)∧Mod Nowhere w w':=by
 have hR:=Zda hp h;refine hid3 ?_ hR h hp;clear hR h hp;intro hR h hp;go_enter Tryz.func20,Tryz.ntmps20;go_wp2_with fail;refine (hR.out).mono ?_;rintro e w1 ⟨rfl,hm⟩;unfold Go.Proofs.YthmahbfmfpjjcaaGreat.errno at *;go_wp2;go_ret;exact ⟨rfl,hm⟩
structure Left26 (W:World) (A:VAt) (m:Mem) (L1 L2:List En):Prop where
 rep:MemRep W A.M m
 ex:∃ f M2,VMem m A.count A.frames f∧MP (xIdle f) M2∧(M2.now = L1 ∨ M2.now = L2)
 clean:m.Clean
 good:m.Good
 c240:240≤m.size
 cC:m.size / 24 = A.count
 cN:m.size / 20 = A.frames
 c33:33≤A.count
 room:m.writes + 62580≤m.endu
 cu:m.cuts≤1
theorem Left26.fresh {W W':World} {A:VAt} {m:Mem} {L1 L2:List En} (h:Left26 W A m L1 L2) (hm:Mod Nowhere W W'):Left26 W' A m L1 L2:={ h with rep:=h.rep.mod hm (fun _ _=>id) }
structure CSt (W0 W:World) (A:VAt) (rb B k:Nat) (M:Md):Prop where
 ex:∃ m s,RgL W A m s M rb (1000000000 - k * 1022784)∧s.l.length≤k
 bw:Blk W B [ptr A.M.mb,ptr A.vb,ptr rb] 48
 nw:∀ i,A.S i→W0.heap.size≤i
 md:Mod Nowhere W0 W
 cu:A.cuts = 0
structure Dead26 (W0 W:World) (A:VAt) (rb B:Nat) (L1 L2:List En):Prop where
 ex:∃ m,Left26 W A m L1 L2∧∃ P p,VStub W A m P p∧alive m p = false
 bv:∃ cs,Blk W A.vb cs 108
 at_:RgAt W rb A.vb
 bw:Blk W B [ptr A.M.mb,ptr A.vb,ptr rb] 48
 nw:∀ i,A.S i→W0.heap.size≤i
 md:Mod Nowhere W0 W
section
variable {W0 W W' : World} {A : VAt} {rb B k : Nat} {M : Md} {L1 L2 : List En}
theorem CSt.fresh (h:CSt W0 W A rb B k M) (hm:Mod Nowhere W W'):CSt W0 W' A rb B k M:=by
 obtain ⟨⟨m,s,h1,h3⟩,h4,h5,h6,h7⟩:=h;exact ⟨⟨m,s,h1.fresh hm,h3⟩,h4.mod hm id,h5,h6.trans hm,h7⟩
theorem Dead26.fresh (h:Dead26 W0 W A rb B L1 L2) (hm:Mod Nowhere W W'):Dead26 W0 W' A rb B L1 L2:=by
 obtain ⟨⟨m,h1,P,p,g1,g2⟩,⟨cs,h2⟩,h3,h4,h5,h6⟩:=h;exact ⟨⟨m,h1.fresh hm,P,p,g1.mod hm,g2⟩,⟨cs,h2.mod hm id⟩,h3.fresh hm,h4.mod hm id,h5,h6.trans hm⟩
theorem Dead26.na (h:Dead26 W0 W A rb B L1 L2):NotAlive W A.vb:=by
 obtain ⟨⟨m,-,P,p,hsb,hal⟩,-⟩:=h;intro X hX;have hR:=ZbA (hsb.mod hX);rw [hal] at hR;exact hR.mono fun e w' ⟨h1,k,h2⟩=>⟨h1,by rw [h2];exact (Mod.refl Nowhere X).drewN k⟩
theorem Dead26.own (h:Dead26 W0 W A rb B L1 L2) {N:Nat} {cs:List Value} (hb:Blk W N cs 54) (hm:Mod (fun j=>j = N) W W') (hN:W0.heap.size≤N):Dead26 W0 W' A rb B L1 L2:=by
 obtain ⟨⟨m,h1,P,p,g1,g2⟩,⟨ds,h2⟩,h3,h4,h5,h6⟩:=h;have hne:∀ {x:Nat} {es:List Value} {T:TypeId},Blk W x es T→T ≠ 54→¬ x = N:=fun hx hT e=>by rw [e] at hx;exact hT (hx.inj hb).2
 have hr:MemRep W' A.M m:=h1.rep.mod hm (by
  rintro x (e | e | e) ex
  ·have hq:=h1.rep.bm;rw [← e] at hq;exact hne hq (by decide) ex
  ·have hq:=h1.rep.bw;rw [← e] at hq;exact hne hq (by decide) ex
  ·have hq:=h1.rep.br;rw [← e] at hq;exact hne hq (by decide) ex)
 obtain ⟨fx,hp⟩:=g1.jb.bp;exact ⟨⟨m,{ h1 with rep:=hr },P,p,⟨(hm.cell (p:=⟨A.vb,0,none⟩) (ZF g1.cell) (hne h2 (by decide))).trans g1.cell,⟨g1.jb.bj.mod hm (hne g1.jb.bj (by decide)),g1.jb.bp.mod hm (hne hp (by decide))⟩,hr⟩,g2⟩,⟨ds,h2.mod hm (hne h2 (by decide))⟩,Blk.mod h3 hm (hne h3 (by decide)),h4.mod hm (hne h4 (by decide)),h5,h6.own hm hN⟩
theorem DoSt.cst (h:DoSt W0 W A rb B k M) (hc:A.cuts = 0):CSt W0 W A rb B k M:=by
 obtain ⟨⟨m,s,h1,h2,h3⟩,h4,h5,h6⟩:=h;exact ⟨⟨m,s,h1,h3⟩,h4,h5,h6,hc⟩
theorem CSt.reg (h:CSt W0 W A rb B k M):∃ m s,Reg W rb A m s M.now:=by
 obtain ⟨⟨m,s,h1,-⟩,-⟩:=h;exact ⟨m,s,h1.reg⟩
theorem CSt.c (h:CSt W0 W A rb B k M):W.cell? ⟨B,0,none⟩ = some (ptr A.M.mb)∧W.cell? ⟨B,1,none⟩ = some (ptr A.vb)∧W.cell? ⟨B,2,none⟩ = some (ptr rb)∧B < W.heap.size:=⟨h.bw.cell 0,h.bw.cell 1,h.bw.cell 2,h.bw.lt⟩
theorem Dead26.c (h:Dead26 W0 W A rb B L1 L2):W.cell? ⟨B,0,none⟩ = some (ptr A.M.mb)∧W.cell? ⟨B,1,none⟩ = some (ptr A.vb)∧W.cell? ⟨B,2,none⟩ = some (ptr rb)∧B < W.heap.size:=⟨h.bw.cell 0,h.bw.cell 1,h.bw.cell 2,h.bw.lt⟩
theorem CSt.alive (h:CSt W0 W A rb B k M):Calls Tryz.prog 34 #[ptr A.vb] W fun e w'=>e = .returned (.bool true)∧Mod Nowhere W w':=by
 obtain ⟨⟨m,s,h1,-⟩,-⟩:=h;exact Jj h1.vl.rep
theorem CSt.keepM (h:CSt W0 W A rb B k M) (hm:Mod A.S W W') {N:Nat} {cs:List Value} (hb:Blk W N cs 54):Blk W' N cs 54:=by
 obtain ⟨⟨m,s,h1,-⟩,-⟩:=h;exact hb.mod hm (h1.vl.rep.noS hb (by decide) (by decide))
theorem CSt.keepL (h:CSt W0 W A rb B k M) (hm:Mod A.S W W') {va:Option Addr} {vc:Nat} {L:List En} (hel:EL W va vc L):EL W' va vc L:=by
 obtain ⟨⟨m,s,h1,-⟩,-⟩:=h;exact hel.mod hm (h1.vl.rep.shunT (by decide) (by decide)) (h1.vl.rep.shunT (by decide) (by decide))
theorem CSt.own (h:CSt W0 W A rb B k M) {N:Nat} {cs:List Value} (hb:Blk W N cs 54) (hm:Mod (fun j=>j = N) W W') (hN:W0.heap.size≤N):CSt W0 W' A rb B k M:=by
 obtain ⟨⟨m,s,h1,h3⟩,h4,h5,h6,h7⟩:=h;exact ⟨⟨m,s,{ h1 with vl:={ h1.vl with rep:=h1.vl.rep.keepB hm hb (by decide) },at_:=Blk.mod h1.at_ hm (fun e=>by have e:rb = N:=e;have hr:=h1.at_;rw [e] at hr;exact absurd (Blk.inj hr hb).2 (by decide)) },h3⟩,h4.mod hm (fun e=>by have e:B = N:=e;rw [e] at h4;exact absurd (h4.inj hb).2 (by decide)),h5,h6.own hm hN,h7⟩
theorem CSt.cut (h:CSt W0 W A rb B k M) {n:Nat} (hn:n < 9223372036854775808):Calls Tryz.prog 35 #[ptr A.M.mb,.int .i64 n] W fun e w'=>e = .returned (errno 0)∧CSt W0 w' A rb B k M∧Mod A.S W w':=by
 obtain ⟨⟨m,s,h1,h3⟩,h4,h5,h6,h7⟩:=h;refine (Zdp h1.vl.rep.mem.1 h1.vl.rep.mem.2.1 n hn).mono fun e w' hp=>?_;obtain ⟨rfl,hr,hm⟩:=hp;have hmS:Mod A.S W w':=hm.mono fun _ _ e=>.inr (.inr e);have hv:=h1.vl;have hv':Vl w' A (m.cut n) s (1000000000 - k * 1022784):=⟨hv.rep.replan hm hr rfl rfl rfl rfl,hv.len,⟨hv.room.endu,hv.room.cuts⟩,hv.cost,hv.clean.of rfl,hv.c240,hv.cC,hv.cN,hv.c33⟩;exact ⟨rfl,⟨⟨m.cut n,s,⟨hv',Blk.mod h1.at_ hmS (hv.rep.noS h1.at_ (by decide) (by decide)),h1.mp,h1.xb⟩,h3⟩,h4.mod hmS (hv.rep.noS h4 (by decide) (by decide)),h5,h6.step hmS fun i hi e=>by have:=h5 i e;omega,h7⟩,hmS⟩
def CuO (W0:World) (A:VAt) (rb B k:Nat) (M M':Md) (er er':Nat) (w':World):Prop:=(er' = er∧CSt W0 w' A rb B (k + 1) M') ∨ (er' = 7∧Dead26 W0 w' A rb B M.old M'.old)
theorem CuO.fresh {M':Md} {er er':Nat} (h:CuO W0 A rb B k M M' er er' W) (hm:Mod Nowhere W W'):CuO W0 A rb B k M M' er er' W':=by
 rcases h with ⟨h1,h2⟩ | ⟨h1,h2⟩
 ·exact .inl ⟨h1,h2.fresh hm⟩
 ·exact .inr ⟨h1,h2.fresh hm⟩
theorem CuO.c {M':Md} {er er':Nat} (h:CuO W0 A rb B k M M' er er' W):W.cell? ⟨B,0,none⟩ = some (ptr A.M.mb)∧W.cell? ⟨B,1,none⟩ = some (ptr A.vb)∧W.cell? ⟨B,2,none⟩ = some (ptr rb)∧B < W.heap.size:=by
 rcases h with ⟨-,h2⟩ | ⟨-,h2⟩
 ·exact h2.c
 ·exact h2.c
theorem CuO.md {M':Md} {er er':Nat} (h:CuO W0 A rb B k M M' er er' W):Mod Nowhere W0 W:=by
 rcases h with ⟨-,h2⟩ | ⟨-,h2⟩
 ·exact h2.md
 ·exact h2.md
theorem CSt.call (h:CSt W0 W A rb B k M) (hk:k < 900) {F:FuncId} {args:Array Value} {M':Md} {er:Nat}
  (hc:∀ m s,RgM W rb A m s M→Room m (vcost A)→Calls Tryz.prog F args W (RCall W A m s M' er)):Calls Tryz.prog F args W fun e w'=>∃ er':Nat,e = .returned (errno er')∧CuO W0 A rb B k M M' er er' w'∧Mod A.S W w':=by
 obtain ⟨⟨m,s,h1,h3⟩,h4,h5,h6,h7⟩:=h;have hn:1000000000 - k * 1022784 = (1000000000 - (k + 1) * 1022784) + 1022784:=by omega
 have h1':=h1;rw [hn] at h1';refine (hc m s h1.toM (h1'.room (by omega))).mono fun e w' hr=>?_;obtain ⟨s',hv,hmp,hl⟩:=hr;have hV:Vl W A m s (1000000000 - (k + 1) * 1022784 + vcost A):=h1'.vl.less (Nat.add_le_add_left h1'.vl.cost _);have hmod:∀ {w2},Mod A.S W w2→Mod Nowhere W0 w2:=fun hm=>h6.step hm fun i hi e=>by have:=h5 i e;omega
 rcases hv.vl hV (by omega) with ⟨m',rfl,a,-,b,-,hm⟩ | ⟨m',f,rfl,hf,hd,hs,hm⟩
 ·exact ⟨er,rfl,.inl ⟨rfl,⟨⟨m',s',⟨a,Blk.mod h1.at_ hm (h1.vl.rep.noS h1.at_ (by decide) (by decide)),hmp,h1.xb⟩,by omega⟩,h4.mod hm (h1.vl.rep.noS h4 (by decide) (by decide)),h5,hmod hm,h7⟩⟩,hm⟩
 ·have hmc:=h1.vl.rep.mem.2.2.2;have hrm:=h1.vl.room.endu;obtain ⟨P,p,hsb,hal⟩:=hd.stub;refine ⟨7,rfl,.inr ⟨rfl,⟨⟨m',⟨hd.mem,?_,hs.clean h1.vl.clean,hs.good,by rw [hs.size];exact h1.vl.c240,by rw [hs.size];exact h1.vl.cC,by rw [hs.size];exact h1.vl.cN,h1.vl.c33,?_,by rw [hs.cuts,hmc,h7];omega⟩,P,p,hsb,hal⟩,?_,Blk.mod h1.at_ hm (h1.vl.rep.noS h1.at_ (by decide) (by decide)),h4.mod hm (h1.vl.rep.noS h4 (by decide) (by decide)),h5,hmod hm⟩⟩,hm⟩
  ·rcases hf with rfl | rfl
   ·exact ⟨_,_,hd.vmem,h1.mp.reborn [],.inl rfl⟩
   ·exact ⟨_,_,hd.vmem,hmp.reborn [],.inr rfl⟩
  ·rw [hs.endu];have:=hs.hi;have:=h1'.vl.cost;omega
  ·obtain ⟨b1,b2,b3,b4,b5,b6⟩:=hd.bv;exact ⟨_,b6⟩
theorem CuO.own {M':Md} {er er':Nat} (h:CuO W0 A rb B k M M' er er' W) {N:Nat} {cs:List Value} (hb:Blk W N cs 54) (hm:Mod (fun j=>j = N) W W') (hN:W0.heap.size≤N):CuO W0 A rb B k M M' er er' W':=by
 rcases h with ⟨h1,h2⟩ | ⟨h1,h2⟩
 ·exact .inl ⟨h1,h2.own hb hm hN⟩
 ·exact .inr ⟨h1,h2.own hb hm hN⟩
end
section
variable {W0 W W' : World} {A : VAt} {rb B k : Nat} {m : Mem} {M : Md} {L1 L2 : List En}
theorem Left26.shun (h:Left26 W A m L1 L2) {T:TypeId} (hT:T ≠ 112∧T ≠ 206∧T ≠ 3):Shun A.M.S W T:=by
 rintro x (e | e | e) cs hb
 ·rw [e] at hb;exact hT.1 (hb.inj h.rep.bm).2
 ·rw [e] at hb;exact hT.2.1 (hb.inj h.rep.bw).2
 ·rw [e] at hb;exact hT.2.2 (hb.inj h.rep.br).2
theorem Left26.keep (h:Left26 W A m L1 L2) (hm:Mod A.M.S W W') {x:Nat} {cs:List Value} {T:TypeId} (hb:Blk W x cs T) (hT:T ≠ 112∧T ≠ 206∧T ≠ 3):Blk W' x cs T:=hb.mod hm fun e=>h.shun hT x e cs hb
theorem Left26.keepL (h:Left26 W A m L1 L2) (hm:Mod A.M.S W W') {va:Option Addr} {vc:Nat} {L:List En} (hel:EL W va vc L):EL W' va vc L:=hel.mod hm (h.shun (by decide)) (h.shun (by decide))
structure Back26 (W0 W:World) (A:VAt) (B:Nat) (L1 L2:List En):Prop where
 ex:∃ m,Left26 W A m L1 L2∧m.off = false∧m.pending = false
 bw:∃ x y,Blk W B [ptr A.M.mb,x,y] 48
 nw:∀ i,A.S i→W0.heap.size≤i
 md:Mod Nowhere W0 W
theorem Dead26.restore (h:Dead26 W0 W A rb B L1 L2):Calls Tryz.prog 36 #[ptr A.M.mb] W fun e w'=>e = .returned (.tuple #[])∧Back26 W0 w' A B L1 L2∧Mod A.M.S W w':=by
 obtain ⟨⟨m,h1,-⟩,h2,h3,h4,h5,h6⟩:=h;refine (Zdq h1.rep).mono fun e w' hp=>?_;obtain ⟨rfl,hr,hm⟩:=hp;obtain ⟨f,M2,a1,a2,a3⟩:=h1.ex;exact ⟨rfl,⟨⟨m.restore,⟨hr,⟨f,M2,a1.of rfl rfl,a2,a3⟩,h1.clean.of rfl,h1.good.of rfl,h1.c240,h1.cC,h1.cN,h1.c33,h1.room,h1.cu⟩,rfl,rfl⟩,⟨_,_,h1.keep hm h4 (by decide)⟩,h5,h6.step hm fun i hi e=>by have:=h5 i (.inr (.inr e));omega⟩,hm⟩
structure Anew26 (W0 W:World) (A2:VAt) (L:List En):Prop where
 ex:∃ m s,VRep W A2 m s∧s.l.length≤1000000∧∃ G,(∀ k,k < 32→view s (192 + k) = (G k).map enB)∧SRel G L
 md:Mod Nowhere W0 W
theorem Back26.mount (h:Back26 W0 W A B L1 L2):Calls Tryz.prog 37 #[ptr A.M.mb] W fun e w'=>∃ A2 L,e = .returned (.tuple #[ptr A2.vb,errno 0])∧(L = L1 ∨ L = L2)∧Anew26 W0 w' A2 L∧Mod A.M.S W w':=by
 obtain ⟨⟨m,h1,h2,hpd⟩,-,h4,h5⟩:=h;obtain ⟨f,M2,a1,a2,a3⟩:=h1.ex;refine (Zcu h1.rep h2 h1.clean h1.good h1.c240 h1.cC h1.cN h1.c33 a1 ⟨h1.room,by have:=h1.cu;omega⟩).mono fun e w' hp=>?_;rcases hp with ⟨A2,m2,k2,rfl,-,-,-,-,hv,-,-,-,hm⟩ | ⟨m2,-,-,hs,-,-⟩
 ·exact ⟨A2,M2.now,rfl,a3,⟨⟨m2,_,hv,Nat.zero_le _,a2.items⟩,h5.step hm fun i hi e=>by have:=h4 i (.inr (.inr e));omega⟩,hm⟩
 ·have:=hs.pend;rw [hpd] at this
  cases this
structure Shown26 (W0 W:World) (r2:Nat) (L:List En):Prop where
 ex:∃ A2 m s,Reg W r2 A2 m s L
 md:Mod Nowhere W0 W
theorem Shown26.fresh {r2:Nat} {L:List En} (h:Shown26 W0 W r2 L) (hm:Mod Nowhere W W'):Shown26 W0 W' r2 L:=by
 obtain ⟨⟨A2,m,s,h1⟩,h3⟩:=h;exact ⟨⟨A2,m,s,h1.fresh hm⟩,h3.trans hm⟩
theorem Anew26.opens {A2:VAt} {L:List En} (h:Anew26 W0 W A2 L):Calls Tryz.prog 15 #[ptr A2.vb] W fun e w'=>∃ r2,e = .returned (.tuple #[ptr r2,errno 0])∧Shown26 W0 w' r2 L∧Mod Nowhere W w':=by
 obtain ⟨⟨m,s,h1,h2,hG⟩,h3⟩:=h;refine (Zc2 h1).mono fun e w' hp=>?_;obtain ⟨r2,rfl,hat,-,hm⟩:=hp;exact ⟨r2,rfl,⟨⟨A2,m,s,hat,h1.fresh hm,h2,hG⟩,h3.trans hm⟩,hm⟩
theorem Shown26.shows {r2:Nat} {L L':List En} (h:Shown26 W0 W r2 L) (hlv:RInv L') {va:Option Addr} {vc:Nat} (hel:EL W va vc L'):Calls Tryz.prog 32 #[ptr r2,.agg #[.slice va L'.length vc]] W fun e w'=>e = .returned (.bool (decide (L = L')))∧Mod Nowhere W w':=by
 obtain ⟨⟨A2,m,s,h1⟩,-⟩:=h;exact Zje h1 hlv hel
theorem CSt.shows {va:Option Addr} {vc:Nat} (h:CSt W0 W A rb B k M) (hel:EL W va vc M.now):Calls Tryz.prog 32 #[ptr rb,.agg #[.slice va M.now.length vc]] W fun e w'=>e = .returned (.bool true)∧Mod Nowhere W w':=by
 obtain ⟨m,s,h1⟩:=h.reg;exact Zc9 h1 hel
end
theorem CSt.do_ {W0 W:World} {A:VAt} {rb B k:Nat} {M:Md} (h:CSt W0 W A rb B k M) (hk:k < 900) {x:OpI} (hx:OpAt W x):Calls Tryz.prog 27 #[.agg #[ptr A.M.mb,ptr A.vb,ptr rb],.agg x.cells.toArray] W fun e w'=>∃ er':Nat,e = .returned (errno er')∧CuO W0 A rb B k M (rPlay M x.r).1 (rPlay M x.r).2 er' w'∧Mod A.S W w' :=
 h.call hk fun m s h1 h2=>Zja h1 h2 hx
def LiveC (W0 W:World) (A:VAt) (rb B N N2 k:Nat) (M:Md):Prop:=CSt W0 W A rb B k M∧MInv M∧(∃ va vc ua uc,MBox W N M va vc ua uc)∧∃ c0 c1 c2,Blk W N2 [c0,c1,c2] 54
def GoneC (W0 W:World) (A:VAt) (rb B N N2:Nat) (M M':Md) (z:Int):Prop:=Dead26 W0 W A rb B M.old M'.old∧MInv M∧MInv M'∧(∃ va vc ua uc,MBox W N M' va vc ua uc)∧(∃ va vc ua uc,MBox W N2 M va vc ua uc)∧(M.act = true→M'.old = M.was ∨ (z = 7∧M'.old = M.now))∧(M.act = false→M'.old = M.now ∨ M'.old = M'.now)
theorem GoneC.fresh {W0 W W':World} {A:VAt} {rb B N N2:Nat} {M M':Md} {z:Int} (h:GoneC W0 W A rb B N N2 M M' z) (hm:Mod Nowhere W W'):GoneC W0 W' A rb B N N2 M M' z:=by
 obtain ⟨h1,h2,h3,⟨a,b,c,d,h4⟩,⟨e,f,g,i,h5⟩,h6⟩:=h;exact ⟨h1.fresh hm,h2,h3,⟨a,b,c,d,h4.fresh hm⟩,⟨e,f,g,i,h5.fresh hm⟩,h6⟩
theorem Dead26.box {W0 W W':World} {A:VAt} {rb B N:Nat} {M:Md} {L1 L2:List En} {a c:Option Addr} {b d:Nat} (h:Dead26 W0 W A rb B L1 L2) (hm:Mod A.M.S W W') (hb:MBox W N M a b c d):MBox W' N M a b c d:=by
 obtain ⟨⟨m,h1,-⟩,-⟩:=h;exact ⟨h1.keep hm hb.1 (by decide),h1.keepL hm hb.2.1,h1.keepL hm hb.2.2⟩
theorem Back26.box {W0 W W':World} {A:VAt} {B N:Nat} {M:Md} {L1 L2:List En} {a c:Option Addr} {b d:Nat} (h:Back26 W0 W A B L1 L2) (hm:Mod A.M.S W W') (hb:MBox W N M a b c d):MBox W' N M a b c d:=by
 obtain ⟨⟨m,h1,-⟩,-⟩:=h;exact ⟨h1.keep hm hb.1 (by decide),h1.keepL hm hb.2.1,h1.keepL hm hb.2.2⟩
theorem GoneC.which {W0 W:World} {A:VAt} {rb B N N2:Nat} {M M':Md} {z:Int} (h:GoneC W0 W A rb B N N2 M M' z) {L:List En} (hL:L = M.old ∨ L = M'.old):(M.act = true→L = M.was ∨ (z = 7∧L = M.now))∧(M.act = false→L = M.now ∨ L = M'.now):=by
 obtain ⟨-,-,-,-,-,h6,h7⟩:=h
 constructor
 ·intro ha;rcases hL with rfl | rfl
  ·exact .inl (by unfold Md.old;rw [if_pos ha])
  ·exact h6 ha
 ·intro ha;rcases hL with rfl | rfl
  ·exact .inl (by unfold Md.old;rw [if_neg (by rw [ha];decide)])
  ·exact h7 ha
theorem Zji {w:World} {l:List OpI} {va:Option Addr} {vc:Nat} (i0:InROps w (.slice va l.length vc) l) (hq:fewB l = true) (at_:Int) (wn:Nat) (hwn:wn < 9223372036854775808) :
  Calls Tryz.prog 9 #[.slice va l.length vc,.int .i64 at_,.int .i64 wn] w fun e w'=>e = .returned (.bool true)∧Mod Nowhere w w':=by
 have hF:Calls Tryz.prog 25 #[.slice va l.length vc] w fun e w'=>e = .returned (.bool true)∧w' = w:=by
  have:=Jy i0;rw [hq] at this;exact this
 have hO:=Zc3 w;have hWk:=fun W=>Ju W;have hl60:=Zjb hq;have hw0:¬ (wn:Int) < 0:=by omega
 refine hid4 ?_ i0 hF hO hWk;clear i0 hF hO hWk;intro i0 hF hO hWk;go_enter Tryz.func9,Tryz.ntmps9;go_wp2_with fail;refine (hF.out).mono ?_;rintro e w1 ⟨rfl,rfl⟩
 go_upto_region 3 with (fail)
 go_wp2_with fail;refine hO.out.mono ?_;intro e w2 ho;obtain ⟨A,-,rb,rfl,hd,hcu⟩:=DoSt.new ho;clear ho hO;have hd:=hd.cst hcu;obtain ⟨k0,k1,k2,kl⟩:=hd.c;obtain ⟨B,hB⟩:∃ B,w2.heap.size = B:=⟨_,rfl⟩;rw [hB] at hd k0 k1 k2 kl;have hmd:=hd.md;refine hid4 ?_ hd hB hmd hcu;clear hd hB hmd hcu;intro hd hB hmd hcu
 go_upto_region 6 with (fail)
 generalize w2.alloc (.cells #[ptr A.M.mb,ptr A.vb,ptr rb] 48) = w3 at *;rw [hB.out]
 go_upto_region 7 with (fail)
 generalize hw4:(w3.alloc (.cells #[.slice none 0 0,.slice none 0 0,.bool false] 54)).alloc (.cells #[.slice none 0 0,.slice none 0 0,.bool false] 54) = w4;generalize hN:w3.heap.size = N;have hA:Mod Nowhere w3 w4:=hw4 ▸ m2z w3 [.slice none 0 0,.slice none 0 0,.bool false] [.slice none 0 0,.slice none 0 0,.bool false] _ _;obtain ⟨hb1,hb2⟩:=blk_b (w:=w3) [.slice none 0 0,.slice none 0 0,.bool false] [.slice none 0 0,.slice none 0 0,.bool false] 54 54 w4 (by rw [← hw4];exact Mod.refl _ _);rw [hN] at hb1 hb2;have hbx:MBox w4 N mFirst none 0 none 0:=⟨hb1,⟨[],ESl.nil _,rfl⟩,⟨[],ESl.nil _,rfl⟩⟩;have hd4:=hd.out.fresh hA
 have hNw:w1.heap.size≤N:=by have:=hmd.out.size;omega
 refine hid4 ?_ hA hbx hd4 hb2;clear hA hbx hd4 hb2;intro hA hbx hd4 hb2;go_wp2;clear k0 k1 k2 kl hw4 hN hb1
 go_loopw [11,12] (fun la i wr=>∃ (k:Nat) (z:Int),k≤l.length∧i = .int .i64 k∧la = .int .i64 z∧(LiveC w1 wr A rb B N (N + 1) k (rRun mFirst ((l.map OpI.r).take k)) ∨ ∃ M M',GoneC w1 wr A rb B N (N + 1) M M' z)) (fun _ i _=>l.length - (intOf i).toNat)
 case atStart=>exact ⟨0,0,by omega,rfl,rfl,.inl ⟨hd4.out,MInv.first,⟨_,_,_,_,hbx.out⟩,_,_,_,hb2.out⟩⟩
 case round =>
  obtain ⟨k,z,hk,rfl,rfl,hlive | ⟨M,M',hg⟩⟩:=hrel
  ·obtain ⟨hd,hi,⟨va',vc',ua',uc',hbx⟩,t0',t1',t2',hbn⟩:=hlive;obtain ⟨k0,k1,k2,kl⟩:=hd.c;by_cases hlt:k < l.length
   ·have hki:(k:Int) < (l.length:Int):=by omega
    have hal:=hd.alive;obtain ⟨f1,f2,f3,f4⟩:=Zjc hq hlt;have hop:=i0.out.op hlt;have hpl:=fun X va ua vc uc (h1:Mod Nowhere w1 X) h2 h3=>ZiQ (w:=X) (va:=va) (ua:=ua) (vc:=vc) (uc:=uc) h2 h3 hi.now (hop.fresh h1) f1 f2 f3 f4;have hi':=hi.play l[k].r hop.inE.ba hop.inE.bd;have hpo:=ZgK (rRun mFirst ((l.map OpI.r).take k)) l[k].r;obtain ⟨b,off,x0,x1,x2,x3,x4,x5,x6,x7,a1,a2,a3,a4,n1,n2,n3,n4,c1,c2,c3,c4,rfl,g1,g2,hce,hoc⟩:=i0.out.ce hlt
    have hxa:l[k].r.act = x0:=by
     unfold OpI.cells eCells at hce;simp at hce;exact hce.1
    have hD:∀ X,CSt w1 X A rb B k (rRun mFirst ((l.map OpI.r).take k))→Calls Tryz.prog 27 #[.agg #[ptr A.M.mb,ptr A.vb,ptr rb],.agg #[.int .i64 x0,.slice a1 n1 c1,.int .i64 x1,.int .i64 x2,.int .i64 x3,.int .i64 x4,.slice a2 n2 c2,.int .i64 x5,.int .i64 x6,.slice a3 n3 c3,.slice a4 n4 c4,.int .i64 x7]] X fun e w'=>∃ er':Nat,e = .returned (errno er')∧CuO w1 A rb B k (rRun mFirst ((l.map OpI.r).take k)) (rRun mFirst ((l.map OpI.r).take (k + 1))) (rPlay (rRun mFirst ((l.map OpI.r).take k)) l[k].r).2 er' w'∧Mod A.S X w':=fun X hX=>by
     have:=hX.do_ (by omega) (hop.fresh hX.md);rw [hce,Jw l hlt] at this;exact this
    rw [hce,Jw l hlt] at hpl;rw [Jw l hlt] at hi' hpo;rw [hxa] at hpo;obtain ⟨er,her⟩:∃ er,(rPlay (rRun mFirst ((l.map OpI.r).take k)) l[k].r).2 = er:=⟨_,rfl⟩;rw [her] at hD hpl;obtain ⟨M',hM'⟩:∃ M',rRun mFirst ((l.map OpI.r).take (k + 1)) = M':=⟨_,rfl⟩;rw [hM'] at hD hpl hi' hpo;obtain ⟨M,hM⟩:∃ M,rRun mFirst ((l.map OpI.r).take k) = M:=⟨_,rfl⟩;rw [hM] at hd hi hbx hpl hpo hD;clear hop f1 f2 f3 f4 hxa;refine hid12 ?_ hd hi hbx hbn hD hpl hi' hpo hoc hce her hM';clear hd hi hbx hbn hD hpl hi' hpo hoc hce her hM';intro hd hi hbx hbn hD hpl hi' hpo hoc hce her hM';refine hid2 ?_ hM hal;clear hM hal;intro hM hal
    go_wp2_with fail;refine hal.out.mono ?_;rintro r w5 ⟨rfl,hm5⟩;have hd5:=hd.out.fresh hm5;have hx5:=hbx.out.fresh hm5;have hn5:=hbn.out.mod hm5 id;clear k0 k1 k2 kl;obtain ⟨k0,k1,k2,kl⟩:=hd5.c;by_cases hka:(k:Int) = at_
    case' pos =>
     have hkb:((k:Int) == at_) = true:=by simpa using hka
     have hcut:=hd5.cut hwn;refine hid6 ?_ hm5 hd5 hx5 hn5 hcut hka;clear hm5 hd5 hx5 hn5 hcut hka;intro hm5 hd5 hx5 hn5 hcut hka;go_wp2_with fail;refine hcut.out.mono ?_;rintro r w6 ⟨rfl,hd6,hS6⟩;have hx6:MBox w6 N M va' vc' ua' uc':=⟨hd5.out.keepM hS6 hx5.out.1,hd5.out.keepL hS6 hx5.out.2.1,hd5.out.keepL hS6 hx5.out.2.2⟩;have hn6:=hd5.out.keepM hS6 hn5.out;unfold Go.Proofs.YthmahbfmfpjjcaaGreat.errno;clear k0 k1 k2 kl;obtain ⟨k0,k1,k2,kl⟩:=hd6.c;refine hid4 ?_ hd6 hx6 hn6 hS6;clear hd6 hx6 hn6 hS6;intro hd6 hx6 hn6 hS6
     go_upto_region 13 with (fail)
    case' neg =>
     have hkb:((k:Int) == at_) = false:=by simpa using hka
     have hd6:=hd5;have hx6:=hx5;have hn6:=hn5;refine hid8 ?_ hm5 hd5 hx5 hn5 hka hd6 hx6 hn6;clear hm5 hd5 hx5 hn5 hka hd6 hx6 hn6;intro hm5 hd5 hx5 hn5 hka hd6 hx6 hn6
     go_upto_region 13 with (fail)
     generalize w5 = w6 at *
    all_goals
     obtain ⟨o0,o1,o2,o3,o4,o5,o6,o7,o8,o9,o10,o11,ol⟩:=hoc.out w6 hd6.out.md;have hdr:=(Mod.refl Nowhere w6).drew;have hDo:=hD.out w6.drew (hd6.out.fresh hdr);clear hkb;refine hid2 ?_ hdr hDo;clear hdr hDo;intro hdr hDo;go_wp2_with fail
     go_region_held3 (fun W=>W.cell? ⟨B,0,none⟩ = some (ptr A.M.mb)∧W.cell? ⟨B,1,none⟩ = some (ptr A.vb)∧W.cell? ⟨B,2,none⟩ = some (ptr rb)∧W.cell? ⟨b,off + k * 12,none⟩ = some (.int .i64 x0)∧W.cell? ⟨b,off + k * 12 + 1,none⟩ = some (.slice a1 n1 c1)∧W.cell? ⟨b,off + k * 12 + 2,none⟩ = some (.int .i64 x1)∧W.cell? ⟨b,off + k * 12 + 3,none⟩ = some (.int .i64 x2)∧W.cell? ⟨b,off + k * 12 + 4,none⟩ = some (.int .i64 x3)∧W.cell? ⟨b,off + k * 12 + 5,none⟩ = some (.int .i64 x4)∧W.cell? ⟨b,off + k * 12 + 6,none⟩ = some (.slice a2 n2 c2)∧W.cell? ⟨b,off + k * 12 + 7,none⟩ = some (.int .i64 x5)∧W.cell? ⟨b,off + k * 12 + 8,none⟩ = some (.int .i64 x6)∧W.cell? ⟨b,off + k * 12 + 9,none⟩ = some (.slice a3 n3 c3)∧W.cell? ⟨b,off + k * 12 + 10,none⟩ = some (.slice a4 n4 c4)∧W.cell? ⟨b,off + k * 12 + 11,none⟩ = some (.int .i64 x7)) (simp [*,World.cell?_alloc_some,World.cell?_setCell_far,World.cell?_setCell_other])
      (first | (go_at_call 27;(with_reducible refine hDo.out.mono ?_);rintro e v1 ⟨er',rfl,ho,hS⟩;obtain ⟨j0,j1,j2,jl⟩:=ho.c;obtain ⟨p0,p1,p2,p3,p4,p5,p6,p7,p8,p9,p10,p11,pl⟩:=hoc.out v1 ho.md;replace ho:=Lib.hid ho;replace hS:=Lib.hid hS) | fail)
     have hd6r:=hd6.out.fresh hdr.out;have hx6r:=hx6.out.fresh hdr.out;have hb2:=hd6r.keepM hS.out hx6r.1;have hL1:=hd6r.keepL hS.out hx6r.2.1;have hL2:=hd6r.keepL hS.out hx6r.2.2;have hn2:=hd6r.keepM hS.out (hn6.out.mod hdr.out id);clear k0 k1 k2 kl o0 o1 o2 o3 o4 o5 o6 o7 o8 o9 o10 o11 ol;have s0:=hb2.cell 0;have s1:=hb2.cell 1;have s2:=hb2.cell 2;have sf:=hb2.frozen;have sl:=hb2.lt;simp only [gz0,gs0] at s0 s1 s2;have n0:=hn2.cell 0;have n1:=hn2.cell 1;have n2:=hn2.cell 2;have nf:=hn2.frozen;have nl:=hn2.lt;simp only [gz0,gs0] at n0 n1 n2;obtain ⟨g1,mN⟩:=put3 hn2 (.slice va' M.now.length vc') (.slice ua' M.was.length uc') (.bool M.act);have e1:=hL1.mod mN (shun1 hn2 (by decide)) (shun1 hn2 (by decide))
     have e2:=hL2.mod mN (shun1 hn2 (by decide)) (shun1 hn2 (by decide));have hoX:=ho.out.own hn2 mN (by omega);have hbX:=hb2.mod mN (by omega);obtain ⟨X,hX⟩:∃ X,(((v1.setCell ⟨N + 1,0,none⟩ (.slice va' M.now.length vc')).setCell ⟨N + 1,1,none⟩ (.slice ua' M.was.length uc')).setCell ⟨N + 1,2,none⟩ (.bool M.act)) = X:=⟨_,rfl⟩;rw [hX] at g1 mN e1 e2 hoX hbX;refine hid12 ?_ hd6r hx6r hb2 hL1 hL2 hn2 g1 mN e1 e2 hoX hbX;clear hd6r hx6r hb2 hL1 hL2 hn2 g1 mN e1 e2 hoX hbX;intro hd6r hx6r hb2 hL1 hL2 hn2 g1 mN e1 e2 hoX hbX
     go_upto_region 15 with (fail)
     clear hX s0 s1 s2 sf sl n0 n1 n2 nf nl j0 j1 j2 jl p0 p1 p2 p3 p4 p5 p6 p7 p8 p9 p10 p11 pl;have s0:=hbX.out.cell 0;have s1:=hbX.out.cell 1;have s2:=hbX.out.cell 2;have sl:=hbX.out.lt;simp only [gz0,gs0] at s0 s1 s2;obtain ⟨p0,p1,p2,p3,p4,p5,p6,p7,p8,p9,p10,p11,pl⟩:=hoc.out X hoX.out.md;have hdv:=(Mod.refl Nowhere X).drew;have hP:=fun Y (hY:Mod Nowhere X Y)=>hpl.out Y _ _ _ _ (hoX.out.md.trans hY) (e1.out.fresh hY) (e2.out.fresh hY);have mA:=((Mod.refl Nowhere X).alloc (.cells #[.slice none 0 0,.slice none 0 0,.bool false] 54)).drew;have bA:Blk (X.alloc (.cells #[.slice none 0 0,.slice none 0 0,.bool false] 54)).drew X.heap.size [.slice none 0 0,.slice none 0 0,.bool false] 54:=(Blk.new X [.slice none 0 0,.slice none 0 0,.bool false] 54).drew;have f1:=e1
     have f2:=e2;clear e1 e2;refine hid4 ?_ hdv hP mA bA;clear hdv hP mA bA;intro hdv hP mA bA
     go_cut [14,15] (fun p q wx=>∃ N8 va2 vc2 ua2 uc2,p = ptr N8∧q = errno er∧MBox wx N8 M' va2 vc2 ua2 uc2∧Mod Nowhere X wx∧X.heap.size≤N8)
     case first =>
      go_region_held3 (fun W=>W.cell? ⟨N,0,none⟩ = some (.slice va' M.now.length vc')∧W.cell? ⟨N,1,none⟩ = some (.slice ua' M.was.length uc')∧W.cell? ⟨N,2,none⟩ = some (.bool M.act)∧W.cell? ⟨b,off + k * 12,none⟩ = some (.int .i64 x0)∧W.cell? ⟨b,off + k * 12 + 1,none⟩ = some (.slice a1 n1 c1)∧W.cell? ⟨b,off + k * 12 + 2,none⟩ = some (.int .i64 x1)∧W.cell? ⟨b,off + k * 12 + 3,none⟩ = some (.int .i64 x2)∧W.cell? ⟨b,off + k * 12 + 4,none⟩ = some (.int .i64 x3)∧W.cell? ⟨b,off + k * 12 + 5,none⟩ = some (.int .i64 x4)∧W.cell? ⟨b,off + k * 12 + 6,none⟩ = some (.slice a2 n2 c2)∧W.cell? ⟨b,off + k * 12 + 7,none⟩ = some (.int .i64 x5)∧W.cell? ⟨b,off + k * 12 + 8,none⟩ = some (.int .i64 x6)∧W.cell? ⟨b,off + k * 12 + 9,none⟩ = some (.slice a3 n3 c3)∧W.cell? ⟨b,off + k * 12 + 10,none⟩ = some (.slice a4 n4 c4)∧W.cell? ⟨b,off + k * 12 + 11,none⟩ = some (.int .i64 x7)) (simp [*,World.cell?_alloc_some,World.cell?_setCell_far,World.cell?_setCell_other])
       (first
        | (go_at_call 28;(with_reducible refine (hP.out _ mA.out).mono ?_);rintro e v2 ⟨va2,vc2,ua2,uc2,rfl,e1,e2,hm2⟩;have hmS:=mA.out.trans hm2;have bT:=bA.out.mod hm2 id;have y0:=bT.cell 0;have y1:=bT.cell 1;have y2:=bT.cell 2;have yl:=bT.lt;have yf:=bT.frozen;simp only [gz0,gs0] at y0 y1 y2;have bN:=hbX.out.mod hmS id;have t0:=bN.cell 0;have t1:=bN.cell 1;have t2:=bN.cell 2;simp only [gz0,gs0] at t0 t1 t2;obtain ⟨r0,r1,r2,r3,r4,r5,r6,r7,r8,r9,r10,r11,rl⟩:=hoc.out v2 (hoX.out.md.trans hmS);clear bN;replace e1:=Lib.hid e1;replace e2:=Lib.hid e2;replace hmS:=Lib.hid hmS;clear hm2;replace bT:=Lib.hid bT)
        | (go_at_call 28;(with_reducible refine (hP.out _ hdv.out).mono ?_);rintro e v2 ⟨va2,vc2,ua2,uc2,rfl,e1,e2,hm2⟩;have hmS:=hdv.out.trans hm2;have bN:=hbX.out.mod hmS id;have t0:=bN.cell 0;have t1:=bN.cell 1;have t2:=bN.cell 2;simp only [gz0,gs0] at t0 t1 t2;obtain ⟨r0,r1,r2,r3,r4,r5,r6,r7,r8,r9,r10,r11,rl⟩:=hoc.out v2 (hoX.out.md.trans hmS);clear bN;replace e1:=Lib.hid e1;replace e2:=Lib.hid e2;replace hmS:=Lib.hid hmS;clear hm2)
        | fail)
      ·have ma:=m1 v2 [.slice va2 M'.now.length vc2,.slice ua2 M'.was.length uc2,.bool M'.act] 54;have g1':=Blk.new v2 [.slice va2 M'.now.length vc2,.slice ua2 M'.was.length uc2,.bool M'.act] 54;have g3:=e1.out.fresh ma;have g4:=e2.out.fresh ma;have g5:=hmS.out.trans ma;refine hid5 ?_ g1' g3 g4 g5 ma;clear g1' g3 g4 g5 ma;intro g1' g3 g4 g5 ma;go_wp2;go_meet
       case rel=>exact ⟨v2.heap.size,va2,vc2,ua2,uc2,rfl,rfl,⟨g1'.out,g3.out,g4.out⟩,g5.out,hmS.out.size⟩
      ·obtain ⟨g1',g2'⟩:=put3 bT.out (.slice va2 M'.now.length vc2) (.slice ua2 M'.was.length uc2) (.bool M'.act);have g3:=e1.out.mod g2' (shun1 bT.out (by decide)) (shun1 bT.out (by decide));have g4:=e2.out.mod g2' (shun1 bT.out (by decide)) (shun1 bT.out (by decide));have g5:=hmS.out.own g2' (Nat.le_refl _);refine hid5 ?_ g1' g2' g3 g4 g5;clear g1' g2' g3 g4 g5;intro g1' g2' g3 g4 g5;go_wp2;go_meet
       case rel=>exact ⟨X.heap.size,va2,vc2,ua2,uc2,rfl,rfl,⟨g1'.out,g3.out,g4.out⟩,g5.out,Nat.le_refl _⟩
     case rest =>
      obtain ⟨N8,va2,vc2,ua2,uc2,rfl,rfl,hbx8,hm8,hN8⟩:=hcut;have d1:N8 ≠ N:=by omega
      have d2:N ≠ N8:=by omega
      have hbl:b < w1.heap.size:=(hoc.out w1 (Mod.refl _ _)).2.2.2.2.2.2.2.2.2.2.2.2;have d3:b ≠ N:=by omega
      have d4:N ≠ b:=by omega
      clear s0 s1 s2 sl p0 p1 p2 p3 p4 p5 p6 p7 p8 p9 p10 p11 pl;have hoC:=hoX.out.fresh hm8;obtain ⟨r0,r1,r2,rf,rl⟩:=hbx8.four;obtain ⟨p0,p1,p2,p3,p4,p5,p6,p7,p8,p9,p10,p11,pl⟩:=hoc.out wc hoC.md;have bN:=hbX.out.mod hm8 id;have hgC:MBox wc (N + 1) M va' vc' ua' uc':=⟨g1.out.mod hm8 id,f1.out.fresh hm8,f2.out.fresh hm8⟩;have s0:=bN.cell 0;have s1:=bN.cell 1;have s2:=bN.cell 2;have sf:=bN.frozen;have sl:=bN.lt;simp only [gz0,gs0] at s0 s1 s2;refine hid5 ?_ hbx8 hm8 hoC bN hgC;clear hbx8 hm8 hoC bN hgC;intro hbx8 hm8 hoC bN hgC;go_wp2_with fail
      go_region_held3 (fun W=>W.cell? ⟨N8,0,none⟩ = some (.slice va2 M'.now.length vc2)∧W.cell? ⟨N8,1,none⟩ = some (.slice ua2 M'.was.length uc2)∧W.cell? ⟨N8,2,none⟩ = some (.bool M'.act)∧W.cell? ⟨b,off + k * 12,none⟩ = some (.int .i64 x0)) (simp [*,World.cell?_alloc_some,World.cell?_setCell_far,World.cell?_setCell_other]) (fail)
      obtain ⟨hbx2,mN2⟩:=MBox.put bN.out hbx8.out.2.1 hbx8.out.2.2;have hoN:=hoC.out.own bN.out mN2 hNw;have hgN:MBox _ (N + 1) M va' vc' ua' uc':=⟨hgC.out.1.mod mN2 (by omega),hgC.out.2.1.mod mN2 (shun1 bN.out (by decide)) (shun1 bN.out (by decide)),hgC.out.2.2.mod mN2 (shun1 bN.out (by decide)) (shun1 bN.out (by decide))⟩;obtain ⟨Y0,hY0⟩:∃ Y0,(((wc.setCell ⟨N,0,none⟩ (.slice va2 M'.now.length vc2)).setCell ⟨N,1,none⟩ (.slice ua2 M'.was.length uc2)).setCell ⟨N,2,none⟩ (.bool M'.act)) = Y0:=⟨_,rfl⟩;rw [hY0] at hbx2 mN2 hoN hgN ⊢;have hdq:=(Mod.refl Nowhere Y0).drew;generalize Y0.drew = Y at hdq ⊢;have hoY:=hoN.fresh hdq
      have hbY:=hbx2.fresh hdq;have hgY:=hgN.fresh hdq;clear hY0 s0 s1 s2 sf sl r0 r1 r2 rf rl p0 p1 p2 p3 p4 p5 p6 p7 p8 p9 p10 p11 pl;rcases hoY with ⟨rfl,hdY⟩ | ⟨rfl,hdY⟩
      ·have hne:((er':Int) != (er':Int)) = false:=by simp
       obtain ⟨k0,k1,k2,kl⟩:=hdY.c;unfold Go.Proofs.YthmahbfmfpjjcaaGreat.errno at *;refine hid8 ?_ hdY hbY hgY hoN hbx2 mN2 hgN hdq;clear hdY hbY hgY hoN hbx2 mN2 hgN hdq;intro hdY hbY hgY hoN hbx2 mN2 hgN hdq;go_wp2;go_roundw
       case rel=>exact ⟨k + 1,x0,by omega,by go_num,rfl,.inl ⟨by rw [hM'.out];exact hdY.out,by rw [hM'.out];exact hi'.out,⟨_,_,_,_,by rw [hM'.out];exact hbY.out⟩,_,_,_,hgY.out.1⟩⟩
       case measure=>simp [intOf];omega
      ·obtain ⟨k0,k1,k2,kl⟩:=hdY.c;have hna:=hdY.na Y (Mod.refl _ _);unfold Go.Proofs.YthmahbfmfpjjcaaGreat.errno at *;by_cases h7:er = 7
       ·subst h7;refine hid9 ?_ hdY hbY hgY hoN hbx2 mN2 hgN hdq hna;clear hdY hbY hgY hoN hbx2 mN2 hgN hdq hna;intro hdY hbY hgY hoN hbx2 mN2 hgN hdq hna;go_wp2;go_roundw
        case rel=>exact ⟨k + 1,x0,by omega,by go_num,rfl,.inr ⟨M,M',hdY.out,hi.out,hi'.out,⟨_,_,_,_,hbY.out⟩,⟨_,_,_,_,hgY.out⟩,hpo.out.1,hpo.out.2⟩⟩
        case measure=>simp [intOf];omega
       ·have hne:((7:Int) != (er:Int)) = true:=by simp;omega
        refine hid10 ?_ hdY hbY hgY hoN hbx2 mN2 hgN hdq hna h7;clear hdY hbY hgY hoN hbx2 mN2 hgN hdq hna h7;intro hdY hbY hgY hoN hbx2 mN2 hgN hdq hna h7;go_wp2_with fail;refine hna.out.mono ?_;rintro r w9 ⟨rfl,hm9⟩;replace hm9:=Lib.hid hm9;go_wp2;go_roundw
        case rel=>exact ⟨k + 1,x0,by omega,by go_num,rfl,.inr ⟨M,M',GoneC.fresh ⟨hdY.out,hi.out,hi'.out,⟨_,_,_,_,hbY.out⟩,⟨_,_,_,_,hgY.out⟩,hpo.out.1,hpo.out.2⟩ hm9.out⟩⟩
        case measure=>simp [intOf];omega
   ·have hki:¬ (k:Int) < (l.length:Int):=by omega
    obtain ⟨M,hM⟩:∃ M,rRun mFirst ((l.map OpI.r).take k) = M:=⟨_,rfl⟩;rw [hM] at hd hi hbx;clear hM;obtain ⟨now,was,act⟩:=M;have hal:=hd.alive;have hmd:=hd.md;refine hid6 ?_ hd hi hbx hal hmd hbn;clear hd hi hbx hal hmd hbn;intro hd hi hbx hal hmd hbn;go_wp2_with fail;refine hal.out.mono ?_;rintro r w5 ⟨rfl,hm5⟩;have hd5:=hd.out.fresh hm5;have hb5:=hbx.out.fresh hm5;have hsh:=hd5.shows hb5.2.1;clear k0 k1 k2 kl;obtain ⟨k0,k1,k2,kl⟩:=hd5.c;obtain ⟨s0,s1,s2,sf,sl⟩:=hb5.four;dsimp only at s0 s1 s2 hsh;refine hid4 ?_ hm5 hd5 hb5 hsh;clear hm5 hd5 hb5 hsh;intro hm5 hd5 hb5 hsh
    go_wp2_with fail;refine hsh.out.mono ?_;rintro r w6 ⟨rfl,hm6⟩;replace hm6:=Lib.hid hm6;go_wp2_with fail;refine (hWk.out _).mono ?_;rintro r w7 ⟨rfl,hm7⟩;go_wp2;go_ret;exact ⟨rfl,hmd.out.trans (hm5.out.trans (hm6.out.trans hm7))⟩
  ·have hdd:=hg.1;obtain ⟨k0,k1,k2,kl⟩:=hdd.c;by_cases hlt:k < l.length
   case' pos =>
    have hki:(k:Int) < (l.length:Int):=by omega
    have hna:=hdd.na wr (Mod.refl _ _);refine hid3 ?_ hna hg hdd;clear hna hg hdd;intro hna hg hdd;go_wp2_with fail;refine hna.out.mono ?_;rintro r w5 ⟨rfl,hm5⟩;have hg5:=hg.out.fresh hm5;refine hid2 ?_ hm5 hg5;clear hm5 hg5;intro hm5 hg5
    go_upto_region 19 with (fail)
   case' neg =>
    have hki:¬ (k:Int) < (l.length:Int):=by omega
    have hg5:=hg;refine hid3 ?_ hg hg5 hdd;clear hg hg5 hdd;intro hg hg5 hdd
    go_upto_region 19 with (fail)
    generalize wr = w5 at *
   all_goals
    clear k0 k1 k2 kl hki;have hna:=hg5.out.1.na w5 (Mod.refl _ _);have hmd5:=hg5.out.1.md;obtain ⟨k0,k1,k2,kl⟩:=hg5.out.1.c;refine hid2 ?_ hna hmd5;clear hna hmd5;intro hna hmd5;go_wp2_with fail;refine hna.out.mono ?_;rintro r w6 ⟨rfl,hm6⟩;have hg6:=hg5.out.fresh hm6;have hrm:=Zjh hg6.1.at_ hg6.1.na none 0 0;clear k0 k1 k2 kl;obtain ⟨k0,k1,k2,kl⟩:=hg6.1.c;refine hid3 ?_ hm6 hg6 hrm;clear hm6 hg6 hrm;intro hm6 hg6 hrm;go_wp2_with fail;refine hrm.out.mono ?_;rintro r w7 ⟨rfl,hm7⟩;have hg7:=hg6.out.fresh hm7;have hli:=Zjg hg7.1.at_ hg7.1.na;clear k0 k1 k2 kl;obtain ⟨k0,k1,k2,kl⟩:=hg7.1.c
    unfold Go.Proofs.YthmahbfmfpjjcaaGreat.errno at *;refine hid3 ?_ hm7 hg7 hli;clear hm7 hg7 hli;intro hm7 hg7 hli;go_wp2_with fail;refine hli.out.mono ?_;intro r w8 hp;obtain ⟨la,lc,rfl,-,hm8⟩:=EPost.el (L:=[]) hp;clear hp;have hg8:=hg7.out.fresh hm8;have hrs:=hg8.1.restore;clear k0 k1 k2 kl;obtain ⟨k0,k1,k2,kl⟩:=hg8.1.c;refine hid3 ?_ hm8 hg8 hrs;clear hm8 hg8 hrs;intro hm8 hg8 hrs;go_wp2_with fail;refine hrs.out.mono ?_;rintro r w9 ⟨rfl,hbk,hmS9⟩;obtain ⟨hd8,hi,hi',⟨va',vc',ua',uc',hbx⟩,⟨wa',wc',xa',xc',hgx⟩,-,-⟩:=hg8.out;have hx9:=hd8.box hmS9 hbx;have hy9:=hd8.box hmS9 hgx
    have hmt:=hbk.mount;clear k0 k1 k2 kl hd8 hbx hgx;obtain ⟨bx,by_,hbw⟩:=hbk.bw;have k0:=hbw.cell 0;have kl:=hbw.lt;simp only [gz0] at k0;refine hid8 ?_ hbk hmS9 hx9 hy9 hmt hi hi' hbw;clear hbk hmS9 hx9 hy9 hmt hi hi' hbw;intro hbk hmS9 hx9 hy9 hmt hi hi' hbw;go_wp2_with fail;refine hmt.out.mono ?_;rintro r w10 ⟨A2,L,rfl,hL,han,hmS10⟩;have hx10:=hbk.out.box hmS10 hx9.out;have hy10:=hbk.out.box hmS10 hy9.out;have hop:=han.opens;clear k0 kl;unfold Go.Proofs.YthmahbfmfpjjcaaGreat.errno at *;refine hid6 ?_ hL han hmS10 hx10 hy10 hop;clear hL han hmS10 hx10 hy10 hop;intro hL han hmS10 hx10 hy10 hop
    go_wp2_with fail;refine hop.out.mono ?_;rintro r w11 ⟨r2,rfl,hsh,hm11⟩;have hx11:=hx10.out.fresh hm11;have hy11:=hy10.out.fresh hm11;have hmd11:=hsh.md;obtain ⟨q1,q2⟩:=hg8.out.which hL.out;have hs1:=fun X (hX:Mod Nowhere w11 X)=>(hsh.fresh hX).shows hi.out.was (hy11.2.2.fresh hX);have hs2:=fun X (hX:Mod Nowhere w11 X)=>(hsh.fresh hX).shows hi.out.now (hy11.2.1.fresh hX);have hs3:=fun X (hX:Mod Nowhere w11 X)=>(hsh.fresh hX).shows hi'.out.now (hx11.2.1.fresh hX)
    have hK:∀ X,Mod Nowhere w11 X→(X.cell? ⟨N + 1,0,none⟩ = some (.slice wa' M.now.length wc')∧X.cell? ⟨N + 1,1,none⟩ = some (.slice xa' M.was.length xc')∧N + 1 < X.heap.size)∧X.cell? ⟨N,0,none⟩ = some (.slice va' M'.now.length vc')∧N < X.heap.size:=fun X hX=>by
     obtain ⟨a0,a1,-,-,a4⟩:=(hy11.fresh hX).four;obtain ⟨b0,-,-,-,b4⟩:=(hx11.fresh hX).four;exact ⟨⟨a0,a1,a4⟩,b0,b4⟩
    obtain ⟨-,-,n2,-,-⟩:=hy11.four;obtain ⟨⟨n0,n1,nl⟩,s0,sl⟩:=hK w11 (Mod.refl _ _);obtain ⟨act,hact⟩:∃ a,M.act = a:=⟨_,rfl⟩;rw [hact] at n2 q1 q2;unfold Go.Proofs.YthmahbfmfpjjcaaGreat.errno at *;refine hid9 ?_ hsh hm11 hx11 hy11 hmd11 hs2 hs3 hK hact;clear hsh hm11 hx11 hy11 hmd11 hs2 hs3 hK hact;intro hsh hm11 hx11 hy11 hmd11 hs2 hs3 hK hact
    cases act
    ·clear q1;have hqq:=q2 rfl;clear q2 hs1;have hs2a:=hs2.out w11 (Mod.refl _ _);by_cases he:L = M.now
     ·rw [decide_eq_true he] at hs2a;refine hid3 ?_ hs2a hqq he;clear hs2a hqq he;intro hs2a hqq he;go_wp2_with fail;refine hs2a.out.mono ?_;rintro r w12 ⟨rfl,hm12⟩;replace hm12:=Lib.hid hm12;go_wp2_with fail;refine (hWk.out _).mono ?_;rintro r w13 ⟨rfl,hm13⟩;go_wp2;go_ret;exact ⟨rfl,hmd11.out.trans (hm12.out.trans hm13)⟩
     ·have he2:L = M'.now:=hqq.resolve_left he;rw [decide_eq_false he] at hs2a;refine hid3 ?_ hs2a hqq he;clear hs2a hqq he;intro hs2a hqq he;go_wp2_with fail;refine hs2a.out.mono ?_;rintro r w12 ⟨rfl,hm12⟩;have hs3a:=hs3.out w12 hm12;rw [decide_eq_true he2] at hs3a;clear n0 n1 nl s0 sl n2;obtain ⟨⟨n0,n1,nl⟩,s0,sl⟩:=hK.out w12 hm12;refine hid3 ?_ hm12 hs3a he2;clear hm12 hs3a he2;intro hm12 hs3a he2;go_wp2_with fail;refine hs3a.out.mono ?_;rintro r w13 ⟨rfl,hm13⟩;replace hm13:=Lib.hid hm13;go_wp2_with fail;refine (hWk.out _).mono ?_;rintro r w14 ⟨rfl,hm14⟩;go_wp2;go_ret;exact ⟨rfl,hmd11.out.trans (hm12.out.trans (hm13.out.trans hm14))⟩
    ·clear q2;have hqq:=q1 rfl;clear q1;have hs1a:=hs1 w11 (Mod.refl _ _);clear hs1;by_cases he:L = M.was
     ·rw [decide_eq_true he] at hs1a;refine hid3 ?_ hs1a hqq he;clear hs1a hqq he;intro hs1a hqq he;go_wp2_with fail;refine hs1a.out.mono ?_;rintro r w12 ⟨rfl,hm12⟩;replace hm12:=Lib.hid hm12;go_wp2_with fail;refine (hWk.out _).mono ?_;rintro r w13 ⟨rfl,hm13⟩;go_wp2;go_ret;exact ⟨rfl,hmd11.out.trans (hm12.out.trans hm13)⟩
     ·obtain ⟨hz,he2⟩:=hqq.resolve_left he;rw [decide_eq_false he] at hs1a;have hzb:(z == 7) = true:=by simp [hz]
      refine hid4 ?_ hs1a hqq he hz;clear hs1a hqq he hz;intro hs1a hqq he hz;go_wp2_with fail;refine hs1a.out.mono ?_;rintro r w12 ⟨rfl,hm12⟩;have hs2a:=hs2.out w12 hm12;rw [decide_eq_true he2] at hs2a;clear n0 n1 nl s0 sl n2;obtain ⟨⟨n0,n1,nl⟩,s0,sl⟩:=hK.out w12 hm12;refine hid3 ?_ hm12 hs2a he2;clear hm12 hs2a he2;intro hm12 hs2a he2;go_wp2_with fail;refine hs2a.out.mono ?_;rintro r w13 ⟨rfl,hm13⟩;replace hm13:=Lib.hid hm13;go_wp2_with fail;refine (hWk.out _).mono ?_;rintro r w14 ⟨rfl,hm14⟩;go_wp2;go_ret;exact ⟨rfl,hmd11.out.trans (hm12.out.trans (hm13.out.trans hm14))⟩
theorem Zjj {w:World} {l:List OpI} {va:Option Addr} {vc:Nat} (i0:InROps w (.slice va l.length vc) l) (hq:fewB l = false) (x y:Int) :
  Calls Tryz.prog 9 #[.slice va l.length vc,.int .i64 x,.int .i64 y] w fun e w'=>e = .returned (.bool true)∧Mod Nowhere w w':=by
 have hF:Calls Tryz.prog 25 #[.slice va l.length vc] w fun e w'=>e = .returned (.bool false)∧w' = w:=by
  have:=Jy i0;rw [hq] at this;exact this
 have hWk:=fun W=>Ju W;refine hid2 ?_ hF hWk;clear hF hWk;intro hF hWk;go_enter Tryz.func9,Tryz.ntmps9;go_wp2_with fail;refine (hF.out).mono ?_;rintro e w1 ⟨rfl,rfl⟩;go_wp2_with fail;refine (hWk.out _).mono ?_;rintro e w2 ⟨rfl,hm⟩;go_wp2;go_ret;exact ⟨rfl,hm⟩
theorem Zjk {w:World} {l:List OpI} {va:Option Addr} {vc:Nat} (i0:InROps w (.slice va l.length vc) l) (hq:fewB l = true) (x:Int) {y:Int} (hy:y < 0) :
  Calls Tryz.prog 9 #[.slice va l.length vc,.int .i64 x,.int .i64 y] w fun e w'=>e = .returned (.bool true)∧Mod Nowhere w w':=by
 have hF:Calls Tryz.prog 25 #[.slice va l.length vc] w fun e w'=>e = .returned (.bool true)∧w' = w:=by
  have:=Jy i0;rw [hq] at this;exact this
 have hWk:=fun W=>Ju W;refine hid2 ?_ hF hWk;clear hF hWk;intro hF hWk;go_enter Tryz.func9,Tryz.ntmps9;go_wp2_with fail;refine (hF.out).mono ?_;rintro e w1 ⟨rfl,rfl⟩;go_wp2_with fail;refine (hWk.out _).mono ?_;rintro e w2 ⟨rfl,hm⟩;go_wp2;go_ret;exact ⟨rfl,hm⟩
theorem Zjl (v1:Value) (l:List OpI) (x y:Int) (w:World) (i0:InROps w v1 l) (hy:y < 9223372036854775808):Calls Tryz.prog 9 #[v1,.int .i64 x,.int .i64 y] w fun e w'=>e = .returned (.bool true)∧Below w.heap.size w w':=by
 refine Calls.mono (?_:Calls _ _ _ _ (fun e w'=>e = .returned (.bool true)∧Mod Nowhere w w')) (fun e w' h=>⟨h.1,h.2.below⟩);obtain ⟨va,vc,rfl,-⟩:=i0.gen
 cases hq:fewB l with
 | false=>exact Zjj i0 hq x y
 | true =>
  by_cases h0:y < 0
  ·exact Zjk i0 hq x h0
  ·obtain ⟨n,rfl⟩:∃ n:Nat,y = (n:Int):=⟨y.toNat,by omega⟩;exact Zji i0 hq x n (by omega)
end Go.Proofs.YthmahbfmfpjjcaaGreat
