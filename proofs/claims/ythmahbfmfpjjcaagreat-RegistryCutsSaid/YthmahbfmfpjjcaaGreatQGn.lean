/-
  The registry: adding an entry.
-/
import Derived.Test.YthmahbfmfpjjcaaGreatQG68
import Derived.Test.YthmahbfmfpjjcaaGreatQH4
set_option linter.unusedVariables false
set_option linter.unusedSimpArgs false
set_option maxHeartbeats 16000000
set_option maxRecDepth 100000
namespace Go.Proofs.YthmahbfmfpjjcaaGreat
open Go.RowKit
open Jn Vn Rg
attribute [local go_sem] Oper.semAt_some
theorem Zc1 {w:World} {rb:Nat} {A:VAt} {m:Mem} {s:VSt} {M:Md} (h:RgM w rb A m s M) {u v:Value} {en:En} (he:EOk en) (hi:InE w u v en.raw) (hrm:Room m (vcost A)) :
  Calls Tryz.prog 19 #[ptr rb,.agg (eCells u v en.raw).toArray] w (RCall w A m s { M with now:=(rAdd M.now en).1 } (rAdd M.now en).2):=by
 obtain ⟨G,hG,hS⟩:=h.mp.items;have hA:=m1 w (eCells u v en.raw) 24;have hX:=blk_a (w:=w) (eCells u v en.raw) 24
 have hpc:∀ W,Mod Nowhere w W→W.cell? ⟨rb,0,none⟩ = some (ptr A.vb)∧rb < W.heap.size:=fun W hm=>by
  have c0:=Blk.cell (h.at_.fresh hm) 0;simp only [gz0] at c0;exact ⟨c0,Blk.lt (h.at_.fresh hm)⟩
 have hVa:∀ W,Mod Nowhere w W→Calls Tryz.prog 39 #[.agg (eCells u v en.raw).toArray] W fun r w'=>r = .returned (.bool true)∧Mod Nowhere W w':=fun W hm=>by
  have hp:=he.p31;have:=Zbf (hi.fresh hm) (by show (-9223372036854775808:Int)≤(en.pr:Int);omega) (by show (en.pr:Int)≤9223372036854775807;omega);rw [(Yg _).2 he.rok] at this;exact this
 have hR:∀ W,Mod Nowhere w W→Calls Tryz.prog 50 #[ptr rb] W fun e w'=>e = .returned (errno 0)∧Mod Nowhere W w':=fun W hm=>Y5 (h.at_.fresh hm) (h.rep.fresh hm);have hAl:∀ W,Mod Nowhere w W→Calls Tryz.prog 51 #[ptr rb] W fun e w'=>∃ b,e = .returned (.map (some b))∧W.heap.size≤b∧EMap w' b M.now.length G∧Mod Nowhere W w':=fun W hm=>Jl (h.reg.fresh hm) hG hS;have hFi:∀ W,Mod Nowhere w W→Calls Tryz.prog 16 #[ptr rb,u] W (FPost W (rFind M.now en.aid)):=fun W hm=>Jo (h.reg.fresh hm) (hi.sa.fresh hm) hi.ba
 have hIm:∀ W,Mod Nowhere w W→Calls Tryz.prog 43 #[ptr rb,.func (.func 52) #[] #[]] W (FPost W (M.now.find? isImp)):=fun W hm =>
  Z0 (h.reg.fresh hm) 52 #[] (enters_of Tryz.func52 (by kernel_rfl) rfl) isImp fun x hx u' v' W' hm' e1 e2=>Ziz ⟨e1,e2,h.inv.ok x hx⟩
 have hIs:∀ W,Mod Nowhere w W→Calls Tryz.prog 53 #[.agg (eCells u v en.raw).toArray] W fun r w'=>r = .returned (.bool (isIss en))∧Mod Nowhere W w':=fun W hm=>Jq (hi.fresh hm);have hDm:∀ W,Mod Nowhere w W→Calls Tryz.prog 54 #[ptr rb,v] W fun r w'=>r = .returned (.bool (M.now.any (isDom en.dom)))∧Mod Nowhere W w':=fun W hm=>ZcX (h.reg.fresh hm) (hi.sd.fresh hm) hi.bd;have hPk:∀ W,Mod Nowhere w W→Calls Tryz.prog 55 #[ptr rb,.int .i64 en.pk] W fun r w'=>r = .returned (.bool (M.now.any (isPak en.pk)))∧Mod Nowhere W w':=fun W hm=>ZiD (h.reg.fresh hm) en.pk;have hEn:∀ W,Mod Nowhere w W→Calls Tryz.prog 57 #[.agg (eCells u v en.raw).toArray] W (BPost W (enB en)):=fun W hm=>Zbg he (hi.fresh hm);obtain ⟨r1,r2⟩:=ZZ M.now en
 have hno:∀ er,addE M.now en = er→er ≠ 0→∀ W,Mod Nowhere w W→RCall w A m s { M with now:=(rAdd M.now en).1 } (rAdd M.now en).2 (.returned (errno er)) W:=fun er e0 e1 W hm=>by
  rw [r1,r2 (by rw [e0];exact e1),e0];exact RCall.none h hm er
 have hpt:addE M.now en = 0→∃ k,k < 32∧G k = none∧(∀ j,j < k→(G j).isSome = true)∧∀ W c,Mod Nowhere w W→Src W c (enB en)→Calls Tryz.prog 56 #[ptr A.vb,.int .i64 ((192 + k:Nat):Int),c] W (fun e w'=>RCall w A m s { M with now:=(rAdd M.now en).1 } (rAdd M.now en).2 e w'∧Mod A.S W w'):=fun e0=>by
  obtain ⟨k,hk,hn,hj,hv,hmp⟩:=h.mp.add he (by rw [r1];exact e0) h.xb;have hGn:∀ j,j < 32→(view s (192 + j)).isSome = (G j).isSome:=fun j hj=>by rw [hG j hj];cases G j <;> rfl
  refine ⟨k,hk,?_,fun j hjk=>by rw [← hGn j (by omega)];exact hj j hjk,fun W c hm hc=>?_⟩
  ·have:=hGn k hk;rw [hn] at this
   cases hg:G k with
   | none=>rfl
   | some e=>rw [hg] at this;cases this
  ·have:=ZcA (h.rep.fresh hm) (by have:=h.len;omega) ((192 + k:Nat):Int) hc (ZbT he) (by have:=he.len;omega) hrm;rw [hv] at this;refine this.mono ?_;intro e w' hc;rw [r1,e0];exact ⟨⟨_,hc.from hm.nowhere,hmp,Jp _ _⟩,hc.modA⟩
 have hnA:∀ W W',Mod Nowhere (w.alloc (.cells (eCells u v en.raw).toArray 24)) W→Mod A.S W W'→Blk W' w.heap.size (eCells u v en.raw) 24∧W'.cell? ⟨rb,0,none⟩ = some (ptr A.vb)∧rb < W'.heap.size:=fun W W' hm hm'=>by
  have hr:=h.rep.fresh (hA.trans hm);have h1:=(hX W hm).mod hm' (hr.noS (hX W hm) (by decide) (by decide));have hrb:=h.at_.fresh (hA.trans hm);have h2:Blk W' rb [ptr A.vb] 75:=Blk.mod hrb hm' (hr.noS hrb (by decide) (by decide));have c0:=h2.cell 0;simp only [gz0] at c0;exact ⟨h1,c0,h2.lt⟩
 have hgs:∀ k,k < 32→(G k).isSome = (view s (192 + k)).isSome:=fun k hk=>by rw [hG k hk];cases G k <;> rfl
 have her:∀ e w',RCall w A m s { M with now:=(rAdd M.now en).1 } (rAdd M.now en).2 e w'→∃ n:Nat,e = .returned (errno n):=fun e w' hc=>hc.errno;generalize RCall w A m s { M with now:=(rAdd M.now en).1 } (rAdd M.now en).2 = R at *;clear r1 r2 hgs;have htw:(rFind M.now en.aid).isSome = M.now.any (isAid en.aid):=(Y6 _).symm;have hli:(M.now.find? isImp).isSome = M.now.any isImp:=(Y6 _).symm;have h31:=and1 (x:=en.pr) (by have:=he.p31;omega);have hl32:=h.inv.len;obtain ⟨ua,uc,rfl,-⟩:=hi.sa;obtain ⟨va,vc,rfl,-⟩:=hi.sd;unfold addE at *;generalize rFind M.now en.aid = oF at *
 generalize M.now.find? isImp = oI at *;generalize M.now.any (isAid en.aid) = tw at *;generalize isIss en = iss at *;generalize M.now.any (isDom en.dom) = dm at *;generalize M.now.any (isPak en.pk) = pk at *;have him:isImp en = decide (en.pr % 2 = 1):=rfl;rw [← him] at h31;clear him;generalize isImp en = im at *;generalize M.now.any isImp = li at *;generalize M.now.length = n at *;clear h hi hG hS he;generalize enB en = eb at *;obtain ⟨kd,st,bf,pr,pkn,ob,aid,dom⟩:=en;unfold eCells at *;dsimp only [En.raw] at *;generalize aid.length = n1 at *;generalize dom.length = n2 at *;have hk2:((kd:Int) == 2) = decide (kd = 2):=by by_cases hq:kd = 2 <;> simp [hq];omega
 have hk3:((kd:Int) == 3) = decide (kd = 3):=by by_cases hq:kd = 3 <;> simp [hq];omega
 have hk23:decide (kd = 2) = true→decide (kd = 3) = false:=by simp;omega
 generalize decide (kd = 2) = k2 at *;generalize decide (kd = 3) = k3 at *;refine hid12 ?_ hA hX hnA hpc hVa hR hAl hFi hIm hIs hDm hPk;clear hA hX hnA hpc hVa hR hAl hFi hIm hIs hDm hPk;intro hA hX hnA hpc hVa hR hAl hFi hIm hIs hDm hPk;refine hid8 ?_ hEn hno hpt htw hli hl32 her hk23;clear hEn hno hpt htw hli hl32 her hk23;intro hEn hno hpt htw hli hl32 her hk23;go_enter Tryz.func19,Tryz.ntmps19;obtain ⟨q0,ql⟩:=hpc.out _ hA.out;go_wp2_with fail;refine (hVa.out _ hA.out).mono ?_;rintro r w1 ⟨rfl,hm1⟩;have hw1:=hA.out.trans hm1;have hR1:=hR.out _ hw1;refine hid3 ?_ hm1 hw1 hR1;clear hm1 hw1 hR1;intro hm1 hw1 hR1
 go_wp2_with fail;refine (hR1.out).mono ?_;rintro e w2 ⟨rfl,hm2⟩;have hw2:=hw1.out.trans hm2;have hAl2:=hAl.out _ hw2;refine hid3 ?_ hm2 hw2 hAl2;clear hm2 hw2 hAl2;intro hm2 hw2 hAl2;go_wp2_with fail;refine (hAl2.out).mono ?_;rintro e w3 ⟨b,rfl,hb,hem,hm3⟩;obtain ⟨g,hj,hel⟩:=hem.ex;have hw3:=hw2.out.trans hm3;have hX3:∀ W,Mod Nowhere w3 W→Blk W w.heap.size [.slice ua n1 uc,.int .i64 kd,.int .i64 st,.int .i64 bf,.int .i64 pr,.slice va n2 vc,.int .i64 pkn,.int .i64 ob] 24:=fun W hm=>hX.out W (((hm1.out.trans hm2.out).trans hm3).trans hm);have hFi3:=hFi.out _ hw3;have X:=hX3 w3 (Mod.refl _ _)
 have x0:=X.cell 0;simp only [gz0] at x0;have xl:=X.lt;refine hid9 ?_ hm3 hw3 hb hem hj hel hFi3 hX3 X;clear hm3 hw3 hb hem hj hel hFi3 hX3 X;intro hm3 hw3 hb hem hj hel hFi3 hX3 X;go_wp2_with fail;refine (hFi3.out).mono ?_;rintro e w4 ⟨u1,v1,rfl,d1,d2,hm4⟩;obtain ⟨a1,c1,rfl,-⟩:=Sl.len d1;obtain ⟨a2,c2,rfl,-⟩:=Sl.len d2;clear d1 d2;rw [htw.out];generalize rOf oF = re at *;obtain ⟨k',st',bf',pr',pk',ob',aid',dom'⟩:=re;unfold eCells;dsimp only;generalize aid'.length = n3 at *;generalize dom'.length = n4 at *;have hA4:=m1 w4 [.slice a1 n3 c1,.int .i64 k',.int .i64 st',.int .i64 bf',.int .i64 pr',.slice a2 n4 c2,.int .i64 pk',.int .i64 ob'] 24;have hw4:=(hw3.out.trans hm4).trans hA4
 have hIm4:=hIm.out _ hw4;refine hid4 ?_ hm4 hw4 hA4 hIm4;clear hm4 hw4 hA4 hIm4;intro hm4 hw4 hA4 hIm4;go_wp2_with fail;refine (hIm4.out).mono ?_;rintro e w5 ⟨u1,v1,rfl,d1,d2,hm5⟩;obtain ⟨a3,c3,rfl,-⟩:=Sl.len d1;obtain ⟨a4,c4,rfl,-⟩:=Sl.len d2;clear d1 d2;rw [hli.out];generalize rOf oI = re at *;obtain ⟨k6,st6,bf6,pr6,pk6,ob6,aid6,dom6⟩:=re;unfold eCells;dsimp only;generalize aid6.length = n5 at *;generalize dom6.length = n6 at *;have hA5:=m1 w5 [.slice a3 n5 c3,.int .i64 k6,.int .i64 st6,.int .i64 bf6,.int .i64 pr6,.slice a4 n6 c4,.int .i64 pk6,.int .i64 ob6] 24;have hw35:=((hm4.out.trans hA4.out).trans hm5).trans hA5
 refine hid3 ?_ hm5 hw35 hA5;clear hm5 hw35 hA5;intro hm5 hw35 hA5
 have hF:∀ W,Mod Nowhere w3 W→W.cell? ⟨w.heap.size,0,none⟩ = some (.slice ua n1 uc)∧W.cell? ⟨w.heap.size,1,none⟩ = some (.int .i64 kd)∧W.cell? ⟨w.heap.size,2,none⟩ = some (.int .i64 st)∧W.cell? ⟨w.heap.size,3,none⟩ = some (.int .i64 bf)∧W.cell? ⟨w.heap.size,4,none⟩ = some (.int .i64 pr)∧W.cell? ⟨w.heap.size,5,none⟩ = some (.slice va n2 vc)∧W.cell? ⟨w.heap.size,6,none⟩ = some (.int .i64 pkn)∧W.cell? ⟨w.heap.size,7,none⟩ = some (.int .i64 ob)∧w.heap.size < W.heap.size∧W.cell? ⟨rb,0,none⟩ = some (ptr A.vb)∧rb < W.heap.size:=fun W hm=>by
  have X:=hX3.out W hm;have x0:=X.cell 0;have x1:=X.cell 1;have x2:=X.cell 2;have x3:=X.cell 3;have x4:=X.cell 4;have x5:=X.cell 5;have x6:=X.cell 6;have x7:=X.cell 7;obtain ⟨y0,y1⟩:=hpc.out W (hw3.out.trans hm);exact ⟨x0,x1,x2,x3,x4,x5,x6,x7,X.lt,y0,y1⟩
 clear q0 ql x0 xl;replace hF:=Lib.hid hF
 go_upto_block 0 with (fail)
 go_cut [] (fun wx=>addC tw iss dm (decide (0 < n)) k2 pk k3 im li (decide (32≤n)) = 0∧Mod Nowhere w3 wx)
 case first =>
  generalize w5.alloc (.cells #[.slice a3 n5 c3,.int .i64 k6,.int .i64 st6,.int .i64 bf6,.int .i64 pr6,.slice a4 n6 c4,.int .i64 pk6,.int .i64 ob6] 24) = W0 at *;obtain ⟨x0,x1,x2,x3,x4,x5,x6,x7,xl,q0,ql⟩:=hF.out W0 hw35.out
  cases tw
  ·have hI:=hIs.out W0 (hw3.out.trans hw35.out);replace hI:=Lib.hid hI;go_wp2_with fail;refine (hI.out).mono ?_;rintro e w6 ⟨rfl,hm6⟩;have hw6:=hw35.out.trans hm6;clear x0 x1 x2 x3 x4 x5 x6 x7 xl q0 ql;obtain ⟨x0,x1,x2,x3,x4,x5,x6,x7,xl,q0,ql⟩:=hF.out w6 hw6;have hI2:=hIs.out w6 (hw3.out.trans hw6);have hD2:=hDm.out w6 (hw3.out.trans hw6);refine hid4 ?_ hI2 hD2 hm6 hw6;clear hI2 hD2 hm6 hw6;intro hI2 hD2 hm6 hw6
   cases iss
   ·go_wp2_with fail;refine (hD2.out).mono ?_;rintro e w7 ⟨rfl,hm7⟩;have hw7:=hw6.out.trans hm7;clear x0 x1 x2 x3 x4 x5 x6 x7 xl q0 ql;obtain ⟨x0,x1,x2,x3,x4,x5,x6,x7,xl,q0,ql⟩:=hF.out w7 hw7;refine hid2 ?_ hm7 hw7;clear hm7 hw7;intro hm7 hw7
    cases dm
    ·have hfin:=hno.out 12 rfl (by decide) w7 (hw3.out.trans hw7.out);replace hfin:=Lib.hid hfin;go_wp2;exact hfin.out
    ·have hI3:=hIs.out w7 (hw3.out.trans hw7.out);replace hI3:=Lib.hid hI3;go_wp2_with fail;refine (hI3.out).mono ?_;rintro e w8 ⟨rfl,hm8⟩;have hw8:=hw7.out.trans hm8;clear x0 x1 x2 x3 x4 x5 x6 x7 xl q0 ql;obtain ⟨x0,x1,x2,x3,x4,x5,x6,x7,xl,q0,ql⟩:=hF.out w8 hw8;refine hid2 ?_ hm8 hw8;clear hm8 hw8;intro hm8 hw8
     cases k2
     ·cases k3
      ·cases im
       ·have hj11:=hj.out.mod hw8.out id;have hl11:=fun ty=>hj11.len Tryz.underlying78 ty;by_cases hfl:32≤n
        ·have hfl':(32:Int)≤(n:Int):=by omega
         have hfin:=hno.out 10 (by simp [addC,hfl]) (by decide) w8 (hw3.out.trans hw8.out);refine hid2 ?_ hfin hj11;clear hfin hj11;intro hfin hj11;go_wp2;exact hfin.out
        ·have hfl':¬ (32:Int)≤(n:Int):=by omega
         replace hj11:=Lib.hid hj11;go_wp2_with fail;go_meet
         case rel=>exact ⟨by simp [addC,hfl],hw8.out⟩
       ·cases li
        ·have hj12:=hj.out.mod hw8.out id;have hl12:=fun ty=>hj12.len Tryz.underlying78 ty;by_cases hfl:32≤n
         ·have hfl':(32:Int)≤(n:Int):=by omega
          have hfin:=hno.out 10 (by simp [addC,hfl]) (by decide) w8 (hw3.out.trans hw8.out);refine hid2 ?_ hfin hj12;clear hfin hj12;intro hfin hj12;go_wp2;exact hfin.out
         ·have hfl':¬ (32:Int)≤(n:Int):=by omega
          replace hj12:=Lib.hid hj12;go_wp2_with fail;go_meet
          case rel=>exact ⟨by simp [addC,hfl],hw8.out⟩
        ·have hfin:=hno.out 14 (by simp [addC]) (by decide) w8 (hw3.out.trans hw8.out);replace hfin:=Lib.hid hfin;go_wp2;exact hfin.out
      ·have hP10:=hPk.out w8 (hw3.out.trans hw8.out);replace hP10:=Lib.hid hP10;go_wp2_with fail;refine (hP10.out).mono ?_;rintro e v10 ⟨rfl,hm10⟩;have hw10:=hw8.out.trans hm10;clear x0 x1 x2 x3 x4 x5 x6 x7 xl q0 ql;obtain ⟨x0,x1,x2,x3,x4,x5,x6,x7,xl,q0,ql⟩:=hF.out v10 hw10;refine hid2 ?_ hm10 hw10;clear hm10 hw10;intro hm10 hw10
       cases pk
       ·cases im
        ·have hj13:=hj.out.mod hw10.out id;have hl13:=fun ty=>hj13.len Tryz.underlying78 ty;by_cases hfl:32≤n
         ·have hfl':(32:Int)≤(n:Int):=by omega
          have hfin:=hno.out 10 (by simp [addC,hfl]) (by decide) v10 (hw3.out.trans hw10.out);refine hid2 ?_ hfin hj13;clear hfin hj13;intro hfin hj13;go_wp2;exact hfin.out
         ·have hfl':¬ (32:Int)≤(n:Int):=by omega
          replace hj13:=Lib.hid hj13;go_wp2_with fail;go_meet
          case rel=>exact ⟨by simp [addC,hfl],hw10.out⟩
        ·cases li
         ·have hj14:=hj.out.mod hw10.out id;have hl14:=fun ty=>hj14.len Tryz.underlying78 ty;by_cases hfl:32≤n
          ·have hfl':(32:Int)≤(n:Int):=by omega
           have hfin:=hno.out 10 (by simp [addC,hfl]) (by decide) v10 (hw3.out.trans hw10.out);refine hid2 ?_ hfin hj14;clear hfin hj14;intro hfin hj14;go_wp2;exact hfin.out
          ·have hfl':¬ (32:Int)≤(n:Int):=by omega
           replace hj14:=Lib.hid hj14;go_wp2_with fail;go_meet
           case rel=>exact ⟨by simp [addC,hfl],hw10.out⟩
         ·have hfin:=hno.out 14 (by simp [addC]) (by decide) v10 (hw3.out.trans hw10.out);replace hfin:=Lib.hid hfin;go_wp2;exact hfin.out
       ·have hfin:=hno.out 13 (by simp [addC]) (by decide) v10 (hw3.out.trans hw10.out);replace hfin:=Lib.hid hfin;go_wp2;exact hfin.out
     ·have hk3f:k3 = false:=hk23.out rfl;subst hk3f;have hP15:=hPk.out w8 (hw3.out.trans hw8.out);replace hP15:=Lib.hid hP15;go_wp2_with fail;refine (hP15.out).mono ?_;rintro e v15 ⟨rfl,hm15⟩;have hw15:=hw8.out.trans hm15;clear x0 x1 x2 x3 x4 x5 x6 x7 xl q0 ql;obtain ⟨x0,x1,x2,x3,x4,x5,x6,x7,xl,q0,ql⟩:=hF.out v15 hw15;refine hid2 ?_ hm15 hw15;clear hm15 hw15;intro hm15 hw15
      cases pk
      ·have hfin:=hno.out 12 (by simp [addC]) (by decide) v15 (hw3.out.trans hw15.out);replace hfin:=Lib.hid hfin;go_wp2;exact hfin.out
      ·cases im
       ·have hj16:=hj.out.mod hw15.out id;have hl16:=fun ty=>hj16.len Tryz.underlying78 ty;by_cases hfl:32≤n
        ·have hfl':(32:Int)≤(n:Int):=by omega
         have hfin:=hno.out 10 (by simp [addC,hfl]) (by decide) v15 (hw3.out.trans hw15.out);refine hid2 ?_ hfin hj16;clear hfin hj16;intro hfin hj16;go_wp2;exact hfin.out
        ·have hfl':¬ (32:Int)≤(n:Int):=by omega
         replace hj16:=Lib.hid hj16;go_wp2_with fail;go_meet
         case rel=>exact ⟨by simp [addC,hfl],hw15.out⟩
       ·cases li
        ·have hj17:=hj.out.mod hw15.out id;have hl17:=fun ty=>hj17.len Tryz.underlying78 ty;by_cases hfl:32≤n
         ·have hfl':(32:Int)≤(n:Int):=by omega
          have hfin:=hno.out 10 (by simp [addC,hfl]) (by decide) v15 (hw3.out.trans hw15.out);refine hid2 ?_ hfin hj17;clear hfin hj17;intro hfin hj17;go_wp2;exact hfin.out
         ·have hfl':¬ (32:Int)≤(n:Int):=by omega
          replace hj17:=Lib.hid hj17;go_wp2_with fail;go_meet
          case rel=>exact ⟨by simp [addC,hfl],hw15.out⟩
        ·have hfin:=hno.out 14 (by simp [addC]) (by decide) v15 (hw3.out.trans hw15.out);replace hfin:=Lib.hid hfin;go_wp2;exact hfin.out
   ·go_wp2_with fail;refine (hI2.out).mono ?_;rintro e w7 ⟨rfl,hm7⟩;have hw7:=hw6.out.trans hm7;clear x0 x1 x2 x3 x4 x5 x6 x7 xl q0 ql;obtain ⟨x0,x1,x2,x3,x4,x5,x6,x7,xl,q0,ql⟩:=hF.out w7 hw7;have hj7:=hj.out.mod hw7 id;have hl7:=fun ty=>hj7.len Tryz.underlying78 ty;by_cases hn0:0 < n
    ·have hn0':(0:Int) < (n:Int):=by omega
     have hfin:=hno.out 14 (by rw [decide_eq_true hn0];rfl) (by decide) w7 (hw3.out.trans hw7);refine hid4 ?_ hfin hm7 hw7 hj7;clear hfin hm7 hw7 hj7;intro hfin hm7 hw7 hj7;go_wp2;exact hfin.out
    ·have hn0':¬ (0:Int) < (n:Int):=by omega
     refine hid3 ?_ hm7 hw7 hj7;clear hm7 hw7 hj7;intro hm7 hw7 hj7
     cases k2
     ·cases k3
      ·cases im
       ·have hj19:=hj.out.mod hw7.out id;have hl19:=fun ty=>hj19.len Tryz.underlying78 ty;by_cases hfl:32≤n
        ·omega
        ·have hfl':¬ (32:Int)≤(n:Int):=by omega
         replace hj19:=Lib.hid hj19;go_wp2_with fail;go_meet
         case rel=>exact ⟨by simp [addC,hn0,hfl],hw7.out⟩
       ·cases li
        ·have hj20:=hj.out.mod hw7.out id;have hl20:=fun ty=>hj20.len Tryz.underlying78 ty;by_cases hfl:32≤n
         ·omega
         ·have hfl':¬ (32:Int)≤(n:Int):=by omega
          replace hj20:=Lib.hid hj20;go_wp2_with fail;go_meet
          case rel=>exact ⟨by simp [addC,hn0,hfl],hw7.out⟩
        ·have hfin:=hno.out 14 (by simp [addC,hn0]) (by decide) w7 (hw3.out.trans hw7.out);replace hfin:=Lib.hid hfin;go_wp2;exact hfin.out
      ·have hP18:=hPk.out w7 (hw3.out.trans hw7.out);replace hP18:=Lib.hid hP18;go_wp2_with fail;refine (hP18.out).mono ?_;rintro e v18 ⟨rfl,hm18⟩;have hw18:=hw7.out.trans hm18;clear x0 x1 x2 x3 x4 x5 x6 x7 xl q0 ql;obtain ⟨x0,x1,x2,x3,x4,x5,x6,x7,xl,q0,ql⟩:=hF.out v18 hw18;refine hid2 ?_ hm18 hw18;clear hm18 hw18;intro hm18 hw18
       cases pk
       ·cases im
        ·have hj21:=hj.out.mod hw18.out id;have hl21:=fun ty=>hj21.len Tryz.underlying78 ty;by_cases hfl:32≤n
         ·omega
         ·have hfl':¬ (32:Int)≤(n:Int):=by omega
          replace hj21:=Lib.hid hj21;go_wp2_with fail;go_meet
          case rel=>exact ⟨by simp [addC,hn0,hfl],hw18.out⟩
        ·cases li
         ·have hj22:=hj.out.mod hw18.out id;have hl22:=fun ty=>hj22.len Tryz.underlying78 ty;by_cases hfl:32≤n
          ·omega
          ·have hfl':¬ (32:Int)≤(n:Int):=by omega
           replace hj22:=Lib.hid hj22;go_wp2_with fail;go_meet
           case rel=>exact ⟨by simp [addC,hn0,hfl],hw18.out⟩
         ·have hfin:=hno.out 14 (by simp [addC,hn0]) (by decide) v18 (hw3.out.trans hw18.out);replace hfin:=Lib.hid hfin;go_wp2;exact hfin.out
       ·have hfin:=hno.out 13 (by simp [addC,hn0]) (by decide) v18 (hw3.out.trans hw18.out);replace hfin:=Lib.hid hfin;go_wp2;exact hfin.out
     ·have hk3f:k3 = false:=hk23.out rfl;subst hk3f;have hP23:=hPk.out w7 (hw3.out.trans hw7.out);replace hP23:=Lib.hid hP23;go_wp2_with fail;refine (hP23.out).mono ?_;rintro e v23 ⟨rfl,hm23⟩;have hw23:=hw7.out.trans hm23;clear x0 x1 x2 x3 x4 x5 x6 x7 xl q0 ql;obtain ⟨x0,x1,x2,x3,x4,x5,x6,x7,xl,q0,ql⟩:=hF.out v23 hw23;refine hid2 ?_ hm23 hw23;clear hm23 hw23;intro hm23 hw23
      cases pk
      ·have hfin:=hno.out 12 (by simp [addC,hn0]) (by decide) v23 (hw3.out.trans hw23.out);replace hfin:=Lib.hid hfin;go_wp2;exact hfin.out
      ·cases im
       ·have hj24:=hj.out.mod hw23.out id;have hl24:=fun ty=>hj24.len Tryz.underlying78 ty;by_cases hfl:32≤n
        ·omega
        ·have hfl':¬ (32:Int)≤(n:Int):=by omega
         replace hj24:=Lib.hid hj24;go_wp2_with fail;go_meet
         case rel=>exact ⟨by simp [addC,hn0,hfl],hw23.out⟩
       ·cases li
        ·have hj25:=hj.out.mod hw23.out id;have hl25:=fun ty=>hj25.len Tryz.underlying78 ty;by_cases hfl:32≤n
         ·omega
         ·have hfl':¬ (32:Int)≤(n:Int):=by omega
          replace hj25:=Lib.hid hj25;go_wp2_with fail;go_meet
          case rel=>exact ⟨by simp [addC,hn0,hfl],hw23.out⟩
        ·have hfin:=hno.out 14 (by simp [addC,hn0]) (by decide) v23 (hw3.out.trans hw23.out);replace hfin:=Lib.hid hfin;go_wp2;exact hfin.out
  ·have hfin:=hno.out 13 rfl (by decide) W0 (hw3.out.trans hw35.out);replace hfin:=Lib.hid hfin;go_wp2;exact hfin.out
 case rest =>
  obtain ⟨hz,hwc⟩:=hcut;obtain ⟨k0,hk0,hg0,hgj,hput⟩:=hpt.out hz
  have hfr:∀ j,(g j).isSome = (G j).isSome:=fun j=>by
   have:=hel.out j
   cases h1:G j <;> cases h2:g j <;> rw [h1,h2] at this <;> first | rfl | exact this.elim
  have hlk:=fun W (hm:Mod Nowhere w3 W) j (hj9:j < 9223372036854775808)=>(hj.out.mod hm id).imap.look_ok (t:=78) (e:=24) Tryz.underlying78 (z:=.agg zero8.toArray) rfl (k:=j) hj9;unfold zero8 at hlk;clear hj;refine hid7 ?_ hz hwc hput hg0 hgj hfr hlk;clear hz hwc hput hg0 hgj hfr hlk;intro hz hwc hput hg0 hgj hfr hlk;go_wp2
  go_loopw [11] (fun i wr=>∃ j:Nat,j≤k0∧i = .int .i64 j∧Mod Nowhere w3 wr) (fun i _=>k0 - (RowKit.intOf i).toNat)
  case atStart=>exact ⟨0,by omega,rfl,hwc.out⟩
  case round =>
   obtain ⟨j,hjk,rfl,hmw⟩:=hrel;have hl:=hlk.out wr hmw j (by omega);by_cases hlt:j < k0
   ·have hgs:(g j).isSome = true:=by rw [hfr.out j];exact hgj.out j hlt
    obtain ⟨x,hx⟩:=Option.isSome_iff_exists.1 hgs;have hev:=hel.out j;rw [hx] at hl hev
    cases hGj:G j with
    | none=>rw [hGj] at hev;exact hev.elim
    | some e =>
     rw [hGj] at hev;obtain ⟨u1,v1,rfl,d1,d2⟩:=hev;obtain ⟨a5,c5,rfl,-⟩:=Sl.len d1;obtain ⟨a6,c6,rfl,-⟩:=Sl.len d2;simp only [Option.getD_some,Option.isSome_some] at hl;unfold eCells at hl;have hfin:=fun cs:List Value=>hmw.trans (m1 wr cs 24);clear d1 d2;refine hid5 ?_ hfin hmw hx hGj hgs;clear hfin hmw hx hGj hgs;intro hfin hmw hx hGj hgs;go_wp2;go_roundw
     case rel=>exact ⟨j + 1,by omega,by go_num,hfin.out _⟩
     case measure=>simp [RowKit.intOf];omega
   ·obtain rfl:j = k0:=by omega
    have hgn:g j = none:=by
     have:=hfr.out j;rw [hg0.out] at this
     cases hg:g j with
     | none=>rfl
     | some e=>rw [hg] at this;cases this
    rw [hgn] at hl;simp only [Option.getD_none,Option.isSome_none] at hl;have hA6:=m1 wr [.slice none 0 0,.int .i64 0,.int .i64 0,.int .i64 0,.int .i64 0,.slice none 0 0,.int .i64 0,.int .i64 0] 24;have hw6:=hmw.trans hA6;have hdr:=hw6.drew;obtain ⟨x0,x1,x2,x3,x4,x5,x6,x7,xl,q0,ql⟩:=hF.out _ hw6;have hadd:IntKind.i64.wrap (192 + (j:Int)) = 192 + (j:Int):=by rw [IntKind.wrap_i64];omega
    have hEn9:=hEn.out _ (hw3.out.trans hdr);clear hgn;refine hid5 ?_ hA6 hw6 hmw hdr hEn9;clear hA6 hw6 hmw hdr hEn9;intro hA6 hw6 hmw hdr hEn9;go_wp2_with fail
    go_region_held3 (fun W=>W.cell? ⟨w.heap.size,0,none⟩ = some (.slice ua n1 uc)∧W.cell? ⟨w.heap.size,1,none⟩ = some (.int .i64 kd)∧W.cell? ⟨w.heap.size,2,none⟩ = some (.int .i64 st)∧W.cell? ⟨w.heap.size,3,none⟩ = some (.int .i64 bf)∧W.cell? ⟨w.heap.size,4,none⟩ = some (.int .i64 pr)∧W.cell? ⟨w.heap.size,5,none⟩ = some (.slice va n2 vc)∧W.cell? ⟨w.heap.size,6,none⟩ = some (.int .i64 pkn)∧W.cell? ⟨w.heap.size,7,none⟩ = some (.int .i64 ob)∧W.cell? ⟨rb,0,none⟩ = some (ptr A.vb)) (simp [*,World.cell?_alloc_some,World.cell?_setCell_far,World.cell?_setCell_other])
     (first
      | (go_at_call 57;(with_reducible refine hEn9.out.mono ?_);rintro x w7 ⟨ea,ec,rfl,ho7,hm7⟩;have hm37:=hdr.out.trans hm7;obtain ⟨z0,z1,z2,z3,z4,z5,z6,z7,zl,zq,zql⟩:=hF.out w7 hm37;have hsc:=DSl.src (show DSl w7 (.slice ea eb.length ec) eb from Sl.of_owns ho7);have hP:=hput.out w7 _ (hw3.out.trans hm37) hsc;rw [show ((192 + j:Nat):Int) = 192 + (j:Int) by omega] at hP;replace ho7:=Lib.hid ho7;replace hm7:=Lib.hid hm7;replace hm37:=Lib.hid hm37;replace hsc:=Lib.hid hsc;replace hP:=Lib.hid hP)
      | (go_at_call 56;(with_reducible refine hP.out.mono ?_);rintro x w8 ⟨hc8,hm8⟩;obtain ⟨ne,rfl⟩:=her.out _ _ hc8;obtain ⟨Y,t0,tl⟩:=hnA.out w7 w8 (((hm1.out.trans hm2.out).trans hm3.out).trans hm37.out) hm8;have y0:=Y.cell 0;have y1:=Y.cell 1;have y2:=Y.cell 2;have y3:=Y.cell 3;have y4:=Y.cell 4;have y5:=Y.cell 5;have y6:=Y.cell 6;have y7:=Y.cell 7;simp only [gz0,gs0] at y0 y1 y2 y3 y4 y5 y6 y7;replace hc8:=Lib.hid hc8;replace hm8:=Lib.hid hm8;replace Y:=Lib.hid Y)
      | fail)
    go_wp2;exact hc8.out
theorem ZiF {w:World} {rb:Nat} {A:VAt} {m:Mem} {s:VSt} {M:Md} (h:RgM w rb A m s M) {u v:Value} {e:REn} (hi:InE w u v e) (h1:-9223372036854775808≤e.pr) (h2:e.pr≤9223372036854775807) (hv:pValid e = false) :
  Calls Tryz.prog 19 #[ptr rb,.agg (eCells u v e).toArray] w (RCall w A m s M 1):=by
 have hA:=m1 w (eCells u v e) 24;have hV:=Zbf (hi.fresh hA) h1 h2;rw [hv] at hV;have c0:=Blk.cell (h.at_.fresh hA) 0;simp only [gz0] at c0;have cl:=Blk.lt (h.at_.fresh hA);have hno:∀ W,Mod Nowhere w W→RCall w A m s M 1 (.returned (errno 1)) W:=fun W hm=>RCall.none h hm 1;generalize RCall w A m s M 1 = R at *;obtain ⟨ua,uc,rfl,-⟩:=hi.sa;obtain ⟨va,vc,rfl,-⟩:=hi.sd;clear hi h hv h1 h2;obtain ⟨kd,st,bf,pr,pkn,ob,aid,dom⟩:=e;unfold eCells at *;dsimp only at *;generalize aid.length = n1 at *;generalize dom.length = n2 at *;refine hid3 ?_ hA hV hno;clear hA hV hno;intro hA hV hno
 go_enter Tryz.func19,Tryz.ntmps19;go_wp2_with fail;refine hV.out.mono ?_;rintro r w1 ⟨rfl,hm1⟩;have hfin:=hno.out _ (hA.out.trans hm1);refine hid2 ?_ hfin hm1;clear hfin hm1;intro hfin hm1;go_wp2;exact hfin.out
end Go.Proofs.YthmahbfmfpjjcaaGreat
