/-
  The example of the laws of chapter 21.
-/
import Derived.Test.YtjanpegbemepgaaGreatTG39
import Derived.Lib.SlBytesConst
set_option linter.unusedVariables false
set_option linter.unusedSimpArgs false
set_option maxRecDepth 100000
namespace Go.Proofs.YtjanpegbemepgaaGreat
open Go.RowKit
open Jn Vn
attribute [local go_sem] Oper.semAt_some
def exD:PinD:=⟨1,[49,50,51,52],3,4,8,[57,57],2⟩
def exE:PinD:=⟨1,[53,53,53,53],3,4,8,[57,57],2⟩
theorem bytesOf {l:List Nat} (h:(l.all fun x=>decide (x < 256)) = true):Bytes l:=fun k=>by
 by_cases hk:k < l.length
 ·rw [List.getD_eq_getElem?_getD,List.getElem?_eq_getElem hk];have:=List.all_eq_true.1 h l[k] (List.getElem_mem hk);simpa using this
 ·rw [List.getD_eq_getElem?_getD,List.getElem?_eq_none (by omega)];decide
theorem exD_ok:POk exD:=⟨by decide,by decide,by decide,by decide,by decide,by decide,by decide,by decide,.inr (by decide),bytesOf rfl,bytesOf rfl⟩
theorem exE_ok:POk exE:=⟨by decide,by decide,by decide,by decide,by decide,by decide,by decide,by decide,.inr (by decide),bytesOf rfl,bytesOf rfl⟩
def ex0:VSt:=vst0 none_
def ex1:VSt:=putS ex0 exD 3 2
def ex2:VSt:=cntS ex1 1 [2,2]
def ex3:VSt:=putS ex2 exE 3 2
theorem ex0_psp:PSP ex0:=.idle0 .none .none
theorem ex1_psp:PSP ex1:=ex0_psp.put exD_ok (by omega) (by omega)
theorem ex1_get:pget (view ex1) 1 = some exD:=by
 rw [ex1,pget_put ex0_psp.ps exD_ok];rfl
theorem ex1_try:ptry (view ex1) 1 = (3,2):=by
 rw [ex1,ptry_put ex0_psp.ps exD_ok (by omega)];rfl
theorem ex2_psp:PSP ex2:=ex1_psp.cnt (by omega) (by omega) (by omega) (by omega) rfl (pget_some ex1_psp.ps.view (by rw [ex1_get];rfl)).1
theorem ex2_get:pget (view ex2) 1 = some exD:=by
 rw [ex2,pget_cntS (by omega) (by omega) rfl,ex1_get]
theorem ex2_try:ptry (view ex2) 1 = (2,2):=by
 rw [ex2,ptry_cntS rfl];rfl
theorem ex3_psp:PSP ex3:=ex2_psp.put exE_ok (by omega) (by omega)
theorem ex3_get:pget (view ex3) 1 = some exE:=by
 rw [ex3,pget_put ex2_psp.ps exE_ok];rfl
theorem ex3_try:ptry (view ex3) 1 = (3,2):=by
 rw [ex3,ptry_put ex2_psp.ps exE_ok (by omega)];rfl
theorem ex_create {Z:Nat} (hZ:1800≤Z / 2):pCreate Z ex0 exD true = (ex1,0):=by
 unfold pCreate;rw [if_pos rfl,if_neg (by decide)];exact pPut_is ex0_psp.ps exD_ok (by decide) (by decide) hZ
theorem ex_verify {Z:Nat} (hZ:1800≤Z / 2):∃ l,pVer Z ex1 1 [48] = ⟨ex2,2,17,l⟩:=by
 unfold pVer;rw [show (1:Int) = ((1:Nat):Int) from rfl,atI_nat,ex1_get];dsimp only;rw [pGuard_free ex1_psp.ps exD_ok hZ rfl];unfold freeG;rw [show exD.id = 1 from rfl,ex1_try];exact ⟨_,rfl⟩
theorem ex_unblock {Z:Nat} (hZ:1800≤Z / 2):∃ l,pUnb Z ex2 1 [57,57] [53,53,53,53] = ⟨ex3,3,0,l⟩:=by
 have e:freeG ex2 exD true [57,57] = ⟨ex2,2,0,[ex2.f,(cntS ex2 1 [2,1]).f,ex2.f]⟩:=by
  unfold freeG;rw [show exD.id = 1 from rfl,ex2_try]
  show Guess.mk (cntS ex2 1 [2,2]) 2 0 [ex2.f,(cntS ex2 1 [2,1]).f,(cntS ex2 1 [2,2]).f] = _
  rw [show cntS ex2 1 [2,2] = ex2 from cntS_cntS _ _ _ _]
 have e2:pRepl Z ex2 exD [53,53,53,53] = (ex3,0):=by
  rw [pRepl_is ex2_psp.ps exD_ok exE_ok hZ,show exD.id = 1 from rfl,ex2_try];rfl
 unfold pUnb;rw [show (1:Int) = ((1:Nat):Int) from rfl,atI_nat,ex2_get];dsimp only;rw [if_neg (by decide),if_pos (by decide),pGuard_free ex2_psp.ps exD_ok hZ rfl,e];unfold pThen;rw [if_pos rfl];dsimp only;rw [e2];exact ⟨_,rfl⟩
theorem ex_info:infoRes (view ex3) 1 = .tuple #[.agg #[.int .i64 1,.int .i64 3,.int .i64 2,.int .i64 3],.bool true]:=by
 unfold infoRes;rw [show (1:Int) = ((1:Nat):Int) from rfl,atI_nat,ex3_get];dsimp only;rw [show exE.id = 1 from rfl,ex3_try]
 rfl
def KBlk (w:World) (b:Nat) (d:List Nat):Prop:=∃ fz,w.heap[b]? = some (.cells (u8s d).toArray 5 fz)
theorem KBlk.lt {w:World} {b:Nat} {d:List Nat} (h:KBlk w b d):b < w.heap.size:=by
 obtain ⟨fz,h⟩:=h;exact (Array.getElem?_eq_some_iff.1 h).1
theorem KBlk.mod {S:Nat→Prop} {w w':World} {b:Nat} {d:List Nat} (h:KBlk w b d) (hm:Mod S w w') (hn:¬ S b):KBlk w' b d:=by
 have hl:=h.lt;obtain ⟨fz,h⟩:=h;exact ⟨fz,(hm.block b hl hn).trans h⟩
theorem KBlk.src {w:World} {b:Nat} {d:List Nat} (h:KBlk w b d) (hl:d.length≤1000):Src w (.slice (some ⟨b,0,none⟩) d.length d.length) d:=by
 have hlt:=h.lt;obtain ⟨fz,h⟩:=h;refine ⟨_,_,rfl,Nat.le_refl _,by unfold maxLen;omega,fun h0=>⟨b,0,rfl,hlt,fun i hi=>?_⟩⟩;rw [cell_of_row w b (0 + i) _ _ fz h,Nat.zero_add];simp [u8s,hi,List.getD_eq_getElem?_getD]
theorem KBlk.srcS {A:VAt} {w:World} {b:Nat} {d:List Nat} (h:KBlk w b d) (hl:d.length≤1000) (hn:¬ A.S b):SrcS A w (.slice (some ⟨b,0,none⟩) d.length d.length) d:=fun W hm=>(h.mod hm hn).src hl
theorem KBlk.new (w:World) (d:List Nat) (fz:Nat × Nat):KBlk (w.alloc (.cells (u8s d).toArray 5 fz)) w.heap.size d:=⟨fz,heap_alloc_new w _⟩
theorem conv_at (w:World) {B:Nat} (hB:w.heap.size = B) (C:Array Value) (n c:Nat):(convert 31 31 (.slice (some ⟨B,0,none⟩) n c)).run Tryz.prog (w.alloc (.cells C 5)) = .ok (.slice (some ⟨B,0,none⟩) n c) (w.alloc (.cells C 5 (C.size,C.size + 1))):=by
 subst hB;exact Lib.run_convert_bytes_const w 31 5 C n c Tryz.underlying31 Tryz.underlying5
theorem keep1 (w:World) (d:List Nat):∃ W,w.alloc (.cells (u8s d).toArray 5 (d.length,d.length + 1)) = W∧KBlk W w.heap.size d∧Mod Nowhere w W∧W.heap.size = w.heap.size + 1 ∧
  (convert 31 31 (.slice (some ⟨w.heap.size,0,none⟩) d.length d.length)).run Tryz.prog (w.alloc (.cells (u8s d).toArray 5)) = .ok (.slice (some ⟨w.heap.size,0,none⟩) d.length d.length) W:=by
 refine ⟨_,rfl,KBlk.new _ _ _,(Mod.refl _ w).alloc _,by simp,?_⟩;have:=conv_at w rfl (u8s d).toArray d.length d.length;rw [this];simp [u8s]
set_option maxHeartbeats 16000000 in
theorem awake21_ok (w:World):Calls Tryz.prog 17 #[] w fun e w'=>e = .returned (.bool true)∧Mod Nowhere w w':=by
 have hB:=begin21_ok w;replace hB:=Lib.hid hB;go_enter Tryz.func17,Tryz.ntmps17;go_wp2_with fail;refine (hB.out).mono ?_;rintro e w1 ⟨A,m,pb,rfl,hc,hp,hpb,hAS,hpd,hm1⟩;unfold cardV;have b0:=Blk.new w1 [ptr A.M.mb,ptr A.vb,ptr pb] 28;have m0:Mod Nowhere w1 (w1.alloc (.cells #[ptr A.M.mb,ptr A.vb,ptr pb] 28)):=(Mod.refl _ w1).alloc _;have z0:(w1.alloc (.cells #[ptr A.M.mb,ptr A.vb,ptr pb] 28)).heap.size = w1.heap.size + 1:=by simp
 obtain ⟨X0,hX0⟩:∃ X0,w1.alloc (.cells #[ptr A.M.mb,ptr A.vb,ptr pb] 28) = X0:=⟨_,rfl⟩;have b0:Blk X0 w1.heap.size [ptr A.M.mb,ptr A.vb,ptr pb] 28:=hX0 ▸ b0;rw [hX0] at m0 z0;obtain ⟨X1,-,b1,m1,z1,hc1⟩:=keep1 X0 [49,50,51,52];obtain ⟨X2,-,b2,m2',z2,hc2'⟩:=keep1 X1 [57,57];rw [z0] at b1 hc1 z1;rw [z1] at b2 hc2' z2;have b3:=Blk.new X2 [.int .i64 1,.slice (some ⟨w1.heap.size + 1,0,none⟩) 4 4,.int .i64 3,.int .i64 4,.int .i64 8,.slice (some ⟨w1.heap.size + 1 + 1,0,none⟩) 2 2,.int .i64 2] 35;have m3':Mod Nowhere X2 (X2.alloc (.cells #[.int .i64 1,.slice (some ⟨w1.heap.size + 1,0,none⟩) 4 4,.int .i64 3,.int .i64 4,.int .i64 8,.slice (some ⟨w1.heap.size + 1 + 1,0,none⟩) 2 2,.int .i64 2] 35)):=(Mod.refl _ _).alloc _;obtain ⟨W,hW⟩:∃ W,X2.alloc (.cells #[.int .i64 1,.slice (some ⟨w1.heap.size + 1,0,none⟩) 4 4,.int .i64 3,.int .i64 4,.int .i64 8,.slice (some ⟨w1.heap.size + 1 + 1,0,none⟩) 2 2,.int .i64 2] 35) = W:=⟨_,rfl⟩
 have b3:Blk W X2.heap.size [.int .i64 1,.slice (some ⟨w1.heap.size + 1,0,none⟩) 4 4,.int .i64 3,.int .i64 4,.int .i64 8,.slice (some ⟨w1.heap.size + 1 + 1,0,none⟩) 2 2,.int .i64 2] 35:=hW ▸ b3;rw [hW] at m3';rw [z2] at b3;have hmW:=((m0.trans m1).trans m2').trans m3';have b0:=((b0.mod m1 (fun e=>e)).mod m2' (fun e=>e)).mod m3' (fun e=>e);have b1:=(b1.mod m2' (fun e=>e)).mod m3' (fun e=>e);have b2:=b2.mod m3' (fun e=>e);have hc1:(convert 31 31 (.slice (some ⟨w1.heap.size + 1,0,none⟩) 4 4)).run Tryz.prog (X0.alloc (.cells #[.int .u8 49,.int .u8 50,.int .u8 51,.int .u8 52] 5)) = .ok (.slice (some ⟨w1.heap.size + 1,0,none⟩) 4 4) X1:=hc1;have hc2':(convert 31 31 (.slice (some ⟨w1.heap.size + 1 + 1,0,none⟩) 2 2)).run Tryz.prog (X1.alloc (.cells #[.int .u8 57,.int .u8 57] 5)) = .ok (.slice (some ⟨w1.heap.size + 1 + 1,0,none⟩) 2 2) X2:=hc2'
 have hlt:=hc.rep.lt;have np:=hp.notS hc.rep;have hcW:=(hc.fresh hmW).less (show 999000000 + 767088≤1000000000 by decide) (Nat.le_refl 0);have hpW:PnAt W pb A.vb:=Blk.mod hp hmW (fun e=>e);have hC:=pinCreate_ok exD_ok (u1:=.slice (some ⟨w1.heap.size + 1,0,none⟩) 4 4) (u2:=.slice (some ⟨w1.heap.size + 1 + 1,0,none⟩) 2 2) (b1.srcS (by decide) (fun e=>by have:=hlt _ e;omega)) (b2.srcS (by decide) (fun e=>by have:=hlt _ e;omega)) hpW hcW.rep (show (0:Nat)≤90000 by omega) hcW.psp.ps (by rw [hcW.cost];exact hcW.room (by omega) (by decide));rw [show vst0 none_ = ex0 from rfl,ex_create hcW.z,hcW.cost] at hC
 unfold pinV at hC;have k0:=b0.cell 2;have c0:=b3.cell 0;have c1:=b3.cell 1;have c2:=b3.cell 2;have c3:=b3.cell 3;have c4:=b3.cell 4;have c5:=b3.cell 5;have c6:=b3.cell 6;simp only [List.getElem?_cons_zero,List.getElem?_cons_succ] at k0 c0 c1 c2 c3 c4 c5 c6;have kl:=b0.lt;have cl:=b3.lt;clear m0 m1 m2' m3';refine hid12 ?_ hcW hpW hC hc hp hpd hAS hm1 hmW b0 b1 b2;clear hcW hpW hC hc hp hpd hAS hm1 hmW b0 b1 b2;intro hcW hpW hC hc hp hpd hAS hm1 hmW b0 b1 b2;refine hid3 ?_ b3 hlt np;clear b3 hlt np;intro b3 hlt np;go_wp2_with fail;refine hC.out.mono ?_;rintro e w2 hr;obtain ⟨rfl,m2,hc2,hpd2,hm2⟩:=hr.sure (n:=999000000) (c:=0) hcW.out hpd.out ex1_psp;have d0:=b0.out.mod hm2 (fun e=>by have:=hlt.out _ e;omega)
 have hp2:PnAt w2 pb A.vb:=Blk.mod hpW.out hm2 np.out;obtain ⟨W2,-,e1,hmW2,hzW2,hc3'⟩:=keep1 w2 [48];have hc3':(convert 31 31 (.slice (some ⟨w2.heap.size,0,none⟩) 1 1)).run Tryz.prog (w2.alloc (.cells #[.int .u8 48] 5)) = .ok (.slice (some ⟨w2.heap.size,0,none⟩) 1 1) W2:=hc3';have hs12:w1.heap.size≤w2.heap.size:=Nat.le_trans hmW.out.size hm2.size;have hcW2:=(hc2.fresh hmW2).less (show 998000000 + 511392≤999000000 by decide) (Nat.le_refl 0);have hpW2:PnAt W2 pb A.vb:=Blk.mod hp2 hmW2 (fun e=>e);have hV:=pinVerify_ok hpW2 hcW2.rep (show (0:Nat)≤90000 by omega) hcW2.psp.ps hcW2.z hcW2.two 1 (by decide) (by decide) (e1.srcS (by decide) (fun e=>by have:=hlt.out _ e;omega)) (bytesOf rfl) (by rw [hcW2.cost];exact hcW2.room (by omega) (by decide));obtain ⟨l1,hl1⟩:=ex_verify hcW2.z
 rw [hl1,hcW2.cost] at hV;clear k0 kl c0 c1 c2 c3 c4 c5 c6 cl;have k0:=d0.cell 2;simp only [List.getElem?_cons_zero,List.getElem?_cons_succ] at k0;have kl:=d0.lt;clear hr;refine hid12 ?_ hc2 hpd2 hm2 d0 hp2 e1 hmW2 hzW2 hcW2 hpW2 hV hl1;clear hc2 hpd2 hm2 d0 hp2 e1 hmW2 hzW2 hcW2 hpW2 hV hl1;intro hc2 hpd2 hm2 d0 hp2 e1 hmW2 hzW2 hcW2 hpW2 hV hl1;go_wp2_with fail;refine hV.out.mono ?_;rintro e w3 hr;obtain ⟨rfl,m3,hc3,hpd3,hm3⟩:=hr.sure (n:=998000000) (c:=0) hcW2.out hpd2.out ex2_psp;have d3:=(d0.out.mod hmW2.out (fun e=>e)).mod hm3 (fun e=>by have:=hlt.out _ e;omega);have hp3:PnAt w3 pb A.vb:=Blk.mod hpW2.out hm3 np.out
 obtain ⟨Y3,-,g1,hmY3,hzY3,hc4'⟩:=keep1 w3 [57,57];obtain ⟨W3,-,g2,hmW3',hzW3,hc5'⟩:=keep1 Y3 [53,53,53,53];rw [hzY3] at g2 hc5';have hc4':(convert 31 31 (.slice (some ⟨w3.heap.size,0,none⟩) 2 2)).run Tryz.prog (w3.alloc (.cells #[.int .u8 57,.int .u8 57] 5)) = .ok (.slice (some ⟨w3.heap.size,0,none⟩) 2 2) Y3:=hc4';have hc5':(convert 31 31 (.slice (some ⟨w3.heap.size + 1,0,none⟩) 4 4)).run Tryz.prog (Y3.alloc (.cells #[.int .u8 53,.int .u8 53,.int .u8 53,.int .u8 53] 5)) = .ok (.slice (some ⟨w3.heap.size + 1,0,none⟩) 4 4) W3:=hc5';have g1:=g1.mod hmW3' (fun e=>e);have hmW3:=hmY3.trans hmW3'
 have hs13:w1.heap.size≤w3.heap.size:=Nat.le_trans (Nat.le_trans hs12 hmW2.out.size) hm3.size;have hcW3:=(hc3.fresh hmW3).less (show 996000000 + 1278480≤998000000 by decide) (Nat.le_refl 0);have hpW3:PnAt W3 pb A.vb:=Blk.mod hp3 hmW3 (fun e=>e);have hU:=pinUnblock_ok hpW3 hcW3.rep (show (0:Nat)≤90000 by omega) hcW3.psp.ps hcW3.z hcW3.two 1 (by decide) (by decide) (g1.srcS (by decide) (fun e=>by have:=hlt.out _ e;omega)) (g2.srcS (by decide) (fun e=>by have:=hlt.out _ e;omega)) (bytesOf rfl) (bytesOf rfl) (by rw [hcW3.cost];exact hcW3.room (by omega) (by decide));obtain ⟨l2,hl2⟩:=ex_unblock hcW3.z
 rw [hl2,hcW3.cost] at hU;clear k0 kl;have k0:=d3.cell 2;simp only [List.getElem?_cons_zero,List.getElem?_cons_succ] at k0;have kl:=d3.lt;clear hr;refine hid12 ?_ hc3 hpd3 hm3 d3 hp3 g1 g2 hmW3 hcW3 hpW3 hU hl2;clear hc3 hpd3 hm3 d3 hp3 g1 g2 hmW3 hcW3 hpW3 hU hl2;intro hc3 hpd3 hm3 d3 hp3 g1 g2 hmW3 hcW3 hpW3 hU hl2;go_wp2_with fail;refine hU.out.mono ?_;rintro e w4 hr;obtain ⟨rfl,m4,hc4,hpd4,hm4⟩:=hr.sure (n:=996000000) (c:=0) hcW3.out hpd3.out ex3_psp;have d4:=(d3.out.mod hmW3.out (fun e=>e)).mod hm4 (fun e=>by have:=hlt.out _ e;omega);have hp4:PnAt w4 pb A.vb:=Blk.mod hpW3.out hm4 np.out;have hI:=pinInfo_ok hp4 hc4.rep (show (0:Nat)≤1000000 by omega) hc4.psp.ps.view 1 (by decide) (by decide)
 rw [ex_info] at hI;clear k0 kl;have k0:=d4.cell 2;simp only [List.getElem?_cons_zero,List.getElem?_cons_succ] at k0;have kl:=d4.lt;clear hr;have hmA:Mod A.S w w4:=((((((hm1.out.trans hmW.out).nowhere.trans hm2.out).trans hmW2.out.nowhere).trans hm3.out).trans hmW3.out.nowhere).trans hm4);refine hid7 ?_ hc4 hpd4 hm4 d4 hp4 hI hmA;clear hc4 hpd4 hm4 d4 hp4 hI hmA;intro hc4 hpd4 hm4 d4 hp4 hI hmA;go_wp2_with fail;refine hI.out.mono ?_;rintro e w5 ⟨rfl,hm5⟩;have hfin:∀ W,Mod Nowhere w5 W→Mod Nowhere w W:=fun W hm=>(hmA.out.mono (fun i hi e=>absurd hi (by have:=hAS.out i e;omega))).trans (hm5.trans hm);refine hid2 ?_ hm5 hfin;clear hm5 hfin;intro hm5 hfin
 go_wp2;go_ret;exact ⟨rfl,hfin.out _ ((Mod.refl _ _).alloc _)⟩
end Go.Proofs.YtjanpegbemepgaaGreat
