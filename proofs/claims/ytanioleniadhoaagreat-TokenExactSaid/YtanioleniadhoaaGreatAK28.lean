/-
  The law TokenRequests: the walk.
-/
import Derived.Test.YtanioleniadhoaaGreatAK26
import Derived.Test.YtanioleniadhoaaGreatAK27
set_option linter.unusedVariables false
set_option linter.unusedSimpArgs false
set_option maxHeartbeats 8000000
set_option maxRecDepth 100000
namespace Go.Proofs.YtanioleniadhoaaGreat
open Go.RowKit
open Jn Tk
attribute [local go_sem] Oper.semAt_some
theorem same_self {W:World} {u v:Value} {l:List Nat} (hu:Src W u l) (hv:Src W v l) (bl:Bytes l) (hl:l.length≤100000):Calls Tryz.prog 23 #[u,v] W fun e w'=>e = .returned (.bool true)∧Mod Nowhere W w':=by
 have:=r01Same_ok hu hv bl bl (by omega) (by omega);rw [decide_eq_true rfl] at this;exact this
theorem lawRequests' (x:RqV) (w:World) (h:RqAt w x):Calls Tryz.prog 3 #[.agg x.cells.toArray] w fun e w'=>e = .returned (.bool true)∧Mod Nowhere w w':=by
 obtain ⟨a1,c1,a2,c2,a3,c3,a4,c4,a6,c6,a7,c7,-,-,-,-,-,-,ec⟩:=h.cut;have hm0:Mod Nowhere w (w.alloc (.cells x.cells.toArray 24)):=(Mod.refl _ w).alloc _;have hbx:=rq_box (w:=w) x.cells;have hL:=light38_ok (h.fresh hm0);have hE:=fun W (hm:Mod Nowhere w W)=>tEncode_ok (h.fresh hm);have hF:=fun W (hm:Mod Nowhere w W)=>rEncode38_ok (h.fresh hm);have hC:=fun W (hm:Mod Nowhere w W)=>tCheck_ok (h.fresh hm);have hD:=fun W (hm:Mod Nowhere w W)=>rCheck38_ok (h.fresh hm);have hX:=fun W=>example38_ok W;have hS:=fun W u v (hu:Src W u (encR x.r).2) (hv:Src W v (encR x.r).2)=>same_self hu hv (encR_by h.by) (by have:=encR_len x.r;omega);simp only [ec] at hm0 hbx hL hE hF hC hD ⊢
 obtain ⟨y0,y1,y2,y3,y4,y5,y6,y7,yl⟩:=rq_cells (hbx _ (Mod.refl _ _));generalize encR x.r = RC at *;obtain ⟨er,l⟩:=RC;dsimp only at hS;generalize x.r.chk = ck at *;generalize x.r.act = act at *;generalize x.r.prv = prv at *;generalize x.r.dom.length = n1 at *;generalize x.r.pac.length = n2 at *;generalize x.r.app.length = n3 at *;generalize x.r.dst.length = n4 at *;generalize x.r.par.length = n6 at *;generalize x.r.hsh.length = n7 at *;clear h ec;refine hid9 ?_ hm0 hbx hE hF hC hD hX hS hL;clear hm0 hbx hE hF hC hD hX hS hL;intro hm0 hbx hE hF hC hD hX hS hL;go_enter Tryz.func3,Tryz.ntmps3
 go_wp2_with fail;refine hL.out.mono ?_;rintro e w1 ⟨⟨b,rfl⟩,hm1⟩;have hmw:=hm0.out.trans hm1;obtain ⟨x0,x1,x2,x3,x4,x5,x6,x7,xl⟩:=rq_cells (hbx.out w1 hm1);clear y0 y1 y2 y3 y4 y5 y6 y7 yl hL;refine hid2 ?_ hm1 hmw;clear hm1 hmw;intro hm1 hmw
 cases b
 ·go_wp2_with fail;refine (hX.out _).mono ?_;rintro e w2 ⟨rfl,hm2⟩;have hf:=hmw.out.trans hm2;refine hid2 ?_ hf hm2;clear hf hm2;intro hf hm2;go_wp2;go_ret;exact ⟨rfl,hf.out⟩
 have hE1:=hE.out w1 hmw.out;replace hE1:=Lib.hid hE1;go_wp2_with fail;refine hE1.out.mono ?_;intro e w2 hb;obtain ⟨ea,ec,rfl,hd2,hm2⟩:=hb.cut;have hmx:=hmw.out.trans hm2;have hF1:=hF.out w2 hmx;obtain ⟨z0,z1,z2,z3,z4,z5,z6,z7,zl⟩:=rq_cells (hbx.out w2 (hm1.out.trans hm2));clear hb x0 x1 x2 x3 x4 x5 x6 x7 xl hE1 hE hF;dsimp only at hd2 ⊢;refine hid4 ?_ hd2 hm2 hmx hF1;clear hd2 hm2 hmx hF1;intro hd2 hm2 hmx hF1;go_wp2_with fail;refine hF1.out.mono ?_;intro e w3 hb;obtain ⟨fa,fc,rfl,hd3,hm3⟩:=hb.cut;have hmy:=hmx.out.trans hm3;have hd4:=hd2.out.fresh hm3;have hcx:=fun W (hW:Mod Nowhere w3 W)=>rq_cells (hbx.out W ((hm1.out.trans (hm2.out.trans hm3)).trans hW))
 clear hb z0 z1 z2 z3 z4 z5 z6 z7 zl hF1;dsimp only at hd3 ⊢;generalize l.length = ln at *;refine hid5 ?_ hd3 hm3 hmy hd4 hcx;clear hd3 hm3 hmy hd4 hcx;intro hd3 hm3 hmy hd4 hcx;go_wp2_with fail;refine wp_region_vals (fun i=>match i with | 0=>some (.agg #[.int .i64 act,.slice a1 n1 c1,.slice a2 n2 c2,.slice a3 n3 c3,.slice a4 n4 c4,.int .i64 prv,.slice a6 n6 c6,.slice a7 n7 c7]) | 1=>some (.int .i64 (ck:Int)) | 2=>some (.agg #[.int .i64 act,.slice a1 n1 c1,.slice a2 n2 c2,.slice a3 n3 c3,.slice a4 n4 c4,.int .i64 prv,.slice a6 n6 c6,.slice a7 n7 c7]) | 3=>some (.int .i64 (ck:Int)) | 4=>some (.bool true) | 5=>some (.bool true) | 6=>some (.int .i64 (er:Int)) | 7=>some (.int .i64 (er:Int)) | 8=>some (.bool true) | 9=>some (.bool true) | 10=>some (.bool true) | 11=>some (.slice ea ln ec) | 12=>some (.slice fa ln fc) | 13=>some (.bool true) | 14=>some (.bool true) | 15=>some (.bool true) | 16=>some (.bool true) | 17=>some (.bool true) | 18=>some (.bool true) | _=>none) (fun i=>match i with | 1=>[0] | 3=>[2,1] | 4=>[1,3] | 5=>[4,3] | 6=>[5] | 7=>[5] | 8=>[6,7,5] | 9=>[5,8] | 10=>[9,5] | 11=>[10] | 12=>[10] | 13=>[11,12,10] | 14=>[10,13] | 15=>[14,13] | 16=>[15] | 17=>[15,16] | 18=>[17,16,0,1,2,3,4,5,6,7,8,9,10,11,12,13,14,15] | _=>[]) 19 (fun _ _ _=>True) ?A_5_0 (by first | assumption | kernel_rfl) (by kernel_rfl) (by kernel_rfl) (by kernel_rfl) (by rfl) ?hA_5_0 ?hS_5_0 ?hE_5_0
 case hA_5_0=>intro xs;simp [putAll,List.range,List.range.loop,Act.put] <;> rfl
 case hS_5_0 =>
  refine ⟨?q0_5_0,?q1_5_0,?q2_5_0,?q3_5_0,?_,?_,?_,?_,?_,?_,?_,?_,?_,?q13_5_0,?_,?_,?q16_5_0,?_,?_,trivial⟩
  case q0_5_0 =>
   intro yv w' hR hF K hK;clear hF;obtain ⟨z0,z1,z2,z3,z4,z5,z6,z7,zl⟩:=hcx.out w' ((Mod.refl Nowhere _).drew.trans hR)
   go_simp
   exact hK _ _ (fun _ _=>rfl) (Mod.refl _ _)
  case q1_5_0 =>
   intro yv w' hR hF K hK;clear hF;have hc:=hC.out w' (hmy.out.trans ((Mod.refl Nowhere _).drew.trans hR));replace hc:=Lib.hid hc
   go_simp
   go_at_call 21
   refine hc.out.mono ?_;rintro e w9 ⟨rfl,hm9⟩;exact hK _ _ (fun W hW=>rfl) hm9
  case q2_5_0 =>
   intro yv w' hR hF K hK;clear hF;obtain ⟨z0,z1,z2,z3,z4,z5,z6,z7,zl⟩:=hcx.out w' ((Mod.refl Nowhere _).drew.trans hR)
   go_simp
   exact hK _ _ (fun _ _=>rfl) (Mod.refl _ _)
  case q3_5_0 =>
   intro yv w' hR hF K hK;clear hF;have hc:=hD.out w' (hmy.out.trans ((Mod.refl Nowhere _).drew.trans hR));replace hc:=Lib.hid hc
   go_simp
   go_at_call 22
   refine hc.out.mono ?_;rintro e w9 ⟨rfl,hm9⟩;exact hK _ _ (fun W hW=>rfl) hm9
  case q13_5_0 =>
   intro yv w' hR hF K hK;clear hF;have hc:=hS.out w' _ _ (hd4.out.fresh ((Mod.refl Nowhere _).drew.trans hR)).src (hd3.out.fresh ((Mod.refl Nowhere _).drew.trans hR)).src;replace hc:=Lib.hid hc
   go_simp
   go_at_call 23
   refine hc.out.mono ?_;rintro e w9 ⟨rfl,hm9⟩;exact hK _ _ (fun W hW=>rfl) hm9
  case q16_5_0 =>
   intro yv w' hR hF K hK;clear hF;have hc:=hX.out w';replace hc:=Lib.hid hc
   go_simp
   go_at_call 18
   refine hc.out.mono ?_;rintro e w9 ⟨rfl,hm9⟩;exact hK _ _ (fun W hW=>rfl) hm9
  all_goals
   intro yv w' hR hF K hK;clear hF
   go_simp
   exact hK _ _ (fun _ _=>by first | trivial | exact rfl | simp [*,known]) (Mod.refl _ _)
 case hE_5_0 =>
  intro yv w' hR hF;clear hF;simp only [mixN,Option.getD_some,Option.getD_none,Nat.reduceLT,if_true];have hf:=hmy.out.trans ((Mod.refl Nowhere _).drew.trans hR);clear hR;replace hf:=Lib.hid hf;go_wp2;go_ret;exact ⟨rfl,hf.out⟩
theorem lawTokenRequests (x:RqV) (w:World) (h:RqAt w x):Calls Tryz.prog 3 #[.agg x.cells.toArray] w fun e w'=>e = .returned (.bool true)∧Below w.heap.size w w':=(lawRequests' x w h).mono fun _ _ h=>⟨h.1,h.2.below⟩
theorem lawMakes' (kv:Value) (key:List Nat) (count:Int) (x:RqV) (w:World) (hk:Src w kv key) (bk:Bytes key) (h:RqAt w x):Calls Tryz.prog 4 #[kv,.int .i64 count,.agg x.cells.toArray] w fun e w'=>e = .returned (.bool true)∧Mod Nowhere w w':=by
 obtain ⟨a1,c1,a2,c2,a3,c3,a4,c4,a6,c6,a7,c7,-,-,-,-,-,-,ec⟩:=h.cut;have hm0:Mod Nowhere w (w.alloc (.cells x.cells.toArray 24)):=(Mod.refl _ w).alloc _;have hbx:=rq_box (w:=w) x.cells;have hL:=light38_ok (h.fresh hm0);have hE:=fun W (hm:Mod Nowhere w W)=>tToken_ok (hk.fresh hm) bk (h.fresh hm);have hF:=fun W (hm:Mod Nowhere w W)=>rToken_ok (hk.fresh hm) bk (h.fresh hm);have hC:=fun W (hm:Mod Nowhere w W)=>tReceipt_ok (hk.fresh hm) bk (h.fresh hm) count;have hD:=fun W (hm:Mod Nowhere w W)=>rReceipt_ok (hk.fresh hm) bk (h.fresh hm) count;have hX:=fun W=>example38_ok W;have hS:=fun W u v (hu:Src W u (tknR key x.r).2) (hv:Src W v (tknR key x.r).2)=>same_self hu hv (tknR_by key x.r) (by have:=tknR_len key x.r;omega)
 have hT:=fun W u v (hu:Src W u (recR key count x.r).2) (hv:Src W v (recR key count x.r).2)=>same_self hu hv (recR_by key count x.r) (by have:=recR_len key count x.r;omega);simp only [ec] at hm0 hbx hL hE hF hC hD ⊢;obtain ⟨y0,y1,y2,y3,y4,y5,y6,y7,yl⟩:=rq_cells (hbx _ (Mod.refl _ _));obtain ⟨ka,kc,rfl,-⟩:=hk;generalize tknR key x.r = RC at *;obtain ⟨er,l⟩:=RC;generalize recR key count x.r = RD at *;obtain ⟨es,m⟩:=RD;dsimp only at hS hT;generalize key.length = kn at *;generalize x.r.act = act at *;generalize x.r.prv = prv at *;generalize x.r.dom.length = n1 at *;generalize x.r.pac.length = n2 at *
 generalize x.r.app.length = n3 at *;generalize x.r.dst.length = n4 at *;generalize x.r.par.length = n6 at *;generalize x.r.hsh.length = n7 at *;clear h ec bk;refine hid10 ?_ hm0 hbx hE hF hC hD hX hS hT hL;clear hm0 hbx hE hF hC hD hX hS hT hL;intro hm0 hbx hE hF hC hD hX hS hT hL;go_enter Tryz.func4,Tryz.ntmps4;go_wp2_with fail;refine hL.out.mono ?_;rintro e w1 ⟨⟨b,rfl⟩,hm1⟩;have hmw:=hm0.out.trans hm1;obtain ⟨x0,x1,x2,x3,x4,x5,x6,x7,xl⟩:=rq_cells (hbx.out w1 hm1);clear y0 y1 y2 y3 y4 y5 y6 y7 yl hL;refine hid2 ?_ hm1 hmw;clear hm1 hmw;intro hm1 hmw
 cases b
 ·go_wp2_with fail;refine (hX.out _).mono ?_;rintro e w2 ⟨rfl,hm2⟩;have hf:=hmw.out.trans hm2;refine hid2 ?_ hf hm2;clear hf hm2;intro hf hm2;go_wp2;go_ret;exact ⟨rfl,hf.out⟩
 by_cases hkn:(100:Int) < (kn:Int)
 ·go_wp2_with fail;refine (hX.out _).mono ?_;rintro e w2 ⟨rfl,hm2⟩;have hf:=hmw.out.trans hm2;refine hid2 ?_ hf hm2;clear hf hm2;intro hf hm2;go_wp2;go_ret;exact ⟨rfl,hf.out⟩
 have hE1:=hE.out w1 hmw.out;replace hE1:=Lib.hid hE1;go_wp2_with fail;refine hE1.out.mono ?_;intro e w2 hb;obtain ⟨ea,ec,rfl,hd2,hm2⟩:=hb.cut;have hmx:=hmw.out.trans hm2;have hF1:=hF.out w2 hmx;have hb02:=hm1.out.trans hm2;obtain ⟨z0,z1,z2,z3,z4,z5,z6,z7,zl⟩:=rq_cells (hbx.out w2 hb02);clear hb x0 x1 x2 x3 x4 x5 x6 x7 xl hE1 hE hF;dsimp only at hd2 ⊢;generalize hln:l.length = ln at *;refine hid5 ?_ hd2 hm2 hmx hF1 hb02;clear hd2 hm2 hmx hF1 hb02;intro hd2 hm2 hmx hF1 hb02;go_wp2_with fail;refine hF1.out.mono ?_;intro e w3 hb;obtain ⟨fa,fc,rfl,hd3,hm3⟩:=hb.cut;have hmy:=hmx.out.trans hm3
 have hd4:=hd2.out.fresh hm3;have hC1:=hC.out w3 hmy;have hb03:=hb02.out.trans hm3;obtain ⟨x0,x1,x2,x3,x4,x5,x6,x7,xl⟩:=rq_cells (hbx.out w3 hb03);clear hb z0 z1 z2 z3 z4 z5 z6 z7 zl hF1 hC hd2;dsimp only at hd3 ⊢;rw [hln] at hd3 ⊢;refine hid6 ?_ hd3 hm3 hmy hd4 hC1 hb03;clear hd3 hm3 hmy hd4 hC1 hb03;intro hd3 hm3 hmy hd4 hC1 hb03;go_wp2_with fail;refine hC1.out.mono ?_;intro e w4 hb;obtain ⟨ga,gc,rfl,hd5,hm4⟩:=hb.cut;have hmz:=hmy.out.trans hm4;have hd6:=hd4.out.fresh hm4;have hd7:=hd3.out.fresh hm4;have hD1:=hD.out w4 hmz;obtain ⟨z0,z1,z2,z3,z4,z5,z6,z7,zl⟩:=rq_cells (hbx.out w4 (hb03.out.trans hm4))
 clear hb x0 x1 x2 x3 x4 x5 x6 x7 xl hC1 hD hd3 hd4;dsimp only at hd5 ⊢;generalize hmn:m.length = mn at *;refine hid6 ?_ hd5 hm4 hmz hd6 hd7 hD1;clear hd5 hm4 hmz hd6 hd7 hD1;intro hd5 hm4 hmz hd6 hd7 hD1;go_wp2_with fail;refine hD1.out.mono ?_;intro e w5 hb;obtain ⟨ia,ic,rfl,hd8,hm5⟩:=hb.cut;have hmq:=hmz.out.trans hm5;have hS5:=hS.out w5 _ _ (hd6.out.fresh hm5).src (hd7.out.fresh hm5).src;have hd9:=hd5.out.fresh hm5;clear hb z0 z1 z2 z3 z4 z5 z6 z7 zl hD1 hd5 hd6 hd7 hS;dsimp only at hd8 ⊢;rw [hmn] at hd8 ⊢;refine hid7 ?_ hd8 hm5 hmq hS5 hd9 hln hmn;clear hd8 hm5 hmq hS5 hd9 hln hmn;intro hd8 hm5 hmq hS5 hd9 hln hmn
 go_wp2_with fail;refine hS5.out.mono ?_;rintro e w6 ⟨rfl,hm6⟩;have hT6:=hT.out w6 _ _ (hd9.out.fresh hm6).src (hd8.out.fresh hm6).src;have hmr:=hmq.out.trans hm6;clear hT;refine hid3 ?_ hm6 hT6 hmr;clear hm6 hT6 hmr;intro hm6 hT6 hmr;go_wp2_with fail;refine hT6.out.mono ?_;rintro e w7 ⟨rfl,hm7⟩;have hms:=hmr.out.trans hm7;refine hid2 ?_ hm7 hms;clear hm7 hms;intro hm7 hms;go_wp2_with fail;refine (hX.out _).mono ?_;rintro e w8 ⟨rfl,hm8⟩;have hf:=hms.out.trans hm8;refine hid2 ?_ hf hm8;clear hf hm8;intro hf hm8;go_wp2;go_ret;exact ⟨rfl,hf.out⟩
theorem lawTokenMakes (kv:Value) (key:List Nat) (count:Int) (x:RqV) (w:World) (hk:InBytes w kv key) (h:RqAt w x):Calls Tryz.prog 4 #[kv,.int .i64 count,.agg x.cells.toArray] w fun e w'=>e = .returned (.bool true)∧Below w.heap.size w w':=(lawMakes' kv key count x w hk.1 hk.2 h).mono fun _ _ h=>⟨h.1,h.2.below⟩
theorem lawConfirms' (kv:Value) (key:List Nat) (count:Int) (x:RqV) (dv:Value) (d:List Nat) (w:World) (hk:Src w kv key) (bk:Bytes key) (h:RqAt w x) (hd:Src w dv d) (bd:Bytes d):Calls Tryz.prog 5 #[kv,.int .i64 count,.agg x.cells.toArray,dv] w fun e w'=>e = .returned (.bool true)∧Mod Nowhere w w':=by
 obtain ⟨a1,c1,a2,c2,a3,c3,a4,c4,a6,c6,a7,c7,-,-,-,-,-,-,ec⟩:=h.cut;have hm0:Mod Nowhere w (w.alloc (.cells x.cells.toArray 24)):=(Mod.refl _ w).alloc _;have hbx:=rq_box (w:=w) x.cells;have hL:=light38_ok (h.fresh hm0);have hE:=fun W (hm:Mod Nowhere w W) (hl:d.length≤100)=>tConfirms_ok (hk.fresh hm) bk (h.fresh hm) (hd.fresh hm) bd (by omega);have hF:=fun W (hm:Mod Nowhere w W) (hl:d.length≤100)=>rConfirms_ok (hk.fresh hm) bk (h.fresh hm) (hd.fresh hm) bd (by omega);have hC:=fun W (hm:Mod Nowhere w W)=>tReceipt_ok (hk.fresh hm) bk (h.fresh hm) count;have hG:=fun W v (hm:Mod Nowhere w W) (hv:Src W v (recR key count x.r).2)=>tConfirms_ok (hk.fresh hm) bk (h.fresh hm) hv (recR_by key count x.r) (by have:=recR_len key count x.r;omega)
 have hcon:=recR_con (key:=key) (count:=count) (r:=x.r);have hX:=fun W=>example38_ok W;simp only [ec] at hm0 hbx hL hE hF hC hG ⊢;obtain ⟨y0,y1,y2,y3,y4,y5,y6,y7,yl⟩:=rq_cells (hbx _ (Mod.refl _ _));obtain ⟨ka,kc,rfl,-⟩:=hk;obtain ⟨da,dc,rfl,-⟩:=hd;generalize conR key x.r d = CD at *;obtain ⟨cn,cb⟩:=CD;generalize recR key count x.r = RD at *;obtain ⟨es,m⟩:=RD;dsimp only at hE hF hG hcon;generalize key.length = kn at *;generalize d.length = dn at *;generalize x.r.act = act at *;generalize x.r.prv = prv at *;generalize x.r.dom.length = n1 at *;generalize x.r.pac.length = n2 at *
 generalize x.r.app.length = n3 at *;generalize x.r.dst.length = n4 at *;generalize x.r.par.length = n6 at *;generalize x.r.hsh.length = n7 at *;clear h ec bd;refine hid9 ?_ hm0 hbx hE hF hC hG hX hL hcon;clear hm0 hbx hE hF hC hG hX hL hcon;intro hm0 hbx hE hF hC hG hX hL hcon;go_enter Tryz.func5,Tryz.ntmps5;go_wp2_with fail;refine hL.out.mono ?_;rintro e w1 ⟨⟨b,rfl⟩,hm1⟩;have hmw:=hm0.out.trans hm1;obtain ⟨x0,x1,x2,x3,x4,x5,x6,x7,xl⟩:=rq_cells (hbx.out w1 hm1);clear y0 y1 y2 y3 y4 y5 y6 y7 yl hL;refine hid2 ?_ hm1 hmw;clear hm1 hmw;intro hm1 hmw
 cases b
 ·go_wp2_with fail;refine (hX.out _).mono ?_;rintro e w2 ⟨rfl,hm2⟩;have hf:=hmw.out.trans hm2;refine hid2 ?_ hf hm2;clear hf hm2;intro hf hm2;go_wp2;go_ret;exact ⟨rfl,hf.out⟩
 by_cases hkn:(100:Int) < (kn:Int)
 ·go_wp2_with fail;refine (hX.out _).mono ?_;rintro e w2 ⟨rfl,hm2⟩;have hf:=hmw.out.trans hm2;refine hid2 ?_ hf hm2;clear hf hm2;intro hf hm2;go_wp2;go_ret;exact ⟨rfl,hf.out⟩
 by_cases hdn:(100:Int) < (dn:Int)
 ·go_wp2_with fail;refine (hX.out _).mono ?_;rintro e w2 ⟨rfl,hm2⟩;have hf:=hmw.out.trans hm2;refine hid2 ?_ hf hm2;clear hf hm2;intro hf hm2;go_wp2;go_ret;exact ⟨rfl,hf.out⟩
 have hE1:=hE.out w1 hmw.out (by omega);replace hE1:=Lib.hid hE1;go_wp2_with fail;refine hE1.out.mono ?_;rintro e w2 ⟨rfl,hm2⟩;have hmx:=hmw.out.trans hm2;have hF1:=hF.out w2 hmx (by omega);have hb02:=hm1.out.trans hm2;obtain ⟨z0,z1,z2,z3,z4,z5,z6,z7,zl⟩:=rq_cells (hbx.out w2 hb02);clear x0 x1 x2 x3 x4 x5 x6 x7 xl hE1 hE hF;refine hid4 ?_ hm2 hmx hF1 hb02;clear hm2 hmx hF1 hb02;intro hm2 hmx hF1 hb02;go_wp2_with fail;refine hF1.out.mono ?_;rintro e w3 ⟨rfl,hm3⟩;have hmy:=hmx.out.trans hm3;have hC1:=hC.out w3 hmy;have hb03:=hb02.out.trans hm3;obtain ⟨x0,x1,x2,x3,x4,x5,x6,x7,xl⟩:=rq_cells (hbx.out w3 hb03);have hcc:((cn:Int) != (cn:Int)) = false:=by simp
 have hbb:(cb != cb) = false:=by simp
 clear z0 z1 z2 z3 z4 z5 z6 z7 zl hF1 hC;refine hid4 ?_ hm3 hmy hC1 hb03;clear hm3 hmy hC1 hb03;intro hm3 hmy hC1 hb03;go_wp2_with fail;refine hC1.out.mono ?_;intro e w4 hb;obtain ⟨ga,gc,rfl,hd5,hm4⟩:=hb.cut;have hmz:=hmy.out.trans hm4;obtain ⟨z0,z1,z2,z3,z4,z5,z6,z7,zl⟩:=rq_cells (hbx.out w4 (hb03.out.trans hm4));clear hb x0 x1 x2 x3 x4 x5 x6 x7 xl hC1;dsimp only at hd5 ⊢;by_cases h0:es = 0
 ·subst h0;obtain ⟨g1,g2,g3⟩:=hcon.out rfl;have hG4:=hG.out w4 _ hmz hd5.src;rw [g1] at hG4;rw [g2] at hG4 hd5 ⊢;have g4:((count.toNat:Nat):Int) = count:=by omega
  simp only [g4] at hG4;clear hcon hG g1 g2 g4;refine hid4 ?_ hd5 hm4 hmz hG4;clear hd5 hm4 hmz hG4;intro hd5 hm4 hmz hG4;go_wp2_with fail;refine hG4.out.mono ?_;rintro e w5 ⟨rfl,hm5⟩;have hmq:=hmz.out.trans hm5;refine hid2 ?_ hm5 hmq;clear hm5 hmq;intro hm5 hmq;go_wp2_with fail;refine (hX.out _).mono ?_;rintro e w6 ⟨rfl,hm6⟩;have hf:=hmq.out.trans hm6;refine hid2 ?_ hf hm6;clear hf hm6;intro hf hm6;go_wp2;go_ret;exact ⟨rfl,hf.out⟩
 ·have h0b:((es:Int) != 0) = true:=by simp;exact h0
  generalize m.length = ml at *;clear hcon hG;refine hid3 ?_ hd5 hm4 hmz;clear hd5 hm4 hmz;intro hd5 hm4 hmz;go_wp2_with fail;refine (hX.out _).mono ?_;rintro e w6 ⟨rfl,hm6⟩;have hf:=hmz.out.trans hm6;refine hid2 ?_ hf hm6;clear hf hm6;intro hf hm6;go_wp2;go_ret;exact ⟨rfl,hf.out⟩
theorem lawTokenConfirms (kv:Value) (key:List Nat) (count:Int) (x:RqV) (dv:Value) (d:List Nat) (w:World) (hk:InBytes w kv key) (h:RqAt w x) (hd:InBytes w dv d):Calls Tryz.prog 5 #[kv,.int .i64 count,.agg x.cells.toArray,dv] w fun e w'=>e = .returned (.bool true)∧Below w.heap.size w w':=(lawConfirms' kv key count x dv d w hk.1 hk.2 h hd.1 hd.2).mono fun _ _ h=>⟨h.1,h.2.below⟩
namespace Tk
def sameB (a b:Rq):Bool:=decide (a.act = b.act) && decide (a.prv = b.prv) && decide (a.dom = b.dom) && decide (a.pac = b.pac) && decide (a.app = b.app) && decide (a.dst = b.dst) && decide (a.par = b.par) && decide (a.hsh = b.hsh)
theorem sameB_iff (a b:Rq):sameB a b = true ↔ a = b:=by
 obtain ⟨a1,a2,a3,a4,a5,a6,a7,a8⟩:=a;obtain ⟨b1,b2,b3,b4,b5,b6,b7,b8⟩:=b;unfold sameB;simp only [Bool.and_eq_true,decide_eq_true_eq,Rq.mk.injEq]
 constructor
 ·rintro ⟨⟨⟨⟨⟨⟨⟨h1,h2⟩,h3⟩,h4⟩,h5⟩,h6⟩,h7⟩,h8⟩;exact ⟨h1,h3,h4,h5,h6,h2,h7,h8⟩
 ·rintro ⟨h1,h3,h4,h5,h6,h2,h7,h8⟩;exact ⟨⟨⟨⟨⟨⟨⟨h1,h2⟩,h3⟩,h4⟩,h5⟩,h6⟩,h7⟩,h8⟩
theorem sameB_enc {a b:Rq} (ha:a.chk = 0) (hb:b.chk = 0):sameB a b = decide (a.enc = b.enc):=by
 by_cases h:a = b
 ·subst h;rw [(sameB_iff a a).2 rfl,decide_eq_true rfl]
 ·have h1:sameB a b = false:=by
   cases hs:sameB a b with
   | false=>rfl
   | true=>exact absurd ((sameB_iff a b).1 hs) h
  rw [h1,decide_eq_false (fun e=>h (Rq.enc_inj (Rq.chk_ok ha) (Rq.chk_ok hb) e))]
end Tk
theorem same38_ok {w:World} {x y:RqV} (h:RqAt w x) (g:RqAt w y) (hl:∀ v ∈ x.r.vals,v.length≤100000) (gl:∀ v ∈ y.r.vals,v.length≤100000):Calls Tryz.prog 30 #[.agg x.cells.toArray,.agg y.cells.toArray] w fun e w'=>e = .returned (.bool (sameB x.r y.r))∧Mod Nowhere w w':=by
 obtain ⟨a1,c1,a2,c2,a3,c3,a4,c4,a6,c6,a7,c7,e1,e2,e3,e4,e6,e7,ec⟩:=h.cut;obtain ⟨a1b,c1b,a2b,c2b,a3b,c3b,a4b,c4b,a6b,c6b,a7b,c7b,f1,f2,f3,f4,f6,f7,fc⟩:=g.cut;have hm0:Mod Nowhere w ((w.alloc (.cells x.cells.toArray 24)).alloc (.cells y.cells.toArray 24)):=((Mod.refl _ w).alloc _).alloc _
 have hbx:∀ W,Mod Nowhere ((w.alloc (.cells x.cells.toArray 24)).alloc (.cells y.cells.toArray 24)) W→Blk W w.heap.size x.cells 24∧Blk W (w.heap.size + 1) y.cells 24:=fun W hW=>⟨((Blk.new w x.cells 24).mod ((Mod.refl Nowhere _).alloc _) id).mod hW id,by
  have:=(Blk.new (w.alloc (.cells x.cells.toArray 24)) y.cells 24).mod hW id;rw [World.size_alloc] at this
  exact this⟩
 have hS:=fun W u v (a b:List Nat) (hu:Src W u a) (hv:Src W v b) (ba:Bytes a) (bb:Bytes b) (la:a.length≤100000) (lb:b.length≤100000)=>r01Same_ok hu hv ba bb (by omega) (by omega);simp only [Rq.vals,List.mem_cons,List.not_mem_nil,or_false,forall_eq_or_imp,forall_eq] at hl gl;obtain ⟨-,l1,l2,l3,l4,-,l6,l7⟩:=hl;obtain ⟨-,k1,k2,k3,k4,-,k6,k7⟩:=gl;have hS1:=fun W (hm:Mod Nowhere w W)=>hS W _ _ _ _ (h.s1.fresh hm) (g.s1.fresh hm) h.b1 g.b1 l1 k1;rw [e1,f1] at hS1;have hS2:=fun W (hm:Mod Nowhere w W)=>hS W _ _ _ _ (h.s2.fresh hm) (g.s2.fresh hm) h.b2 g.b2 l2 k2;rw [e2,f2] at hS2
 have hS3:=fun W (hm:Mod Nowhere w W)=>hS W _ _ _ _ (h.s3.fresh hm) (g.s3.fresh hm) h.b3 g.b3 l3 k3;rw [e3,f3] at hS3;have hS4:=fun W (hm:Mod Nowhere w W)=>hS W _ _ _ _ (h.s4.fresh hm) (g.s4.fresh hm) h.b4 g.b4 l4 k4;rw [e4,f4] at hS4;have hS6:=fun W (hm:Mod Nowhere w W)=>hS W _ _ _ _ (h.s6.fresh hm) (g.s6.fresh hm) h.b6 g.b6 l6 k6;rw [e6,f6] at hS6;have hS7:=fun W (hm:Mod Nowhere w W)=>hS W _ _ _ _ (h.s7.fresh hm) (g.s7.fresh hm) h.b7 g.b7 l7 k7;rw [e7,f7] at hS7;have hq:sameB x.r y.r = (decide (x.r.act = y.r.act) && decide (x.r.prv = y.r.prv) && decide (x.r.dom = y.r.dom) && decide (x.r.pac = y.r.pac) && decide (x.r.app = y.r.app) && decide (x.r.dst = y.r.dst) && decide (x.r.par = y.r.par) && decide (x.r.hsh = y.r.hsh)):=rfl;rw [hq]
 simp only [ec,fc] at hm0 hbx ⊢;generalize decide (x.r.dom = y.r.dom) = q1 at *;generalize decide (x.r.pac = y.r.pac) = q2 at *;generalize decide (x.r.app = y.r.app) = q3 at *;generalize decide (x.r.dst = y.r.dst) = q4 at *;generalize decide (x.r.par = y.r.par) = q6 at *;generalize decide (x.r.hsh = y.r.hsh) = q7 at *;generalize x.r.act = act at *;generalize x.r.prv = prv at *;generalize x.r.dom.length = n1 at *;generalize x.r.pac.length = n2 at *;generalize x.r.app.length = n3 at *;generalize x.r.dst.length = n4 at *;generalize x.r.par.length = n6 at *;generalize x.r.hsh.length = n7 at *;generalize y.r.act = actb at *
 generalize y.r.prv = prvb at *;generalize y.r.dom.length = n1b at *;generalize y.r.pac.length = n2b at *;generalize y.r.app.length = n3b at *;generalize y.r.dst.length = n4b at *;generalize y.r.par.length = n6b at *;generalize y.r.hsh.length = n7b at *;clear hS hq e1 e2 e3 e4 e6 e7 f1 f2 f3 f4 f6 f7 ec fc h g l1 l2 l3 l4 l6 l7 k1 k2 k3 k4 k6 k7;obtain ⟨y0,y1,y2,y3,y4,y5,y6,y7,yl⟩:=rq_cells (hbx _ (Mod.refl _ _)).1;obtain ⟨t0,t1,t2,t3,t4,t5,t6,t7,tl⟩:=rq_cells (hbx _ (Mod.refl _ _)).2;refine hid8 ?_ hm0 hbx hS1 hS2 hS3 hS4 hS6 hS7;clear hm0 hbx hS1 hS2 hS3 hS4 hS6 hS7;intro hm0 hbx hS1 hS2 hS3 hS4 hS6 hS7;by_cases ha:act = actb
 case neg =>
  have ha2:(act == actb) = false:=by simpa using ha
  rw [decide_eq_false ha];go_enter Tryz.func30,Tryz.ntmps30;go_wp2;go_ret;exact ⟨by first | rfl | simp,hm0.out⟩
 rw [decide_eq_true ha];have ha2:(act == actb) = true:=by simpa using ha
 clear ha;by_cases hp:prv = prvb
 case neg =>
  have hp2:(prv == prvb) = false:=by simpa using hp
  rw [decide_eq_false hp];go_enter Tryz.func30,Tryz.ntmps30;go_wp2;go_ret;exact ⟨by first | rfl | simp,hm0.out⟩
 rw [decide_eq_true hp];have hp2:(prv == prvb) = true:=by simpa using hp
 clear hp;go_enter Tryz.func30,Tryz.ntmps30;go_wp2_with fail;refine (hS1.out _ (hm0.out)).mono ?_;rintro e w1 ⟨rfl,hm1⟩;have hn1:=(hm0.out).trans hm1;have hr1:Mod Nowhere _ w1:=hm1;obtain ⟨u1_0,u1_1,u1_2,u1_3,u1_4,u1_5,u1_6,u1_7,u1_l⟩:=rq_cells (hbx.out w1 hr1).1;obtain ⟨v1_0,v1_1,v1_2,v1_3,v1_4,v1_5,v1_6,v1_7,v1_l⟩:=rq_cells (hbx.out w1 hr1).2;clear y0 y1 y2 y3 y4 y5 y6 y7 t0 t1 t2 t3 t4 t5 t6 t7 yl tl;refine hid3 ?_ hm1 hn1 hr1;clear hm1 hn1 hr1;intro hm1 hn1 hr1
 cases q1
 ·go_wp2;go_ret;exact ⟨by first | rfl | simp,hn1.out⟩
 go_wp2_with fail;refine (hS2.out _ (hn1.out)).mono ?_;rintro e w2 ⟨rfl,hm2⟩;have hn2:=(hn1.out).trans hm2;have hr2:Mod Nowhere _ w2:=hr1.out.trans hm2;obtain ⟨u2_0,u2_1,u2_2,u2_3,u2_4,u2_5,u2_6,u2_7,u2_l⟩:=rq_cells (hbx.out w2 hr2).1;obtain ⟨v2_0,v2_1,v2_2,v2_3,v2_4,v2_5,v2_6,v2_7,v2_l⟩:=rq_cells (hbx.out w2 hr2).2;clear u1_0 u1_1 u1_2 u1_3 u1_4 u1_5 u1_6 u1_7 v1_0 v1_1 v1_2 v1_3 v1_4 v1_5 v1_6 v1_7 u1_l v1_l;refine hid3 ?_ hm2 hn2 hr2;clear hm2 hn2 hr2;intro hm2 hn2 hr2
 cases q2
 ·go_wp2;go_ret;exact ⟨by first | rfl | simp,hn2.out⟩
 go_wp2_with fail;refine (hS3.out _ (hn2.out)).mono ?_;rintro e w3 ⟨rfl,hm3⟩;have hn3:=(hn2.out).trans hm3;have hr3:Mod Nowhere _ w3:=hr2.out.trans hm3;obtain ⟨u3_0,u3_1,u3_2,u3_3,u3_4,u3_5,u3_6,u3_7,u3_l⟩:=rq_cells (hbx.out w3 hr3).1;obtain ⟨v3_0,v3_1,v3_2,v3_3,v3_4,v3_5,v3_6,v3_7,v3_l⟩:=rq_cells (hbx.out w3 hr3).2;clear u2_0 u2_1 u2_2 u2_3 u2_4 u2_5 u2_6 u2_7 v2_0 v2_1 v2_2 v2_3 v2_4 v2_5 v2_6 v2_7 u2_l v2_l;refine hid3 ?_ hm3 hn3 hr3;clear hm3 hn3 hr3;intro hm3 hn3 hr3
 cases q3
 ·go_wp2;go_ret;exact ⟨by first | rfl | simp,hn3.out⟩
 go_wp2_with fail;refine (hS4.out _ (hn3.out)).mono ?_;rintro e w4 ⟨rfl,hm4⟩;have hn4:=(hn3.out).trans hm4;have hr4:Mod Nowhere _ w4:=hr3.out.trans hm4;obtain ⟨u4_0,u4_1,u4_2,u4_3,u4_4,u4_5,u4_6,u4_7,u4_l⟩:=rq_cells (hbx.out w4 hr4).1;obtain ⟨v4_0,v4_1,v4_2,v4_3,v4_4,v4_5,v4_6,v4_7,v4_l⟩:=rq_cells (hbx.out w4 hr4).2;clear u3_0 u3_1 u3_2 u3_3 u3_4 u3_5 u3_6 u3_7 v3_0 v3_1 v3_2 v3_3 v3_4 v3_5 v3_6 v3_7 u3_l v3_l;refine hid3 ?_ hm4 hn4 hr4;clear hm4 hn4 hr4;intro hm4 hn4 hr4
 cases q4
 ·go_wp2;go_ret;exact ⟨by first | rfl | simp,hn4.out⟩
 go_wp2_with fail;refine (hS6.out _ (hn4.out)).mono ?_;rintro e w6 ⟨rfl,hm6⟩;have hn6:=(hn4.out).trans hm6;have hr6:Mod Nowhere _ w6:=hr4.out.trans hm6;obtain ⟨u6_0,u6_1,u6_2,u6_3,u6_4,u6_5,u6_6,u6_7,u6_l⟩:=rq_cells (hbx.out w6 hr6).1;obtain ⟨v6_0,v6_1,v6_2,v6_3,v6_4,v6_5,v6_6,v6_7,v6_l⟩:=rq_cells (hbx.out w6 hr6).2;clear u4_0 u4_1 u4_2 u4_3 u4_4 u4_5 u4_6 u4_7 v4_0 v4_1 v4_2 v4_3 v4_4 v4_5 v4_6 v4_7 u4_l v4_l;refine hid3 ?_ hm6 hn6 hr6;clear hm6 hn6 hr6;intro hm6 hn6 hr6
 cases q6
 ·go_wp2;go_ret;exact ⟨by first | rfl | simp,hn6.out⟩
 go_wp2_with fail;refine (hS7.out _ (hn6.out)).mono ?_;rintro e w7 ⟨rfl,hm7⟩;have hn7:=(hn6.out).trans hm7;have hr7:Mod Nowhere _ w7:=hr6.out.trans hm7;obtain ⟨u7_0,u7_1,u7_2,u7_3,u7_4,u7_5,u7_6,u7_7,u7_l⟩:=rq_cells (hbx.out w7 hr7).1;obtain ⟨v7_0,v7_1,v7_2,v7_3,v7_4,v7_5,v7_6,v7_7,v7_l⟩:=rq_cells (hbx.out w7 hr7).2;clear u6_0 u6_1 u6_2 u6_3 u6_4 u6_5 u6_6 u6_7 v6_0 v6_1 v6_2 v6_3 v6_4 v6_5 v6_6 v6_7 u6_l v6_l;refine hid3 ?_ hm7 hn7 hr7;clear hm7 hn7 hr7;intro hm7 hn7 hr7;go_wp2;go_ret;exact ⟨by first | rfl | simp,hn7.out⟩
theorem vals_short {W:World} {x:RqV} (h:RqAt W x) (hz:x.r.chk = 0):∀ v ∈ x.r.vals,v.length≤100000:=fun v hv=>by
 have:=Rq.vals_len (Rq.chk_ok hz) v hv;omega
end Go.Proofs.YtanioleniadhoaaGreat
namespace Go.Proofs.YtanioleniadhoaaGreat
open Go.RowKit
open Jn Tk
attribute [local go_sem] Oper.semAt_some
theorem lawExact' (kv:Value) (key:List Nat) (x y:RqV) (dv:Value) (d:List Nat) (w:World) (hk:Src w kv key) (bk:Bytes key) (h:RqAt w x) (g:RqAt w y) (hd:Src w dv d) (bd:Bytes d):Calls Tryz.prog 6 #[kv,.agg x.cells.toArray,.agg y.cells.toArray,dv] w fun e w'=>e = .returned (.bool true)∧Mod Nowhere w w':=by
 obtain ⟨a1,c1,a2,c2,a3,c3,a4,c4,a6,c6,a7,c7,-,-,-,-,-,-,ec⟩:=h.cut;obtain ⟨a1b,c1b,a2b,c2b,a3b,c3b,a4b,c4b,a6b,c6b,a7b,c7b,-,-,-,-,-,-,ecb⟩:=g.cut;have hm0:Mod Nowhere w ((w.alloc (.cells x.cells.toArray 24)).alloc (.cells y.cells.toArray 24)):=((Mod.refl _ w).alloc _).alloc _
 have hbx:∀ W,Mod Nowhere ((w.alloc (.cells x.cells.toArray 24)).alloc (.cells y.cells.toArray 24)) W→Blk W w.heap.size x.cells 24∧Blk W (w.heap.size + 1) y.cells 24:=fun W hW=>⟨((Blk.new w x.cells 24).mod ((Mod.refl Nowhere _).alloc _) id).mod hW id,by
  have:=(Blk.new (w.alloc (.cells x.cells.toArray 24)) y.cells 24).mod hW id;rw [World.size_alloc] at this
  exact this⟩
 have hL:=fun W (hm:Mod Nowhere w W)=>light38_ok (h.fresh hm);have hM:=fun W (hm:Mod Nowhere w W)=>light38_ok (g.fresh hm);have hE:=fun W (hm:Mod Nowhere w W)=>tEncode_ok (h.fresh hm);have hF:=fun W (hm:Mod Nowhere w W)=>tEncode_ok (g.fresh hm);have hT:=fun W (hm:Mod Nowhere w W)=>tToken_ok (hk.fresh hm) bk (h.fresh hm);have hP:=fun W u l (hm:Mod Nowhere w W) (hu:Src W u l) (bl:Bytes l)=>tPermits_ok (hk.fresh hm) bk (h.fresh hm) hu bl;have hQ:=fun W (hm:Mod Nowhere w W)=>tPermits_ok (hk.fresh hm) bk (h.fresh hm) (hd.fresh hm) bd
 have hQz:∀ W,Mod Nowhere w W→(tknR key x.r).1 = 0→Calls Tryz.prog 31 #[kv,.agg x.cells.toArray,dv] W fun e w'=>e = .returned (.bool (decide ((tknR key x.r).2 = d)))∧Mod Nowhere W w':=fun W hm q=>by
  have:=hQ W hm;rw [show decide ((tknR key x.r).1 = 0∧(tknR key x.r).2 = d) = decide ((tknR key x.r).2 = d) from decide_eq_decide.2 ⟨fun r=>r.2,fun r=>⟨q,r⟩⟩] at this;exact this
 have hX:=fun W=>example38_ok W;have hS:=fun W u v (hu:Src W u (encR x.r).2) (hv:Src W v (encR y.r).2)=>r01Same_ok hu hv (encR_by h.by) (encR_by g.by) (by have:=encR_len x.r;omega) (by have:=encR_len y.r;omega);have hS2:=fun W u (hm:Mod Nowhere w W) (hu:Src W u (tknR key x.r).2) (hl:d.length≤100)=>r01Same_ok hu (hd.fresh hm) (tknR_by key x.r) bd (by have:=tknR_len key x.r;omega) (by omega);have hsm:=fun W (hm:Mod Nowhere w W) (h1:x.r.chk = 0) (h2:y.r.chk = 0)=>same38_ok (h.fresh hm) (g.fresh hm) (vals_short h h1) (vals_short g h2);have hse:=fun (h1:x.r.chk = 0) (h2:y.r.chk = 0)=>sameB_enc h1 h2;have hbt:=tknR_by key x.r
 have h0x:=encR_zero x.r;have h0y:=encR_zero y.r;have hzx:x.r.chk = 0→(encR x.r).2 = x.r.enc:=fun q=>by unfold encR;rw [if_pos q]
 have hzy:y.r.chk = 0→(encR y.r).2 = y.r.enc:=fun q=>by unfold encR;rw [if_pos q]
 have hnt:(tknR key x.r).1 ≠ 0→(tknR key x.r).2 = []:=fun q=>by
  unfold tknR macR at q ⊢
  split
  ·split
   ·rename_i q1 q2
    exact absurd (by rw [if_pos q1,if_pos q2]) q
   ·rfl
  ·rfl
 simp only [ec,ecb] at hm0 hbx hL hM hE hF hT hP hQ hQz hsm ⊢;obtain ⟨y0,y1,y2,y3,y4,y5,y6,y7,yl⟩:=rq_cells (hbx _ (Mod.refl _ _)).1;obtain ⟨t0,t1,t2,t3,t4,t5,t6,t7,tl⟩:=rq_cells (hbx _ (Mod.refl _ _)).2;obtain ⟨ka,kc,rfl,-⟩:=hk;obtain ⟨da,dc,rfl,-⟩:=hd;generalize encR x.r = RX at *;obtain ⟨ex,lx⟩:=RX;generalize encR y.r = RY at *;obtain ⟨ey,ly⟩:=RY;generalize tknR key x.r = RT at *;obtain ⟨et,lt⟩:=RT;dsimp only at hS hS2 hP hQ hQz h0x h0y hzx hzy hnt hbt;rw [← h0x] at hzx hsm hse;rw [← h0y] at hzy hsm hse;have hfin:ex = 0→ey = 0→sameB x.r y.r = decide (lx = ly):=fun q1 q2=>by rw [hse q1 q2,hzx q1,hzy q2]
 clear hse hzx hzy h0x h0y;generalize sameB x.r y.r = sb at *;generalize key.length = kn at *;generalize hdn:d.length = dn at *;generalize x.r.act = act at *;generalize x.r.prv = prv at *;generalize x.r.dom.length = n1 at *;generalize x.r.pac.length = n2 at *;generalize x.r.app.length = n3 at *;generalize x.r.dst.length = n4 at *;generalize x.r.par.length = n6 at *;generalize x.r.hsh.length = n7 at *;generalize y.r.act = actb at *;generalize y.r.prv = prvb at *;generalize y.r.dom.length = n1b at *;generalize y.r.pac.length = n2b at *;generalize y.r.app.length = n3b at *;generalize y.r.dst.length = n4b at *
 generalize y.r.par.length = n6b at *;generalize y.r.hsh.length = n7b at *;clear h g ec ecb;refine hid12 ?_ hm0 hbx hL hM hE hF hT hP hQ hX hS hS2;clear hm0 hbx hL hM hE hF hT hP hQ hX hS hS2;intro hm0 hbx hL hM hE hF hT hP hQ hX hS hS2;refine hid5 ?_ hsm hfin hbt hnt hQz;clear hsm hfin hbt hnt hQz;intro hsm hfin hbt hnt hQz;go_enter Tryz.func6,Tryz.ntmps6;go_wp2_with fail;refine (hL.out _ hm0.out).mono ?_;rintro e w1 ⟨⟨b,rfl⟩,hm1⟩;have hmw:=hm0.out.trans hm1;obtain ⟨x0,x1,x2,x3,x4,x5,x6,x7,xl⟩:=rq_cells (hbx.out w1 hm1).1;obtain ⟨s0,s1,s2,s3,s4,s5,s6,s7,sl⟩:=rq_cells (hbx.out w1 hm1).2
 clear y0 y1 y2 y3 y4 y5 y6 y7 yl t0 t1 t2 t3 t4 t5 t6 t7 tl hL;refine hid2 ?_ hm1 hmw;clear hm1 hmw;intro hm1 hmw
 cases b
 ·go_wp2_with fail;refine (hX.out _).mono ?_;rintro e w2 ⟨rfl,hm2⟩;have hf:=hmw.out.trans hm2;refine hid2 ?_ hf hm2;clear hf hm2;intro hf hm2;go_wp2;go_ret;exact ⟨rfl,hf.out⟩
 go_wp2_with fail;refine (hM.out _ hmw.out).mono ?_;rintro e w1' ⟨⟨b,rfl⟩,hm1'⟩;have hmw':=hmw.out.trans hm1';have hmb:=hm1.out.trans hm1';clear hmw hm1;have hmw:=hmw';have hm1:=hmb;clear hmw' hmb;obtain ⟨y0,y1,y2,y3,y4,y5,y6,y7,yl⟩:=rq_cells (hbx.out w1' hm1).1;obtain ⟨t0,t1,t2,t3,t4,t5,t6,t7,tl⟩:=rq_cells (hbx.out w1' hm1).2;clear x0 x1 x2 x3 x4 x5 x6 x7 xl s0 s1 s2 s3 s4 s5 s6 s7 sl hM;refine hid3 ?_ hm1 hmw hm1';clear hm1 hmw hm1';intro hm1 hmw hm1'
 cases b
 ·go_wp2_with fail;refine (hX.out _).mono ?_;rintro e w2 ⟨rfl,hm2⟩;have hf:=hmw.out.trans hm2;refine hid2 ?_ hf hm2;clear hf hm2;intro hf hm2;go_wp2;go_ret;exact ⟨rfl,hf.out⟩
 by_cases hkn:(100:Int) < (kn:Int)
 ·go_wp2_with fail;refine (hX.out _).mono ?_;rintro e w2 ⟨rfl,hm2⟩;have hf:=hmw.out.trans hm2;refine hid2 ?_ hf hm2;clear hf hm2;intro hf hm2;go_wp2;go_ret;exact ⟨rfl,hf.out⟩
 by_cases hdn2:(100:Int) < (dn:Int)
 ·go_wp2_with fail;refine (hX.out _).mono ?_;rintro e w2 ⟨rfl,hm2⟩;have hf:=hmw.out.trans hm2;refine hid2 ?_ hf hm2;clear hf hm2;intro hf hm2;go_wp2;go_ret;exact ⟨rfl,hf.out⟩
 have hd100:dn≤100:=by omega
 have hE1:=hE.out w1' hmw.out;refine hid2 ?_ hE1 hd100;clear hE1 hd100;intro hE1 hd100;go_wp2_with fail;refine hE1.out.mono ?_;intro e w2 hb;obtain ⟨ea,ec,rfl,hd2,hm2⟩:=hb.cut;have hmx:=hmw.out.trans hm2;have hF1:=hF.out w2 hmx;have hb02:=hm1.out.trans hm2;obtain ⟨x0,x1,x2,x3,x4,x5,x6,x7,xl⟩:=rq_cells (hbx.out w2 hb02).1;obtain ⟨s0,s1,s2,s3,s4,s5,s6,s7,sl⟩:=rq_cells (hbx.out w2 hb02).2;clear hb y0 y1 y2 y3 y4 y5 y6 y7 yl t0 t1 t2 t3 t4 t5 t6 t7 tl hE1 hE hF;dsimp only at hd2 ⊢;refine hid5 ?_ hd2 hm2 hmx hF1 hb02;clear hd2 hm2 hmx hF1 hb02;intro hd2 hm2 hmx hF1 hb02
 go_wp2_with fail;refine hF1.out.mono ?_;intro e w3 hb;obtain ⟨fa,fc,rfl,hd3,hm3⟩:=hb.cut;have hmy:=hmx.out.trans hm3;have hd4:=hd2.out.fresh hm3;have hb03:=hb02.out.trans hm3;have hcx:=fun W (hW:Mod Nowhere w3 W)=>rq_cells (hbx.out W (hb03.trans hW)).1;have hcy:=fun W (hW:Mod Nowhere w3 W)=>rq_cells (hbx.out W (hb03.trans hW)).2;have hT3:=fun W (hW:Mod Nowhere w3 W)=>hT.out W (hmy.trans hW);have hQ3:=fun W (hW:Mod Nowhere w3 W)=>hQ.out W (hmy.trans hW);clear hb x0 x1 x2 x3 x4 x5 x6 x7 xl s0 s1 s2 s3 s4 s5 s6 s7 sl hF1 hd2 hT hQ;dsimp only at hd3 ⊢;obtain ⟨lxn,hlx⟩:∃ n,lx.length = n:=⟨_,rfl⟩;obtain ⟨lyn,hly⟩:∃ n,ly.length = n:=⟨_,rfl⟩
 rw [hlx] at hd4 ⊢;rw [hly] at hd3 ⊢;refine hid11 ?_ hd3 hm3 hmy hd4 hb03 hcx hcy hT3 hQ3 hlx hly;clear hd3 hm3 hmy hd4 hb03 hcx hcy hT3 hQ3 hlx hly;intro hd3 hm3 hmy hd4 hb03 hcx hcy hT3 hQ3 hlx hly;go_wp2_with fail;by_cases hex:ex = 0
 case neg =>
  have hexb:((ex:Int) == 0) = false:=by simp;exact hex
  refine wp_region_vals (fun i=>match i with | 0=>some (.int .i64 (ex:Int)) | 1=>some (.bool false) | 2=>some (.bool false) | 5=>some (.bool false) | 6=>some (.bool false) | 14=>some (.bool false) | _=>none) (fun i=>match i with | 1=>[0] | 2=>[1] | 3=>[2] | 4=>[2] | 5=>[2] | 6=>[5,2] | 7=>[6] | 8=>[6] | 9=>[6] | 10=>[6] | 11=>[6] | 12=>[6] | 13=>[6] | 14=>[6] | _=>[]) 15 (fun _ _ _=>True) ?A_5_0 (by first | assumption | kernel_rfl) (by kernel_rfl) (by kernel_rfl) (by kernel_rfl) (by rfl) ?hA_5_0 ?hS_5_0 ?hE_5_0
  case hA_5_0=>intro xs;simp [putAll,List.range,List.range.loop,Act.put] <;> rfl
  case hS_5_0 =>
   refine ⟨?_,?_,?_,?_,?_,?_,?_,?_,?_,?_,?_,?_,?_,?_,?_,trivial⟩
   all_goals
    intro yv w' hR hF K hK;clear hF
    go_simp
    exact hK _ _ (fun _ _=>by first | trivial | exact rfl | simp [*,known]) (Mod.refl _ _)
  case hE_5_0 =>
   intro yv w' hR hF;clear hF;simp only [mixN,Option.getD_some,Option.getD_none,Nat.reduceLT,if_true];have hW:=(Mod.refl Nowhere w3).drew.trans hR;obtain ⟨x0,x1,x2,x3,x4,x5,x6,x7,xl⟩:=hcx.out w' hW;clear hR;replace hW:=Lib.hid hW;go_wp2_with fail;refine (hT3.out _ hW.out).mono ?_;intro e w5 hb;obtain ⟨ta,tc,rfl,hd5,hm5⟩:=hb.cut;have hW5:=hW.out.trans hm5;have hmw5:=hmy.out.trans hW5;obtain ⟨z0,z1,z2,z3,z4,z5,z6,z7,zl⟩:=hcx.out w5 hW5;clear hb x0 x1 x2 x3 x4 x5 x6 x7 xl;dsimp only at hd5 ⊢;by_cases h0:et = 0
   ·subst h0;have hP5:=hP.out w5 _ lt hmw5 hd5.src hbt.out;rw [decide_eq_true ⟨rfl,rfl⟩] at hP5;have hQ4:=fun W (hW:Mod Nowhere w W)=>hQz.out W hW rfl;clear hP hT3 hnt hbt hQ3 hQz;generalize decide (lt = d) = qd at *;generalize lt.length = ltn at *;refine hid6 ?_ hd5 hm5 hW5 hmw5 hP5 hQ4;clear hd5 hm5 hW5 hmw5 hP5 hQ4;intro hd5 hm5 hW5 hmw5 hP5 hQ4;go_wp2_with fail;refine hP5.out.mono ?_;rintro e w6 ⟨rfl,hm6⟩;have hQ6:=hQ4.out w6 (hmw5.out.trans hm6);obtain ⟨x0,x1,x2,x3,x4,x5,x6,x7,xl⟩:=hcx.out w6 (hW5.out.trans hm6);have hmw6:=hmw5.out.trans hm6;have hd6:=hd5.out.fresh hm6
    clear hQ4 z0 z1 z2 z3 z4 z5 z6 z7 zl;refine hid4 ?_ hm6 hQ6 hmw6 hd6;clear hm6 hQ6 hmw6 hd6;intro hm6 hQ6 hmw6 hd6;go_wp2_with fail;refine hQ6.out.mono ?_;rintro e w7 ⟨rfl,hm7⟩;have hS7:=hS2.out w7 _ (hmw6.out.trans hm7) (hd6.out.fresh hm7).src hd100.out;have hmw7:=hmw6.out.trans hm7;have hqq:(qd == qd) = true:=by simp
    refine hid3 ?_ hm7 hS7 hmw7;clear hm7 hS7 hmw7;intro hm7 hS7 hmw7;go_wp2_with fail;refine hS7.out.mono ?_;rintro e w8 ⟨rfl,hm8⟩;have hmw8:=hmw7.out.trans hm8;refine hid2 ?_ hm8 hmw8;clear hm8 hmw8;intro hm8 hmw8;clear hqq
    cases qd
    all_goals
     go_wp2_with fail;refine (hX.out _).mono ?_;rintro e w9 ⟨rfl,hm9⟩;have hf:=hmw8.out.trans hm9;refine hid2 ?_ hf hm9;clear hf hm9;intro hf hm9;go_wp2;go_ret;exact ⟨rfl,hf.out⟩
   ·have h0b:((et:Int) != 0) = true:=by simp;exact h0
    have hl0:=hnt.out h0;have hQ6:=hQ3.out w5 hW5;rw [decide_eq_false (fun q=>h0 q.1)] at hQ6;rw [show lt.length = 0 by rw [hl0];rfl] at hd5 ⊢;clear hnt hP hQ3 hT3 hbt hl0 hQz;refine hid5 ?_ hd5 hm5 hW5 hmw5 hQ6;clear hd5 hm5 hW5 hmw5 hQ6;intro hd5 hm5 hW5 hmw5 hQ6;go_wp2_with fail;refine hQ6.out.mono ?_;rintro e w6 ⟨rfl,hm6⟩;have hmw6:=hmw5.out.trans hm6;refine hid2 ?_ hm6 hmw6;clear hm6 hmw6;intro hm6 hmw6;go_wp2_with fail;refine (hX.out _).mono ?_;rintro e w9 ⟨rfl,hm9⟩;have hf:=hmw6.out.trans hm9;refine hid2 ?_ hf hm9;clear hf hm9;intro hf hm9;go_wp2;go_ret;exact ⟨rfl,hf.out⟩
 subst hex;by_cases hey:ey = 0
 case neg =>
  have heyb:((ey:Int) == 0) = false:=by simp;exact hey
  refine wp_region_vals (fun i=>match i with | 0=>some (.int .i64 0) | 1=>some (.bool true) | 2=>some (.bool true) | 3=>some (.int .i64 (ey:Int)) | 4=>some (.bool false) | 5=>some (.bool false) | 6=>some (.bool false) | 14=>some (.bool false) | _=>none) (fun i=>match i with | 1=>[0] | 2=>[1] | 3=>[2] | 4=>[3,2] | 5=>[2,4] | 6=>[5,2] | 7=>[6] | 8=>[6] | 9=>[6] | 10=>[6] | 11=>[6] | 12=>[6] | 13=>[6] | 14=>[6] | _=>[]) 15 (fun _ _ _=>True) ?A_5_1 (by first | assumption | kernel_rfl) (by kernel_rfl) (by kernel_rfl) (by kernel_rfl) (by rfl) ?hA_5_1 ?hS_5_1 ?hE_5_1
  case hA_5_1=>intro xs;simp [putAll,List.range,List.range.loop,Act.put] <;> rfl
  case hS_5_1 =>
   refine ⟨?_,?_,?_,?_,?_,?_,?_,?_,?_,?_,?_,?_,?_,?_,?_,trivial⟩
   all_goals
    intro yv w' hR hF K hK;clear hF
    go_simp
    exact hK _ _ (fun _ _=>by first | trivial | exact rfl | simp [*,known]) (Mod.refl _ _)
  case hE_5_1 =>
   intro yv w' hR hF;clear hF;simp only [mixN,Option.getD_some,Option.getD_none,Nat.reduceLT,if_true];have hW:=(Mod.refl Nowhere w3).drew.trans hR;obtain ⟨x0,x1,x2,x3,x4,x5,x6,x7,xl⟩:=hcx.out w' hW;clear hR;replace hW:=Lib.hid hW;go_wp2_with fail;refine (hT3.out _ hW.out).mono ?_;intro e w5 hb;obtain ⟨ta,tc,rfl,hd5,hm5⟩:=hb.cut;have hW5:=hW.out.trans hm5;have hmw5:=hmy.out.trans hW5;obtain ⟨z0,z1,z2,z3,z4,z5,z6,z7,zl⟩:=hcx.out w5 hW5;clear hb x0 x1 x2 x3 x4 x5 x6 x7 xl;dsimp only at hd5 ⊢;by_cases h0:et = 0
   ·subst h0;have hP5:=hP.out w5 _ lt hmw5 hd5.src hbt.out;rw [decide_eq_true ⟨rfl,rfl⟩] at hP5;have hQ4:=fun W (hW:Mod Nowhere w W)=>hQz.out W hW rfl;clear hP hT3 hnt hbt hQ3 hQz;generalize decide (lt = d) = qd at *;generalize lt.length = ltn at *;refine hid6 ?_ hd5 hm5 hW5 hmw5 hP5 hQ4;clear hd5 hm5 hW5 hmw5 hP5 hQ4;intro hd5 hm5 hW5 hmw5 hP5 hQ4;go_wp2_with fail;refine hP5.out.mono ?_;rintro e w6 ⟨rfl,hm6⟩;have hQ6:=hQ4.out w6 (hmw5.out.trans hm6);obtain ⟨x0,x1,x2,x3,x4,x5,x6,x7,xl⟩:=hcx.out w6 (hW5.out.trans hm6);have hmw6:=hmw5.out.trans hm6;have hd6:=hd5.out.fresh hm6
    clear hQ4 z0 z1 z2 z3 z4 z5 z6 z7 zl;refine hid4 ?_ hm6 hQ6 hmw6 hd6;clear hm6 hQ6 hmw6 hd6;intro hm6 hQ6 hmw6 hd6;go_wp2_with fail;refine hQ6.out.mono ?_;rintro e w7 ⟨rfl,hm7⟩;have hS7:=hS2.out w7 _ (hmw6.out.trans hm7) (hd6.out.fresh hm7).src hd100.out;have hmw7:=hmw6.out.trans hm7;have hqq:(qd == qd) = true:=by simp
    refine hid3 ?_ hm7 hS7 hmw7;clear hm7 hS7 hmw7;intro hm7 hS7 hmw7;go_wp2_with fail;refine hS7.out.mono ?_;rintro e w8 ⟨rfl,hm8⟩;have hmw8:=hmw7.out.trans hm8;refine hid2 ?_ hm8 hmw8;clear hm8 hmw8;intro hm8 hmw8;clear hqq
    cases qd
    all_goals
     go_wp2_with fail;refine (hX.out _).mono ?_;rintro e w9 ⟨rfl,hm9⟩;have hf:=hmw8.out.trans hm9;refine hid2 ?_ hf hm9;clear hf hm9;intro hf hm9;go_wp2;go_ret;exact ⟨rfl,hf.out⟩
   ·have h0b:((et:Int) != 0) = true:=by simp;exact h0
    have hl0:=hnt.out h0;have hQ6:=hQ3.out w5 hW5;rw [decide_eq_false (fun q=>h0 q.1)] at hQ6;rw [show lt.length = 0 by rw [hl0];rfl] at hd5 ⊢;clear hnt hP hQ3 hT3 hbt hl0 hQz;refine hid5 ?_ hd5 hm5 hW5 hmw5 hQ6;clear hd5 hm5 hW5 hmw5 hQ6;intro hd5 hm5 hW5 hmw5 hQ6;go_wp2_with fail;refine hQ6.out.mono ?_;rintro e w6 ⟨rfl,hm6⟩;have hmw6:=hmw5.out.trans hm6;refine hid2 ?_ hm6 hmw6;clear hm6 hmw6;intro hm6 hmw6;go_wp2_with fail;refine (hX.out _).mono ?_;rintro e w9 ⟨rfl,hm9⟩;have hf:=hmw6.out.trans hm9;refine hid2 ?_ hf hm9;clear hf hm9;intro hf hm9;go_wp2;go_ret;exact ⟨rfl,hf.out⟩
 subst hey;have hbb:(sb != sb) = false:=by simp
 refine wp_region_vals (fun i=>match i with | 0=>some (.int .i64 0) | 1=>some (.bool true) | 2=>some (.bool true) | 3=>some (.int .i64 0) | 4=>some (.bool true) | 5=>some (.bool true) | 6=>some (.bool true) | 7=>some (.slice ea lxn ec) | 8=>some (.slice fa lyn fc) | 9=>some (.bool sb) | 10=>some (.agg #[.int .i64 act,.slice a1 n1 c1,.slice a2 n2 c2,.slice a3 n3 c3,.slice a4 n4 c4,.int .i64 prv,.slice a6 n6 c6,.slice a7 n7 c7]) | 11=>some (.agg #[.int .i64 actb,.slice a1b n1b c1b,.slice a2b n2b c2b,.slice a3b n3b c3b,.slice a4b n4b c4b,.int .i64 prvb,.slice a6b n6b c6b,.slice a7b n7b c7b]) | 12=>some (.bool sb) | 13=>some (.bool false) | 14=>some (.bool false) | _=>none) (fun i=>match i with | 1=>[0] | 2=>[1] | 3=>[2] | 4=>[3,2] | 5=>[2,4] | 6=>[5,2] | 7=>[6] | 8=>[6] | 9=>[7,8,6] | 10=>[6] | 11=>[6] | 12=>[10,11,9,6] | 13=>[9,12,6] | 14=>[6,13] | _=>[]) 15 (fun _ _ _=>True) ?A_5_2 (by first | assumption | kernel_rfl) (by kernel_rfl) (by kernel_rfl) (by kernel_rfl) (by rfl) ?hA_5_2 ?hS_5_2 ?hE_5_2
 case hA_5_2=>intro xs;simp [putAll,List.range,List.range.loop,Act.put] <;> rfl
 case hS_5_2 =>
  refine ⟨?_,?_,?_,?_,?_,?_,?_,?_,?_,?q9_5_2,?q10_5_2,?q11_5_2,?q12_5_2,?_,?_,trivial⟩
  case q9_5_2 =>
   intro yv w' hR hF K hK;clear hF;have hc:=hS.out w' _ _ (hd4.out.fresh ((Mod.refl Nowhere _).drew.trans hR)).src (hd3.out.fresh ((Mod.refl Nowhere _).drew.trans hR)).src;rw [← hfin.out rfl rfl] at hc;replace hc:=Lib.hid hc
   go_simp
   go_at_call 23
   refine hc.out.mono ?_;rintro e w9 ⟨rfl,hm9⟩;exact hK _ _ (fun W hW=>rfl) hm9
  case q10_5_2 =>
   intro yv w' hR hF K hK;clear hF;obtain ⟨z0,z1,z2,z3,z4,z5,z6,z7,zl⟩:=hcx.out w' ((Mod.refl Nowhere _).drew.trans hR)
   go_simp
   exact hK _ _ (fun _ _=>rfl) (Mod.refl _ _)
  case q11_5_2 =>
   intro yv w' hR hF K hK;clear hF;obtain ⟨z0,z1,z2,z3,z4,z5,z6,z7,zl⟩:=hcy.out w' ((Mod.refl Nowhere _).drew.trans hR)
   go_simp
   exact hK _ _ (fun _ _=>rfl) (Mod.refl _ _)
  case q12_5_2 =>
   intro yv w' hR hF K hK;clear hF;have hc:=hsm.out w' (hmy.out.trans ((Mod.refl Nowhere _).drew.trans hR)) rfl rfl;replace hc:=Lib.hid hc
   go_simp
   go_at_call 30
   refine hc.out.mono ?_;rintro e w9 ⟨rfl,hm9⟩;exact hK _ _ (fun W hW=>rfl) hm9
  all_goals
   intro yv w' hR hF K hK;clear hF
   go_simp
   exact hK _ _ (fun _ _=>by first | trivial | exact rfl | simp [*,known]) (Mod.refl _ _)
 case hE_5_2 =>
  intro yv w' hR hF;clear hF;simp only [mixN,Option.getD_some,Option.getD_none,Nat.reduceLT,if_true];have hW:=(Mod.refl Nowhere w3).drew.trans hR;obtain ⟨x0,x1,x2,x3,x4,x5,x6,x7,xl⟩:=hcx.out w' hW;clear hR;replace hW:=Lib.hid hW;go_wp2_with fail;refine (hT3.out _ hW.out).mono ?_;intro e w5 hb;obtain ⟨ta,tc,rfl,hd5,hm5⟩:=hb.cut;have hW5:=hW.out.trans hm5;have hmw5:=hmy.out.trans hW5;obtain ⟨z0,z1,z2,z3,z4,z5,z6,z7,zl⟩:=hcx.out w5 hW5;clear hb x0 x1 x2 x3 x4 x5 x6 x7 xl;dsimp only at hd5 ⊢;by_cases h0:et = 0
  ·subst h0;have hP5:=hP.out w5 _ lt hmw5 hd5.src hbt.out;rw [decide_eq_true ⟨rfl,rfl⟩] at hP5;have hQ4:=fun W (hW:Mod Nowhere w W)=>hQz.out W hW rfl;clear hP hT3 hnt hbt hQ3 hQz;generalize decide (lt = d) = qd at *;generalize lt.length = ltn at *;refine hid6 ?_ hd5 hm5 hW5 hmw5 hP5 hQ4;clear hd5 hm5 hW5 hmw5 hP5 hQ4;intro hd5 hm5 hW5 hmw5 hP5 hQ4;go_wp2_with fail;refine hP5.out.mono ?_;rintro e w6 ⟨rfl,hm6⟩;have hQ6:=hQ4.out w6 (hmw5.out.trans hm6);obtain ⟨x0,x1,x2,x3,x4,x5,x6,x7,xl⟩:=hcx.out w6 (hW5.out.trans hm6);have hmw6:=hmw5.out.trans hm6;have hd6:=hd5.out.fresh hm6
   clear hQ4 z0 z1 z2 z3 z4 z5 z6 z7 zl;refine hid4 ?_ hm6 hQ6 hmw6 hd6;clear hm6 hQ6 hmw6 hd6;intro hm6 hQ6 hmw6 hd6;go_wp2_with fail;refine hQ6.out.mono ?_;rintro e w7 ⟨rfl,hm7⟩;have hS7:=hS2.out w7 _ (hmw6.out.trans hm7) (hd6.out.fresh hm7).src hd100.out;have hmw7:=hmw6.out.trans hm7;have hqq:(qd == qd) = true:=by simp
   refine hid3 ?_ hm7 hS7 hmw7;clear hm7 hS7 hmw7;intro hm7 hS7 hmw7;go_wp2_with fail;refine hS7.out.mono ?_;rintro e w8 ⟨rfl,hm8⟩;have hmw8:=hmw7.out.trans hm8;refine hid2 ?_ hm8 hmw8;clear hm8 hmw8;intro hm8 hmw8;clear hqq
   cases qd
   all_goals
    go_wp2_with fail;refine (hX.out _).mono ?_;rintro e w9 ⟨rfl,hm9⟩;have hf:=hmw8.out.trans hm9;refine hid2 ?_ hf hm9;clear hf hm9;intro hf hm9;go_wp2;go_ret;exact ⟨rfl,hf.out⟩
  ·have h0b:((et:Int) != 0) = true:=by simp;exact h0
   have hl0:=hnt.out h0;have hQ6:=hQ3.out w5 hW5;rw [decide_eq_false (fun q=>h0 q.1)] at hQ6;rw [show lt.length = 0 by rw [hl0];rfl] at hd5 ⊢;clear hnt hP hQ3 hT3 hbt hl0 hQz;refine hid5 ?_ hd5 hm5 hW5 hmw5 hQ6;clear hd5 hm5 hW5 hmw5 hQ6;intro hd5 hm5 hW5 hmw5 hQ6;go_wp2_with fail;refine hQ6.out.mono ?_;rintro e w6 ⟨rfl,hm6⟩;have hmw6:=hmw5.out.trans hm6;refine hid2 ?_ hm6 hmw6;clear hm6 hmw6;intro hm6 hmw6;go_wp2_with fail;refine (hX.out _).mono ?_;rintro e w9 ⟨rfl,hm9⟩;have hf:=hmw6.out.trans hm9;refine hid2 ?_ hf hm9;clear hf hm9;intro hf hm9;go_wp2;go_ret;exact ⟨rfl,hf.out⟩
theorem lawTokenExact (kv:Value) (key:List Nat) (x y:RqV) (dv:Value) (d:List Nat) (w:World) (hk:InBytes w kv key) (h:RqAt w x) (g:RqAt w y) (hd:InBytes w dv d):Calls Tryz.prog 6 #[kv,.agg x.cells.toArray,.agg y.cells.toArray,dv] w fun e w'=>e = .returned (.bool true)∧Below w.heap.size w w':=(lawExact' kv key x y dv d w hk.1 hk.2 h g hd.1 hd.2).mono fun _ _ h=>⟨h.1,h.2.below⟩
end Go.Proofs.YtanioleniadhoaaGreat
