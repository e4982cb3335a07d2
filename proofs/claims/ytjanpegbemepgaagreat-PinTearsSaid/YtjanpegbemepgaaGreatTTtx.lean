/-
  The law PinTears: the walk.
-/
import Derived.Test.YtjanpegbemepgaaGreatTG49
set_option linter.unusedVariables false
set_option linter.unusedSimpArgs false
set_option maxRecDepth 100000
namespace Go.Proofs.YtjanpegbemepgaaGreat
open Go.RowKit
open Jn Vn
attribute [local go_sem] Oper.semAt_some
theorem cost5_is {A:VAt} {w:World} {m:Mem} {s:VSt} {n c:Nat} (h:Card w A m s n c):cost5 A = 1278480:=by unfold cost5;rw [h.cost]
set_option maxHeartbeats 16000000 in
theorem lawTears21_ok (v:Value) (l:List Pop) (y:Pop) (z:Int) (w:World) (hin:InPops w v l) (hya:PopAt w y) (hz:(Lit.int .u16 z).wf = true):Calls Tryz.prog 6 #[v,.agg y.cells.toArray,.int .u16 z] w fun e w'=>e = .returned (.bool true)∧Below w.heap.size w w':=by
 obtain ⟨zn,rfl,hzn⟩:∃ n:Nat,z = (n:Int)∧n < 65536:=by
  simp only [Lit.wf,Bool.and_eq_true,decide_eq_true_eq] at hz;have h1:0≤z:=hz.1;have h2:z≤65535:=hz.2;exact ⟨z.toNat,by omega,by omega⟩
 clear hz;obtain ⟨a,cap,rfl,h1,h2,h3⟩:=hin
 -- the call that is cut
 obtain ⟨x,hx⟩:∃ x,x = y:=⟨y,rfl⟩;have hxa:PopAt w x:=hx ▸ hya;rw [← hx];have hStX:=fun X (hm:Mod Nowhere w X) v S (hq:QRep X v S) (hS:S.Ok) (hb:∀ k p,S.g k = some p→p.t≤15∧p.u≤15) (h1:x.a.length≤40) (h2:x.b.length≤40)=>step21_ok hq hS hb (hxa.fresh hm) (Nat.le_trans h1 (by decide)) (Nat.le_trans h2 (by decide));have hSpX:=fun X (hm:Mod Nowhere w X) v S (hq:QRep X v S) (hS:S.Ok) (hb:∀ k p,S.g k = some p→p.t≤15∧p.u≤15) (h1:x.a.length≤40) (h2:x.b.length≤40)=>spent21_ok hq hS hb (hxa.fresh hm) h1 h2;have hVeX:=fun X (hm:Mod Nowhere w X) v S (hq:QRep X v S) (hS:S.Ok) (hb:∀ k p,S.g k = some p→p.t≤15∧p.u≤15) (h1:x.a.length≤40) (h2:x.b.length≤40)=>verified21_ok hq hS hb (hxa.fresh hm) h1 h2
 have hCaX:=fun X (A:VAt) (m:Mem) (s:VSt) (pb n c mb:Nat) (hm:∀ Y,Mod A.S X Y→Mod Nowhere w Y) (hp:PnAt X pb A.vb) (hc:Card X A m s (n + cost5 A) c) (hl:s.l.length≤90000) (hc1:c≤1000) =>
  call21_ok hp hc.rep hl hc.psp.ps hc.z hc.two (hxa.fresh (hm X (Mod.refl _ _))) (fun Y hY=>hxa.sa.fresh (hm Y hY)) (fun Y hY=>hxa.sb.fresh (hm Y hY)) (fun Y hY=>hxa.d.sv.fresh (hm Y hY)) (fun Y hY=>hxa.d.su.fresh (hm Y hY)) (hc.room hc1 (Nat.le_add_left _ _)) mb
 have sa:=hxa.sa;have sb:=hxa.sb;have s1:=hxa.d.sv;have s2:=hxa.d.su;have hTear:=fun (Z:Nat) (s:VSt) (h:PSP s) (ha:s.act = false) (hZ:1800≤Z / 2) (ho:x.op≤5) (f:Items) (hf:f ∈ (pOp Z s x).mid)=>tear_law h ha hZ hxa ho hf;have hAfter:=fun (Z:Nat) (s:VSt) (h:PSP s) (ha:s.act = false) (hZ:1800≤Z / 2) (ho:x.op≤5)=>left_after (Z:=Z) h ha hZ hxa ho;have hopr:=fun (Z:Nat) (s:VSt) (h:PSP s) (hZ:1800≤Z / 2)=>op_rel h hZ hxa;obtain ⟨yop,yid,⟨ydid,yvv,yvl,yli,ylo,yhi,yuv,yul,ycl⟩,yav,yal,ybv,ybl⟩:=y;rw [hx] at sa sb s1 s2
 dsimp only at sa sb s1 s2;obtain ⟨yaa,yac,rfl,-,-,-⟩:=sa;obtain ⟨yxb,ybc,rfl,-,-,-⟩:=sb;obtain ⟨yva,yvc,rfl,-,-,-⟩:=s1;obtain ⟨yua,yuc,rfl,-,-,-⟩:=s2;have hxc:(.agg x.cells.toArray:Value) = .agg #[.int .i64 yop,.int .i64 yid,.int .i64 ydid,.slice yva yvl.length yvc,.int .i64 yli,.int .i64 ylo,.int .i64 yhi,.slice yua yul.length yuc,.int .i64 ycl,.slice yaa yal.length yac,.slice yxb ybl.length ybc]:=by rw [hx];rfl
 have hxo:x.op = yop:=by rw [hx]
 have hxal:x.a.length = yal.length:=by rw [hx]
 have hxbl:x.b.length = ybl.length:=by rw [hx]
 rw [hxc] at hStX hSpX hVeX hCaX ⊢;rw [hxo] at hTear hAfter;rw [hxal,hxbl] at hStX hSpX hVeX;have hSh:=fun X=>short21_ok (w:=X) yop yid ydid yva yvl.length yvc yli ylo yhi yua yul.length yuc ycl yaa yal.length yac yxb ybl.length ybc;obtain ⟨q,hqq⟩:∃ q,shortB yal.length ybl.length yvl.length yul.length = q:=⟨_,rfl⟩;rw [hqq] at hSh;have hE:=fun W=>awake21_ok W;have hB:=fun W=>begin21_ok W
 -- its box
 have bX:=Blk.new w [.int .i64 yop,.int .i64 yid,.int .i64 ydid,.slice yva yvl.length yvc,.int .i64 yli,.int .i64 ylo,.int .i64 yhi,.slice yua yul.length yuc,.int .i64 ycl,.slice yaa yal.length yac,.slice yxb ybl.length ybc] 37;have mX:Mod Nowhere w (w.alloc (.cells #[.int .i64 yop,.int .i64 yid,.int .i64 ydid,.slice yva yvl.length yvc,.int .i64 yli,.int .i64 ylo,.int .i64 yhi,.slice yua yul.length yuc,.int .i64 ycl,.slice yaa yal.length yac,.slice yxb ybl.length ybc] 37)):=(Mod.refl _ w).alloc _;have zX:(w.alloc (.cells #[.int .i64 yop,.int .i64 yid,.int .i64 ydid,.slice yva yvl.length yvc,.int .i64 yli,.int .i64 ylo,.int .i64 yhi,.slice yua yul.length yuc,.int .i64 ycl,.slice yaa yal.length yac,.slice yxb ybl.length ybc] 37)).heap.size = w.heap.size + 1:=by simp
 obtain ⟨w0,hw0⟩:∃ w0,w.alloc (.cells #[.int .i64 yop,.int .i64 yid,.int .i64 ydid,.slice yva yvl.length yvc,.int .i64 yli,.int .i64 ylo,.int .i64 yhi,.slice yua yul.length yuc,.int .i64 ycl,.slice yaa yal.length yac,.slice yxb ybl.length ybc] 37) = w0:=⟨_,rfl⟩;rw [hw0] at bX mX zX;have hbl:∀ W:World,Mod Nowhere w0 W→Below w.heap.size w W:=fun W h=>(mX.trans h).below
 have hyc:∀ X,Mod Nowhere w0 X→(X.cell? ⟨w.heap.size,0,none⟩ = some (.int .i64 yop)∧X.cell? ⟨w.heap.size,1,none⟩ = some (.int .i64 yid)∧X.cell? ⟨w.heap.size,2,none⟩ = some (.int .i64 ydid)∧X.cell? ⟨w.heap.size,3,none⟩ = some (.slice yva yvl.length yvc)∧X.cell? ⟨w.heap.size,4,none⟩ = some (.int .i64 yli)∧X.cell? ⟨w.heap.size,5,none⟩ = some (.int .i64 ylo)∧X.cell? ⟨w.heap.size,6,none⟩ = some (.int .i64 yhi)∧X.cell? ⟨w.heap.size,7,none⟩ = some (.slice yua yul.length yuc)∧X.cell? ⟨w.heap.size,8,none⟩ = some (.int .i64 ycl)∧X.cell? ⟨w.heap.size,9,none⟩ = some (.slice yaa yal.length yac)∧X.cell? ⟨w.heap.size,10,none⟩ = some (.slice yxb ybl.length ybc))∧w.heap.size < X.heap.size:=fun X hm=>by
  have b:=bX.mod hm (fun e=>e);exact ⟨⟨b.cell 0,b.cell 1,b.cell 2,b.cell 3,b.cell 4,b.cell 5,b.cell 6,b.cell 7,b.cell 8,b.cell 9,b.cell 10⟩,b.lt⟩
 obtain ⟨⟨y0,y1,y2,y3,y4,y5,y6,y7,y8,y9,y10⟩,yl⟩:=hyc w0 (Mod.refl _ _);refine hid12 ?_ hStX hSpX hVeX hCaX hTear hAfter hopr hxa hx hxc hxo hxal;clear hStX hSpX hVeX hCaX hTear hAfter hopr hxa hx hxc hxo hxal;intro hStX hSpX hVeX hCaX hTear hAfter hopr hxa hx hxc hxo hxal;refine hid11 ?_ hxbl hSh hqq hE hB bX mX zX hbl hyc h3;clear hxbl hSh hqq hE hB bX mX zX hbl hyc h3;intro hxbl hSh hqq hE hB bX mX zX hbl hyc h3;by_cases hq:10 < l.length
 ·have hqi:(10:Int) < (l.length:Int):=by omega
  go_enter Tryz.func6,Tryz.ntmps6;go_wp2;have hfin:=hbl.out _ (Mod.refl _ _);go_ret;exact ⟨rfl,hfin⟩
 have hqi:¬ (10:Int) < (l.length:Int):=by omega
 have hSh0:=hSh.out w0
 cases q
 ·replace hSh0:=Lib.hid hSh0;go_enter Tryz.func6,Tryz.ntmps6;go_wp2_with fail;refine hSh0.out.mono ?_;rintro e w1 ⟨rfl,hm1⟩;have hfin:=hbl.out _ hm1;go_wp2;go_ret;exact ⟨rfl,hfin⟩
 by_cases h5:5 < yop
 ·replace hSh0:=Lib.hid hSh0;go_enter Tryz.func6,Tryz.ntmps6;go_wp2_with fail;refine hSh0.out.mono ?_;rintro e w1 ⟨rfl,hm1⟩;have hfin:=hbl.out _ hm1;clear y0 y1 y2 y3 y4 y5 y6 y7 y8 y9 y10 yl;obtain ⟨⟨y0,-⟩,yl⟩:=hyc.out w1 hm1;go_wp2;go_ret;exact ⟨rfl,hfin⟩
 have h5i:yop≤5:=by omega
 obtain ⟨hl1,hl2⟩:yal.length≤40∧ybl.length≤40:=by
  have:=hqq.out;unfold shortB at this;simp only [Bool.and_eq_true,decide_eq_true_eq] at this;exact ⟨this.1.1.1,this.1.1.2⟩
 replace hSh0:=Lib.hid hSh0;go_enter Tryz.func6,Tryz.ntmps6;go_wp2_with fail;refine hSh0.out.mono ?_;rintro e w1 ⟨rfl,hm1⟩;clear y0 y1 y2 y3 y4 y5 y6 y7 y8 y9 y10 yl;obtain ⟨⟨y0,-⟩,yl⟩:=hyc.out w1 hm1;replace hm1:=Lib.hid hm1;go_wp2_with fail;refine (hB.out _).mono ?_;rintro e w2 ⟨A,m,pb,rfl,hc,hp,hpb,hAS,hpd,hmw1⟩;unfold cardV;obtain ⟨b0,b1,m0⟩:=boxes2 w2 [ptr A.M.mb,ptr A.vb,ptr pb] [.slice none 0 0,.bool false,.slice none 0 0] 28 50;obtain ⟨X0,hX0⟩:∃ X0,(w2.alloc (.cells #[ptr A.M.mb,ptr A.vb,ptr pb] 28)).alloc (.cells #[.slice none 0 0,.bool false,.slice none 0 0] 50) = X0:=⟨_,rfl⟩;rw [hX0] at b0 b1 m0
 have hlt1:=hc.rep.lt;have hws:=hm1.out.size;have hws1:=hmw1.size
 have hmd0:MDa w0 X0 w2.heap.size (w2.heap.size + 1) (100 * 10000000) 0 A m (vst0 none_) pb (.slice none 0 0) (.slice none 0 0) :=
  ⟨hc.fresh m0,hpd,Nat.zero_le _,hp.fresh m0,b0,b1,q0_ls X0,fun e=>by have:=hlt1 _ e;omega,fun e=>by have:=hlt1 _ e;omega,fun j hj=>by have:=hAS j hj;omega,by omega,(hm1.out.trans hmw1).trans m0⟩
 obtain ⟨B,hBB⟩:∃ B,w2.heap.size = B:=⟨_,rfl⟩;rw [hBB] at hmd0;clear hc hp hpb hAS hpd b0 b1 m0 hlt1 y0 yl;refine hid2 ?_ hmd0 hmw1;clear hmd0 hmw1;intro hmd0 hmw1;go_wp2
 go_loopw [10] (fun i wr=>∃ (k:Nat) (A:VAt) (m:Mem) (s:VSt) (pb:Nat) (lv ov:Value),k≤l.length∧i = .int .i64 k∧s.act = false∧MDa w0 wr B (B + 1) ((100 - k) * 10000000) k A m s pb lv ov) (fun i _=>l.length - (RowKit.intOf i).toNat)
 case atStart=>exact ⟨0,_,_,_,_,_,_,Nat.zero_le _,rfl,rfl,hmd0.out⟩
 case round =>
  clear hmd0 hX0;obtain ⟨k,A,m,s,pb,lv,ov,hk,rfl,hact,hM⟩:=hrel;by_cases hlt:k < l.length
  ·obtain ⟨b,off,rfl,hpo⟩:=h3.out (by omega);obtain ⟨u,hxk⟩:∃ u,l[k] = u:=⟨_,rfl⟩;have hxi:=(hpo k hlt).fresh mX.out;rw [hxk] at hxi;clear hpo hxk;have hki:(k:Int) < (l.length:Int):=by omega
   have hk20:k≤10:=by omega
   have hat:=hxi.at_;have hbx:∀ X,Mod A.S wr X→Mod Nowhere w0 X:=fun X hm=>hM.mod.step hm fun i hi e=>absurd hi (by have:=hM.hAS i e;omega);have hdr:=(Mod.refl Nowhere wr).drew;have hZ:=hM.card.z;have hps:=hM.card.psp;have hxn:s.l.length≤90000:=by have:=hM.len;omega
   have hcost:=cost5_is hM.card;have hcd:∀ X,Mod Nowhere wr X→Card X A m s ((100 - (k + 1)) * 10000000 + cost5 A) 0:=fun X hm=>(hM.card.fresh hm).less (by rw [hcost];omega) (Nat.le_refl 0);have hsS:∀ (X:World),Mod Nowhere wr X→∀ (v:Value) (d:List Nat),Src w0 v d→SrcS A X v d:=fun X hx v d hs Y hm=>hs.fresh (hbx Y (hx.nowhere.trans hm));have hCa0:=fun X (hx:Mod Nowhere wr X)=>call21_ok (hM.pn.fresh hx) (hcd X hx).rep hxn hps.ps hZ hM.card.two ((hat.fresh hM.mod).fresh hx) (hsS X hx _ _ hxi.sa) (hsS X hx _ _ hxi.sb) (hsS X hx _ _ hxi.d.sv) (hsS X hx _ _ hxi.d.su) ((hcd X hx).room (by omega) (Nat.le_add_left _ _)) A.M.mb;have hSt0:=fun (hla:u.a.length≤1000) (hlb:u.b.length≤1000) X (hm:Mod Nowhere w0 X) v (hq:QRep X v (qOf s))=>step21_ok hq (qOf_ok hps) (qOf_tries hps) (hat.fresh hm) hla hlb
   obtain ⟨hr1,hps2⟩:=op_rel hps hZ hat;have hlen:=op_len hps hZ hat;have hacx:u.op≤5→(qOp (qOf s) u).1.act = false:=fun ho=>by rw [op_act ho];exact hact
   obtain ⟨G,hG⟩:∃ G,pOp A.Z s u = G:=⟨_,rfl⟩;obtain ⟨R,hR⟩:∃ R,qOp (qOf s) u = R:=⟨_,rfl⟩;rw [hG] at hCa0 hr1 hps2 hlen;rw [hR] at hSt0 hr1 hacx;have e1:G.left = R.2.1:=by rw [hr1]
   have e2:G.e = R.2.2:=by rw [hr1]
   have e3:qOf G.s = R.1:=by rw [hr1]
   rw [e1,e2] at hCa0;have hact2:u.op≤5→G.s.act = false:=fun ho=>by have:=hacx ho;rw [← e3] at this;exact this
   clear hG hR hr1 e1 e2 hat hacx;obtain ⟨av0,hav0⟩:∃ av0,(qOf s).act = av0:=⟨_,rfl⟩;obtain ⟨la,ln,lc,oa,om,oc,rfl,rfl⟩:=hM.ls.form;obtain ⟨op,id,⟨did,vv,vl,li,lo,hi,uv,ul,cl'⟩,av,al,bv,bl⟩:=u;have sa:=hxi.sa;have sb:=hxi.sb;have s1:=hxi.d.sv;have s2:=hxi.d.su;dsimp only at sa sb s1 s2 hact2 hSt0;obtain ⟨aa,ac,rfl,-,-,-⟩:=sa;obtain ⟨xb,bc,rfl,-,-,-⟩:=sb;obtain ⟨va,vc,rfl,-,-,-⟩:=s1;obtain ⟨ua,uc,rfl,-,-,-⟩:=s2;have hCa:∀ X,Mod Nowhere wr X→Calls Tryz.prog 19 #[.agg #[ptr A.M.mb,ptr A.vb,ptr pb],.agg #[.int .i64 op,.int .i64 id,.int .i64 did,.slice va vl.length vc,.int .i64 li,.int .i64 lo,.int .i64 hi,.slice ua ul.length uc,.int .i64 cl',.slice aa al.length ac,.slice xb bl.length bc]] X (PGa (midIn G) X A m G.s R.2.1 R.2.2 (cost5 A)):=hCa0;have hSt:al.length≤1000→bl.length≤1000→∀ X,Mod Nowhere w0 X→∀ v,QRep X v (qOf s)→Calls Tryz.prog 20 #[v,.agg #[.int .i64 op,.int .i64 id,.int .i64 did,.slice va vl.length vc,.int .i64 li,.int .i64 lo,.int .i64 hi,.slice ua ul.length uc,.int .i64 cl',.slice aa al.length ac,.slice xb bl.length bc]] X (StAns X R):=hSt0
   clear hCa0 hSt0;have hx11:∀ X,Mod A.S wr X→(X.cell? ⟨b,off + k * 11,none⟩ = some (.int .i64 op)∧X.cell? ⟨b,off + k * 11 + 1,none⟩ = some (.int .i64 id)∧X.cell? ⟨b,off + k * 11 + 2,none⟩ = some (.int .i64 did)∧X.cell? ⟨b,off + k * 11 + 3,none⟩ = some (.slice va vl.length vc)∧X.cell? ⟨b,off + k * 11 + 4,none⟩ = some (.int .i64 li)∧X.cell? ⟨b,off + k * 11 + 5,none⟩ = some (.int .i64 lo)∧X.cell? ⟨b,off + k * 11 + 6,none⟩ = some (.int .i64 hi)∧X.cell? ⟨b,off + k * 11 + 7,none⟩ = some (.slice ua ul.length uc)∧X.cell? ⟨b,off + k * 11 + 8,none⟩ = some (.int .i64 cl')∧X.cell? ⟨b,off + k * 11 + 9,none⟩ = some (.slice aa al.length ac)∧X.cell? ⟨b,off + k * 11 + 10,none⟩ = some (.slice xb bl.length bc))∧b < X.heap.size:=fun X hm=>(hxi.fresh (hbx X hm)).c11;obtain ⟨⟨p0,p1,p2,p3,p4,p5,p6,p7,p8,p9,p10⟩,pl⟩:=hx11 wr (Mod.refl _ _)
   have hShk:=short21_ok (w:=wr) op id did va vl.length vc li lo hi ua ul.length uc cl' aa al.length ac xb bl.length bc;obtain ⟨q2,hq2⟩:∃ q2,shortB al.length bl.length vl.length ul.length = q2:=⟨_,rfl⟩;rw [hq2] at hShk;have hmw:=hM.mod
   have hlx:shortB al.length bl.length vl.length ul.length = true→al.length≤1000∧bl.length≤1000:=fun h=>by
    unfold shortB at h;simp only [Bool.and_eq_true,decide_eq_true_eq] at h;omega
   refine hid12 ?_ hM hbx hdr hsS hps hcost hcd hps2 hlen e3 hav0 hCa;clear hM hbx hdr hsS hps hcost hcd hps2 hlen e3 hav0 hCa;intro hM hbx hdr hsS hps hcost hcd hps2 hlen e3 hav0 hCa;refine hid9 ?_ hSt hx11 hxi hact2 hShk hq2 hmw hlx hact;clear hSt hx11 hxi hact2 hShk hq2 hmw hlx hact;intro hSt hx11 hxi hact2 hShk hq2 hmw hlx hact
   cases q2
   ·go_wp2_with fail;refine hShk.out.mono ?_;rintro e w4 ⟨rfl,hm4⟩;have hfin:=hbl.out _ (hmw.out.trans hm4);go_wp2;go_ret;exact ⟨rfl,hfin⟩
   by_cases ho5:5 < op
   ·go_wp2_with fail;refine hShk.out.mono ?_;rintro e w4 ⟨rfl,hm4⟩;have hfin:=hbl.out _ (hmw.out.trans hm4);clear p0 p1 p2 p3 p4 p5 p6 p7 p8 p9 p10 pl;obtain ⟨⟨p0,-⟩,pl⟩:=hx11.out w4 hm4.nowhere;go_wp2;go_ret;exact ⟨rfl,hfin⟩
   go_wp2_with fail;refine hShk.out.mono ?_;rintro e w4 ⟨rfl,hm4⟩;obtain ⟨hal,hbl1⟩:=hlx.out hq2.out;clear p0 p1 p2 p3 p4 p5 p6 p7 p8 p9 p10 pl;obtain ⟨⟨p0,p1,p2,p3,p4,p5,p6,p7,p8,p9,p10⟩,pl⟩:=hx11.out w4 hm4.nowhere
   have hBX:∀ X,Mod A.S wr X→X.cell? ⟨B,0,none⟩ = some (ptr A.M.mb)∧X.cell? ⟨B,1,none⟩ = some (ptr A.vb)∧X.cell? ⟨B,2,none⟩ = some (ptr pb)∧B < X.heap.size:=fun X hm =>
    ⟨(hM.out.bb.mod hm hM.out.nB).cell 0,(hM.out.bb.mod hm hM.out.nB).cell 1,(hM.out.bb.mod hm hM.out.nB).cell 2,(hM.out.bb.mod hm hM.out.nB).lt⟩
   obtain ⟨kB0,kB1,kB2,kBl⟩:=hBX w4 hm4.nowhere;have hdr4:=hm4.drew;have hpd:=hM.out.pd;refine hid4 ?_ hm4 hBX hdr4 hpd;clear hm4 hBX hdr4 hpd;intro hm4 hBX hdr4 hpd;go_wp2
   go_region_held3 (fun w'=>(w'.cell? ⟨B,0,none⟩ = some (ptr A.M.mb)∧w'.cell? ⟨B,1,none⟩ = some (ptr A.vb)∧w'.cell? ⟨B,2,none⟩ = some (ptr pb))∧(w'.cell? ⟨b,off + k * 11,none⟩ = some (.int .i64 op)∧w'.cell? ⟨b,off + k * 11 + 1,none⟩ = some (.int .i64 id)∧w'.cell? ⟨b,off + k * 11 + 2,none⟩ = some (.int .i64 did)∧w'.cell? ⟨b,off + k * 11 + 3,none⟩ = some (.slice va vl.length vc)∧w'.cell? ⟨b,off + k * 11 + 4,none⟩ = some (.int .i64 li)∧w'.cell? ⟨b,off + k * 11 + 5,none⟩ = some (.int .i64 lo)∧w'.cell? ⟨b,off + k * 11 + 6,none⟩ = some (.int .i64 hi)∧w'.cell? ⟨b,off + k * 11 + 7,none⟩ = some (.slice ua ul.length uc)∧w'.cell? ⟨b,off + k * 11 + 8,none⟩ = some (.int .i64 cl')∧w'.cell? ⟨b,off + k * 11 + 9,none⟩ = some (.slice aa al.length ac)∧w'.cell? ⟨b,off + k * 11 + 10,none⟩ = some (.slice xb bl.length bc))) (simp [*,World.cell?_alloc_some,World.cell?_setCell_far,World.cell?_setCell_other])
    (first
     | (go_at_call 19;(with_reducible refine (hCa.out _ hdr4.out).mono ?_);rintro e w5 hc5;obtain ⟨rfl,m2,hcd2,hpd2,hm2⟩:=hc5.sure (hcd.out _ hdr4.out) hpd.out hps2.out;have hmS:=hdr4.out.nowhere.trans hm2;obtain ⟨⟨x0,x1,x2,x3,x4,x5,x6,x7,x8,x9,x10⟩,xl⟩:=hx11.out w5 hmS;obtain ⟨r0,r1,r2,rl⟩:=hBX.out w5 hmS;clear hc5;replace hcd2:=Lib.hid hcd2;replace hpd2:=Lib.hid hpd2;replace hm2:=Lib.hid hm2;replace hmS:=Lib.hid hmS)
     | fail)
   clear p0 p1 p2 p3 p4 p5 p6 p7 p8 p9 p10 pl kB0 kB1 kB2 kBl r0 r1 r2 rl;have bC:=hM.out.bc.mod hmS.out hM.out.nC;rw [hav0.out] at bC;have hL1:=hM.out.ls.keepS hM.out.card.rep hmS.out;have hmw1:=hbx.out w5 hmS.out;have hdr5:=(Mod.refl Nowhere w5).drew;have hSt1:=hSt.out hal hbl1 w5.drew (hmw1.trans hdr5) (.agg #[.slice la ln lc,.bool av0,.slice oa om oc]) ⟨_,_,by rw [hav0.out],hL1.fresh hdr5⟩
   have hCX:∀ X,Mod Nowhere w5 X→X.cell? ⟨B + 1,0,none⟩ = some (.slice la ln lc)∧X.cell? ⟨B + 1,1,none⟩ = some (.bool av0)∧X.cell? ⟨B + 1,2,none⟩ = some (.slice oa om oc)∧B + 1 < X.heap.size∧∀ o,X.frozen? ⟨B + 1,o,none⟩ = false:=fun X hm =>
    ⟨(bC.mod hm (fun e=>e)).cell 0,(bC.mod hm (fun e=>e)).cell 1,(bC.mod hm (fun e=>e)).cell 2,(bC.mod hm (fun e=>e)).lt,(bC.mod hm (fun e=>e)).frozen⟩
   obtain ⟨kC0,kC1,kC2,kCl,kCf⟩:=hCX w5 (Mod.refl _ _);obtain ⟨av3,hav3⟩:∃ av3,R.1.act = av3:=⟨_,rfl⟩;refine hid7 ?_ bC hL1 hmw1 hdr5 hSt1 hCX hav3;clear bC hL1 hmw1 hdr5 hSt1 hCX hav3;intro bC hL1 hmw1 hdr5 hSt1 hCX hav3;go_wp2
   go_region_law (first | (go_simp;go_at_call 20;(with_reducible refine hSt1.out.mono ?_);rintro e w6 ⟨u6,rfl,⟨lv6,ov6,rfl,hL6⟩,hm6⟩;obtain ⟨la6,ln6,lc6,oa6,om6,oc6,rfl,rfl⟩:=hL6.form;have hm56:=hdr5.out.trans hm6;obtain ⟨r0,r1,r2,rl,rf⟩:=hCX.out w6 hm56;replace hm56:=Lib.hid hm56;replace hL6:=Lib.hid hL6;replace hm6:=Lib.hid hm6))
   all_goals
    have hN:=hM.out.next hcd2.out hpd2.out hlen.out hmS.out hm56.out (by rw [e3.out];exact hL6.out);rw [e3.out] at hN;have hfin:=And.intro (hact2.out (by omega)) hN;unfold put3 at hfin;clear hN;replace hfin:=Lib.hid hfin;go_wp2;go_roundw
    case rel=>exact ⟨k + 1,_,_,_,_,_,_,by omega,by go_num,hfin.out.1,hfin.out.2⟩
    case measure=>simp [RowKit.intOf];omega
  ·obtain rfl:k = l.length:=by omega
   obtain ⟨la,ln,lc,oa,om,oc,rfl,rfl⟩:=hM.ls.form;have hki:¬ ((l.length:Int) < (l.length:Int)):=by omega
   obtain ⟨r,hr⟩:∃ r,zn % 1500 = r:=⟨_,rfl⟩;have t70:=u16_rem2 zn 1500 (by omega);rw [hr] at t70;have hr15:r < 1500:=by omega
   have hCt:=Cut_ok hM.card.rep.mem.1 hM.card.off r (by omega);rw [show ((r:Nat):Int) = (zn:Int) % 1500 by omega] at hCt;have kB0:=hM.bb.cell 0;have kBl:=hM.bb.lt;simp only [List.getElem?_cons_zero] at kB0;have hwr:IntKind.i64.wrap (r:Int) = (r:Int):=by rw [IntKind.wrap_i64];omega
   refine hid4 ?_ hM hCt hr hact;clear hM hCt hr hact;intro hM hCt hr hact;go_wp2_with fail;refine hCt.out.mono ?_;rintro e wC ⟨rfl,hrC,hmC⟩;have hmCS:Mod A.S wr wC:=hmC.mono fun _ _ e=>.inr (.inr e);have hcP:Card wC A (m.cut r) s (1000000 + cost5 A) 0:=(hM.out.card.plan hmC hrC).less (by rw [cost5_is hM.out.card];omega) (Nat.le_refl 0);have bB:=hM.out.bb.mod hmCS hM.out.nB;have hpC:=Blk.mod hM.out.pn hmCS (hM.out.pn.notS hM.out.card.rep);have hbC:∀ Y,Mod A.S wC Y→Mod Nowhere w0 Y:=fun Y hm=>hM.out.mod.step (hmCS.trans hm) fun i hi e=>absurd hi (by have:=hM.out.hAS i e;omega);have hCa:=hCaX.out wC A (m.cut r) s pb 1000000 0 A.M.mb (fun Y hm=>mX.out.trans (hbC Y hm)) hpC hcP (by have:=hM.out.len;omega) (by omega)
   obtain ⟨⟨y0,y1,y2,y3,y4,y5,y6,y7,y8,y9,y10⟩,yl⟩:=hyc.out wC (hbC wC (Mod.refl _ _));clear kB0 kBl;have kB0:=bB.cell 0;have kB1:=bB.cell 1;have kB2:=bB.cell 2;have kBl:=bB.lt;simp only [List.getElem?_cons_zero,List.getElem?_cons_succ] at kB0 kB1 kB2
   have hTr:∀ w' e,PGa (midIn (pOp A.Z s x)) wC A (m.cut r) (pOp A.Z s x).s (pOp A.Z s x).left (pOp A.Z s x).e (cost5 A) e w'→∃ m3 f,MCard w' A.M m3 f 1000000 1∧Tear A.Z s x f:=fun w' e hg=>by
    rcases hg with ⟨m',k',a1,hv,hk',hrr,hm⟩ | ⟨m',f,a1,hf,hg,hst,hm⟩
    ·have hp2:=(hopr.out A.Z s hcP.psp hcP.z).2;exact ⟨m',_,(hcP.after hrr hk' hv hp2).mcard.less (Nat.le_refl _) (by omega),.inr (.inl (hAfter.out A.Z s hcP.psp hact.out hcP.z h5i))⟩
    ·exact ⟨m',f,hcP.gone hst hg,hTear.out A.Z s hcP.psp hact.out hcP.z h5i f hf⟩
   refine hid9 ?_ hmC hrC hmCS hcP bB hpC hbC hCa hTr;clear hmC hrC hmCS hcP bB hpC hbC hCa hTr;intro hmC hrC hmCS hcP bB hpC hbC hCa hTr;go_wp2_with fail;refine hCa.out.mono ?_;rintro e wD hcD;have hmD:=hcD.modS;obtain ⟨m3,f,hmc,hte⟩:=hTr.out _ _ hcD;obtain ⟨i7,j7,rfl⟩:=hcD.form;clear hcD;have bD:=bB.out.mod hmD hM.out.nB;have hAg:=again21_ok (n:=900000) (hmc.less (show 900000 + 62580≤1000000 by decide) (Nat.le_refl 1)) (by omega) hte.inv.1 hte.inv.2 (ptr A.vb) (ptr pb);clear kB0 kB1 kB2 kBl y0 y1 y2 y3 y4 y5 y6 y7 y8 y9 y10 yl;have kB0:=bD.cell 0;have kB1:=bD.cell 1;have kB2:=bD.cell 2;have kBl:=bD.lt
   simp only [List.getElem?_cons_zero,List.getElem?_cons_succ] at kB0 kB1 kB2;refine hid5 ?_ hmD hmc hte bD hAg;clear hmD hmc hte bD hAg;intro hmD hmc hte bD hAg;go_wp2_with fail;refine hAg.out.mono ?_;rintro e wE ⟨A',m8,pb',rfl,eM,hcd8,hp8,hpb8,hAS8,-,hm8⟩;unfold cardV;have hmDS:Mod A.S wr wE:=(hmCS.out.trans hmD.out).trans (hm8.mono fun _ _ e=>.inr (.inr e));have bE:=bD.out.mod hm8 (fun e=>hM.out.nB (.inr (.inr e)));have hBl:=bD.out.lt;clear kB0 kB1 kB2 kBl;have kB0:=bE.cell 0;have kB1:=bE.cell 1;have kB2:=bE.cell 2;have kBl:=bE.lt;have kBf:=bE.frozen;simp only [List.getElem?_cons_zero,List.getElem?_cons_succ] at kB0 kB1 kB2;obtain ⟨b9,m9⟩:=set3 bE (ptr A'.M.mb) (ptr A'.vb) (ptr pb')
   obtain ⟨wF,hwF⟩:∃ wF,((wE.setCell ⟨B,0,none⟩ (ptr A'.M.mb)).setCell ⟨B,1,none⟩ (ptr A'.vb)).setCell ⟨B,2,none⟩ (ptr pb') = wF:=⟨_,rfl⟩;rw [hwF] at b9 m9;have bCE:=hM.out.bc.mod hmDS hM.out.nC;have bCF:=bCE.mod m9 (fun e=>by have e:B + 1 = B:=e;omega);have hLF:=(hM.out.ls.keepS hM.out.card.rep hmDS).box bE (by decide) m9;have hcF:Card wF A' m8 (vst0 f) 900000 1:={ hcd8 with rep:=hcd8.rep.keepB m9 bE (by decide) };have hpF:PnAt wF pb' A'.vb:=Blk.mod hp8 m9 (fun e=>by have e:pb' = B:=e;omega);have hm0F:Mod Nowhere w0 wF:=(hM.out.mod.step hmDS fun i hi e=>absurd hi (by have:=hM.out.hAS i e;omega)).newb m9 (by omega);have hps:=hM.out.card.psp
   have hZ:=hM.out.card.z;obtain ⟨av0,hav0⟩:∃ av0,(qOf s).act = av0:=⟨_,rfl⟩;rw [hav0] at bCF;have hSt:=hStX.out wF (mX.out.trans hm0F) (.agg #[.slice la ln lc,.bool av0,.slice oa om oc]) (qOf s) ⟨_,_,by rw [hav0],hLF⟩ (qOf_ok hps) (qOf_tries hps) hl1 hl2
   have hRok:(qOp (qOf s) x).1.Ok:=by
    obtain ⟨e,hp2⟩:=hopr.out A.Z s hps hZ;rw [e];exact qOf_ok hp2
   obtain ⟨R,hR⟩:∃ R,qOp (qOf s) x = R:=⟨_,rfl⟩;have hte2:=hte.out;unfold Tear at hte2;rw [hR] at hSt hRok hte2
   have hb4:seenB f (qOf s) || seenB f R.1 || seenB f (qSpent (qOf s) x) || seenB f (qVerified (qOf s) x) = true:=by
    have hT:∀ S,Left f S→seenB f S = true:=fun S h=>@decide_eq_true _ (Classical.propDecidable _) h.seen;rcases hte2 with h | h | h | h
    ·rw [hT _ h];rfl
    ·rw [hT _ h];simp
    ·rw [hT _ h];simp
    ·rw [hT _ h];simp
   clear hte2;obtain ⟨⟨y0,y1,y2,y3,y4,y5,y6,y7,y8,y9,y10⟩,yl⟩:=hyc.out wF hm0F;have kC0:=bCF.cell 0;have kC1:=bCF.cell 1;have kC2:=bCF.cell 2;have kCl:=bCF.lt;simp only [List.getElem?_cons_zero,List.getElem?_cons_succ] at kC0 kC1 kC2;refine hid12 ?_ eM hmDS bE b9 m9 bCE bCF hLF hcF hpF hm0F hps;clear eM hmDS bE b9 m9 bCE bCF hLF hcF hpF hm0F hps;intro eM hmDS bE b9 m9 bCE bCF hLF hcF hpF hm0F hps;refine hid9 ?_ hZ hav0 hSt hRok hR hb4 hm8 hcd8 hp8;clear hZ hav0 hSt hRok hR hb4 hm8 hcd8 hp8;intro hZ hav0 hSt hRok hR hb4 hm8 hcd8 hp8;go_wp2_with fail;refine hSt.out.mono ?_;rintro e wG ⟨u6,rfl,⟨lv6,ov6,rfl,hL6⟩,hm6⟩
   obtain ⟨la6,ln6,lc6,oa6,om6,oc6,rfl,rfl⟩:=hL6.form;obtain ⟨av6,hav6⟩:∃ av6,R.1.act = av6:=⟨_,rfl⟩;rw [hav6];obtain ⟨bS,-,mX1⟩:=boxes2 wG [.slice la6 ln6 lc6,.bool av6,.slice oa6 om6 oc6] [.int .i64 R.2.1,errno R.2.2] 50 52;obtain ⟨X,hX⟩:∃ X,(wG.alloc (.cells #[.slice la6 ln6 lc6,.bool av6,.slice oa6 om6 oc6] 50)).alloc (.cells #[.int .i64 R.2.1,errno R.2.2] 52) = X:=⟨_,rfl⟩;rw [hX] at bS mX1;unfold errno at hX;have hmX:=hm6.trans mX1;have hAgg0:∀ X',Mod Nowhere X X'→QRep X' (.agg #[.slice la ln lc,.bool av0,.slice oa om oc]) (qOf s):=fun X' hm=>⟨_,_,by rw [hav0.out],hLF.out.fresh (hmX.trans hm)⟩;have hAgg1:∀ X',Mod Nowhere X X'→QRep X' (.agg #[.slice la6 ln6 lc6,.bool av6,.slice oa6 om6 oc6]) R.1:=fun X' hm=>⟨_,_,by rw [hav6],hL6.fresh (mX1.trans hm)⟩
   have hSe:∀ X',Mod Nowhere X X'→∀ v S,QRep X' v S→S.Ok→Calls Tryz.prog 21 #[ptr pb',v] X' fun e w'=>e = .returned (.bool (seenB f S))∧Mod Nowhere X' w':=fun X' hm v S hq hS =>
    seen21_is (hpF.out.fresh (hmX.trans hm)) (hcF.out.rep.fresh (hmX.trans hm)) (Nat.zero_le _) hcF.out.psp.ps.view hq hS
   have hSp:∀ X',Mod Nowhere X X'→Calls Tryz.prog 29 #[.agg #[.slice la ln lc,.bool av0,.slice oa om oc],.agg #[.int .i64 yop,.int .i64 yid,.int .i64 ydid,.slice yva yvl.length yvc,.int .i64 yli,.int .i64 ylo,.int .i64 yhi,.slice yua yul.length yuc,.int .i64 ycl,.slice yaa yal.length yac,.slice yxb ybl.length ybc]] X' (StPost X' (qSpent (qOf s) x)):=fun X' hm=>hSpX.out X' (mX.out.trans ((hm0F.out.trans hmX).trans hm)) _ (qOf s) (hAgg0 X' hm) (qOf_ok hps.out) (qOf_tries hps.out) hl1 hl2;have hVe:∀ X',Mod Nowhere X X'→Calls Tryz.prog 30 #[.agg #[.slice la ln lc,.bool av0,.slice oa om oc],.agg #[.int .i64 yop,.int .i64 yid,.int .i64 ydid,.slice yva yvl.length yvc,.int .i64 yli,.int .i64 ylo,.int .i64 yhi,.slice yua yul.length yuc,.int .i64 ycl,.slice yaa yal.length yac,.slice yxb ybl.length ybc]] X' (StPost X' (qVerified (qOf s) x)):=fun X' hm=>hVeX.out X' (mX.out.trans ((hm0F.out.trans hmX).trans hm)) _ (qOf s) (hAgg0 X' hm) (qOf_ok hps.out) (qOf_tries hps.out) hl1 hl2;have ok0:=qOf_ok hps.out
   have ok1:=hRok.out;have ok2:=spent_ok hps.out hZ.out (x:=x) hxa.out.bb;have ok3:=verified_ok hps.out hZ.out (x:=x);have hbT:=hb4.out;obtain ⟨S2,hS2⟩:∃ S2,qSpent (qOf s) x = S2:=⟨_,rfl⟩;obtain ⟨S3,hS3⟩:∃ S3,qVerified (qOf s) x = S3:=⟨_,rfl⟩;rw [hS2] at hSp ok2 hbT;rw [hS3] at hVe ok3 hbT;obtain ⟨B1,hB1⟩:∃ B1,seenB f (qOf s) = B1:=⟨_,rfl⟩;obtain ⟨B2,hB2⟩:∃ B2,seenB f R.1 = B2:=⟨_,rfl⟩;obtain ⟨B3,hB3⟩:∃ B3,seenB f S2 = B3:=⟨_,rfl⟩;obtain ⟨B4,hB4⟩:∃ B4,seenB f S3 = B4:=⟨_,rfl⟩;rw [hB1,hB2,hB3,hB4] at hbT;obtain ⟨D2,hD2⟩:∃ D2,(B1 || B2) = D2:=⟨_,rfl⟩;rw [hD2] at hbT
   obtain ⟨D3,hD3⟩:∃ D3,(D2 || B3) = D3:=⟨_,rfl⟩;rw [hD3] at hbT;have hD4:=hbT;clear hbT
   have hcl:∀ X',Mod Nowhere X X'→(X'.cell? ⟨B,0,none⟩ = some (ptr A'.M.mb)∧X'.cell? ⟨B,1,none⟩ = some (ptr A'.vb)∧X'.cell? ⟨B,2,none⟩ = some (ptr pb')∧B < X'.heap.size)∧(X'.cell? ⟨B + 1,0,none⟩ = some (.slice la ln lc)∧X'.cell? ⟨B + 1,1,none⟩ = some (.bool av0)∧X'.cell? ⟨B + 1,2,none⟩ = some (.slice oa om oc)∧B + 1 < X'.heap.size)∧(X'.cell? ⟨wG.heap.size,0,none⟩ = some (.slice la6 ln6 lc6)∧X'.cell? ⟨wG.heap.size,1,none⟩ = some (.bool av6)∧X'.cell? ⟨wG.heap.size,2,none⟩ = some (.slice oa6 om6 oc6)∧wG.heap.size < X'.heap.size)∧(X'.cell? ⟨w.heap.size,0,none⟩ = some (.int .i64 yop)∧X'.cell? ⟨w.heap.size,1,none⟩ = some (.int .i64 yid)∧X'.cell? ⟨w.heap.size,2,none⟩ = some (.int .i64 ydid)∧X'.cell? ⟨w.heap.size,3,none⟩ = some (.slice yva yvl.length yvc)∧X'.cell? ⟨w.heap.size,4,none⟩ = some (.int .i64 yli)∧X'.cell? ⟨w.heap.size,5,none⟩ = some (.int .i64 ylo)∧X'.cell? ⟨w.heap.size,6,none⟩ = some (.int .i64 yhi)∧X'.cell? ⟨w.heap.size,7,none⟩ = some (.slice yua yul.length yuc)∧X'.cell? ⟨w.heap.size,8,none⟩ = some (.int .i64 ycl)∧X'.cell? ⟨w.heap.size,9,none⟩ = some (.slice yaa yal.length yac)∧X'.cell? ⟨w.heap.size,10,none⟩ = some (.slice yxb ybl.length ybc))∧w.heap.size < X'.heap.size:=fun X' hm=>by
    have g0:=(b9.out.mod hmX (fun e=>e)).mod hm (fun e=>e);have g1:=(bCF.out.mod hmX (fun e=>e)).mod hm (fun e=>e);have g2:=bS.mod hm (fun e=>e);exact ⟨⟨g0.cell 0,g0.cell 1,g0.cell 2,g0.lt⟩,⟨g1.cell 0,g1.cell 1,g1.cell 2,g1.lt⟩,⟨g2.cell 0,g2.cell 1,g2.cell 2,g2.lt⟩,hyc.out X' ((hm0F.out.trans hmX).trans hm)⟩
   clear y0 y1 y2 y3 y4 y5 y6 y7 y8 y9 y10 yl kB0 kB1 kB2 kBl kBf kC0 kC1 kC2 kCl;refine hid12 ?_ hmX hAgg0 hAgg1 hSe hSp hVe ok0 ok1 ok2 ok3 hS2 hS3;clear hmX hAgg0 hAgg1 hSe hSp hVe ok0 ok1 ok2 ok3 hS2 hS3;intro hmX hAgg0 hAgg1 hSe hSp hVe ok0 ok1 ok2 ok3 hS2 hS3;refine hid12 ?_ hB1 hB2 hB3 hB4 hD2 hD3 hD4 hcl bS mX1 hL6 hav6;clear hB1 hB2 hB3 hB4 hD2 hD3 hD4 hcl bS mX1 hL6 hav6;intro hB1 hB2 hB3 hB4 hD2 hD3 hD4 hcl bS mX1 hL6 hav6;replace hm6:=Lib.hid hm6;go_wp2;refine wp_region_calm (fun i v w'=>match i with | 0=>(v = .pointer (some ⟨B,2,none⟩)) | 1=>(v = ptr pb') | 2=>(v = .agg #[.slice la ln lc,.bool av0,.slice oa om oc]) | 3=>(v = .bool B1) | 4=>(v = .bool B1) | 5=>(B1 = false→v = .pointer (some ⟨B,2,none⟩)) | 6=>(B1 = false→v = ptr pb') | 7=>(B1 = false→v = .agg #[.slice la6 ln6 lc6,.bool av6,.slice oa6 om6 oc6]) | 8=>(B1 = false→v = .bool B2) | 9=>(v = .bool D2) | 10=>(v = .bool D2) | 11=>(D2 = false→v = .pointer (some ⟨B,2,none⟩)) | 12=>(D2 = false→v = ptr pb') | 13=>(D2 = false→v = .agg #[.slice la ln lc,.bool av0,.slice oa om oc]) | 14=>(D2 = false→v = .agg #[.int .i64 yop,.int .i64 yid,.int .i64 ydid,.slice yva yvl.length yvc,.int .i64 yli,.int .i64 ylo,.int .i64 yhi,.slice yua yul.length yuc,.int .i64 ycl,.slice yaa yal.length yac,.slice yxb ybl.length ybc]) | 15=>(D2 = false→QRep w' v S2) | 16=>(D2 = false→v = .bool B3) | 17=>(v = .bool D3) | 18=>(v = .bool D3) | 19=>(D3 = false→v = .pointer (some ⟨B,2,none⟩)) | 20=>(D3 = false→v = ptr pb') | 21=>(D3 = false→v = .agg #[.slice la ln lc,.bool av0,.slice oa om oc]) | 22=>(D3 = false→v = .agg #[.int .i64 yop,.int .i64 yid,.int .i64 ydid,.slice yva yvl.length yvc,.int .i64 yli,.int .i64 ylo,.int .i64 yhi,.slice yua yul.length yuc,.int .i64 ycl,.slice yaa yal.length yac,.slice yxb ybl.length ybc]) | 23=>(D3 = false→QRep w' v S3) | 24=>(D3 = false→v = .bool B4) | 25=>(v = .bool true) | 26=>(v = .bool true) | 27=>(v = .bool true) | 28=>(v = .bool true) | 29=>(v = .bool true) | _=>True) ?A_ (by first | assumption | kernel_rfl) (by kernel_rfl) (by kernel_rfl) ?hA_ ?hS_ ?hE_
   case hA_=>intro xs;simp [putAll,List.range,List.range.loop,Act.put];rfl
   case hS_ =>
    refine ⟨?_,?_,?_,?_,?_,?_,?_,?_,?_,?_,?_,?_,?_,?_,?_,?_,?_,?_,?_,?_,?_,?_,?_,?_,?_,?_,?_,?_,?_,?_,trivial⟩
    ·-- 0: t90:=fieldAddr(28,t7,2)
     intro yv w' hR hF K hK;clear hF
     go_simp
     exact hK _ _ (fun _ _=>by first | trivial | rfl | simp [*]) (Mod.refl _ _)
    ·-- 1: t91:=load(26,t90)
     intro yv w' hR hF K hK;have f0:(yv 0) = .pointer (some ⟨B,2,none⟩):=hF 0 (by kernel_rfl) w' (Mod.refl _ _);clear hF;generalize yv 0 = y0 at *;subst f0;have hm1:=(Mod.refl Nowhere X).drew.trans hR;obtain ⟨⟨q0,q1,q2,ql⟩,⟨z0,z1,z2,zl⟩,⟨t0,t1,t2,tl⟩,⟨x0,x1,x2,x3,x4,x5,x6,x7,x8,x9,x10⟩,xl⟩:=hcl.out w' hm1
     go_simp
     exact hK _ _ (fun _ _=>rfl) (Mod.refl _ _)
    ·-- 2: t92:=load(50,t9)
     intro yv w' hR hF K hK;clear hF;have hm1:=(Mod.refl Nowhere X).drew.trans hR;obtain ⟨⟨q0,q1,q2,ql⟩,⟨z0,z1,z2,zl⟩,⟨t0,t1,t2,tl⟩,⟨x0,x1,x2,x3,x4,x5,x6,x7,x8,x9,x10⟩,xl⟩:=hcl.out w' hm1
     go_simp
     exact hK _ _ (fun _ _=>rfl) (Mod.refl _ _)
    ·-- 3: t93:=CALL F21 (t91,t92)
     intro yv w' hR hF K hK;have f1:(yv 1) = ptr pb':=hF 1 (by kernel_rfl) w' (Mod.refl _ _);have f2:(yv 2) = .agg #[.slice la ln lc,.bool av0,.slice oa om oc]:=hF 2 (by kernel_rfl) w' (Mod.refl _ _);clear hF;generalize yv 1 = y1 at *;subst f1;generalize yv 2 = y2 at *;subst f2;have hm1:=(Mod.refl Nowhere X).drew.trans hR;have hc:=hSe.out w' hm1 _ _ (hAgg0.out w' hm1) ok0.out;rw [hB1.out] at hc;replace hc:=Lib.hid hc
     go_simp
     go_at_call 21
     refine hc.out.mono ?_;rintro e w1 ⟨rfl,hm1'⟩;exact hK _ _ (fun _ _=>rfl) hm1'
    ·-- 4: t94:=move(t93)
     intro yv w' hR hF K hK;have f3:(yv 3) = .bool B1:=hF 3 (by kernel_rfl) w' (Mod.refl _ _);clear hF;generalize yv 3 = y3 at *;subst f3
     go_simp
     exact hK _ _ (fun _ _=>by first | trivial | rfl | simp [*]) (Mod.refl _ _)
    ·-- 5: t95:=fieldAddr(28,t7,2)   [guard (4,false)]
     intro yv w' hR hF K hK;have f4:(yv 4) = .bool B1:=hF 4 (by kernel_rfl) w' (Mod.refl _ _);clear hF;generalize yv 4 = y4 at *;subst f4
     cases B1
     ·go_simp
      exact hK _ _ (fun _ _ _=>rfl) (Mod.refl _ _)
     ·go_simp
      exact hK _ _ (fun _ _ h=>by cases h) (Mod.refl _ _)
    ·-- 6: t96:=load(26,t95)   [guard (4,false)]
     intro yv w' hR hF K hK;have f5:B1 = false→(yv 5) = .pointer (some ⟨B,2,none⟩):=hF 5 (by kernel_rfl) w' (Mod.refl _ _);have f4:(yv 4) = .bool B1:=hF 4 (by kernel_rfl) w' (Mod.refl _ _);clear hF;generalize yv 5 = y5 at *;generalize yv 4 = y4 at *;subst f4
     cases B1
     ·have e5:=f5 rfl;subst e5;have hm1:=(Mod.refl Nowhere X).drew.trans hR;obtain ⟨⟨q0,q1,q2,ql⟩,⟨z0,z1,z2,zl⟩,⟨t0,t1,t2,tl⟩,⟨x0,x1,x2,x3,x4,x5,x6,x7,x8,x9,x10⟩,xl⟩:=hcl.out w' hm1
      go_simp
      exact hK _ _ (fun _ _ _=>rfl) (Mod.refl _ _)
     ·go_simp
      exact hK _ _ (fun _ _ h=>by cases h) (Mod.refl _ _)
    ·-- 7: t97:=load(50,t11)   [guard (4,false)]
     intro yv w' hR hF K hK;have f4:(yv 4) = .bool B1:=hF 4 (by kernel_rfl) w' (Mod.refl _ _);clear hF;generalize yv 4 = y4 at *;subst f4
     cases B1
     ·have hm1:=(Mod.refl Nowhere X).drew.trans hR;obtain ⟨⟨q0,q1,q2,ql⟩,⟨z0,z1,z2,zl⟩,⟨t0,t1,t2,tl⟩,⟨x0,x1,x2,x3,x4,x5,x6,x7,x8,x9,x10⟩,xl⟩:=hcl.out w' hm1
      go_simp
      exact hK _ _ (fun _ _ _=>rfl) (Mod.refl _ _)
     ·go_simp
      exact hK _ _ (fun _ _ h=>by cases h) (Mod.refl _ _)
    ·-- 8: t98:=CALL F21 (t96,t97)   [guard (4,false)]
     intro yv w' hR hF K hK;have f6:B1 = false→(yv 6) = ptr pb':=hF 6 (by kernel_rfl) w' (Mod.refl _ _);have f7:B1 = false→(yv 7) = .agg #[.slice la6 ln6 lc6,.bool av6,.slice oa6 om6 oc6]:=hF 7 (by kernel_rfl) w' (Mod.refl _ _);have f4:(yv 4) = .bool B1:=hF 4 (by kernel_rfl) w' (Mod.refl _ _);clear hF;generalize yv 6 = y6 at *;generalize yv 7 = y7 at *;generalize yv 4 = y4 at *;subst f4
     cases B1
     ·have e6:=f6 rfl;subst e6;have e7:=f7 rfl;subst e7;have hm1:=(Mod.refl Nowhere X).drew.trans hR;have hc:=hSe.out w' hm1 _ _ (hAgg1.out w' hm1) ok1.out;rw [hB2.out] at hc;replace hc:=Lib.hid hc
      go_simp
      go_at_call 21
      refine hc.out.mono ?_;rintro e w1 ⟨rfl,hm1'⟩;exact hK _ _ (fun _ _ _=>rfl) hm1'
     ·go_simp
      exact hK _ _ (fun _ _ h=>by cases h) (Mod.refl _ _)
    ·-- 9: t99:=pick(t94,const(Value.bool(true)),t98)
     intro yv w' hR hF K hK;have f4:(yv 4) = .bool B1:=hF 4 (by kernel_rfl) w' (Mod.refl _ _);have f8:B1 = false→(yv 8) = .bool B2:=hF 8 (by kernel_rfl) w' (Mod.refl _ _);clear hF;generalize yv 4 = y4 at *;subst f4;generalize yv 8 = y8 at *
     cases B1
     ·have e8:=f8 rfl;subst e8;have e:B2 = D2:=by simpa using hD2.out
      subst e
      go_simp
      exact hK _ _ (fun _ _=>rfl) (Mod.refl _ _)
     ·have e:true = D2:=by simpa using hD2.out
      subst e
      go_simp
      exact hK _ _ (fun _ _=>rfl) (Mod.refl _ _)
    ·-- 10: t100:=move(t99)
     intro yv w' hR hF K hK;have f9:(yv 9) = .bool D2:=hF 9 (by kernel_rfl) w' (Mod.refl _ _);have f8:B1 = false→(yv 8) = .bool B2:=hF 8 (by kernel_rfl) w' (Mod.refl _ _);clear hF;generalize yv 9 = y9 at *;subst f9;generalize yv 8 = y8 at *
     go_simp
     exact hK _ _ (fun _ _=>by first | trivial | rfl | simp [*]) (Mod.refl _ _)
    ·-- 11: t101:=fieldAddr(28,t7,2)   [guard (10,false)]
     intro yv w' hR hF K hK;have f10:(yv 10) = .bool D2:=hF 10 (by kernel_rfl) w' (Mod.refl _ _);clear hF;generalize yv 10 = y10 at *;subst f10
     cases D2
     ·go_simp
      exact hK _ _ (fun _ _ _=>rfl) (Mod.refl _ _)
     ·go_simp
      exact hK _ _ (fun _ _ h=>by cases h) (Mod.refl _ _)
    ·-- 12: t102:=load(26,t101)   [guard (10,false)]
     intro yv w' hR hF K hK;have f11:D2 = false→(yv 11) = .pointer (some ⟨B,2,none⟩):=hF 11 (by kernel_rfl) w' (Mod.refl _ _);have f10:(yv 10) = .bool D2:=hF 10 (by kernel_rfl) w' (Mod.refl _ _);clear hF;generalize yv 11 = y11 at *;generalize yv 10 = y10 at *;subst f10
     cases D2
     ·have e11:=f11 rfl;subst e11;have hm1:=(Mod.refl Nowhere X).drew.trans hR;obtain ⟨⟨q0,q1,q2,ql⟩,⟨z0,z1,z2,zl⟩,⟨t0,t1,t2,tl⟩,⟨x0,x1,x2,x3,x4,x5,x6,x7,x8,x9,x10⟩,xl⟩:=hcl.out w' hm1
      go_simp
      exact hK _ _ (fun _ _ _=>rfl) (Mod.refl _ _)
     ·go_simp
      exact hK _ _ (fun _ _ h=>by cases h) (Mod.refl _ _)
    ·-- 13: t103:=load(50,t9)   [guard (10,false)]
     intro yv w' hR hF K hK;have f10:(yv 10) = .bool D2:=hF 10 (by kernel_rfl) w' (Mod.refl _ _);clear hF;generalize yv 10 = y10 at *;subst f10
     cases D2
     ·have hm1:=(Mod.refl Nowhere X).drew.trans hR;obtain ⟨⟨q0,q1,q2,ql⟩,⟨z0,z1,z2,zl⟩,⟨t0,t1,t2,tl⟩,⟨x0,x1,x2,x3,x4,x5,x6,x7,x8,x9,x10⟩,xl⟩:=hcl.out w' hm1
      go_simp
      exact hK _ _ (fun _ _ _=>rfl) (Mod.refl _ _)
     ·go_simp
      exact hK _ _ (fun _ _ h=>by cases h) (Mod.refl _ _)
    ·-- 14: t104:=load(37,t4)   [guard (10,false)]
     intro yv w' hR hF K hK;have f10:(yv 10) = .bool D2:=hF 10 (by kernel_rfl) w' (Mod.refl _ _);clear hF;generalize yv 10 = y10 at *;subst f10
     cases D2
     ·have hm1:=(Mod.refl Nowhere X).drew.trans hR;obtain ⟨⟨q0,q1,q2,ql⟩,⟨z0,z1,z2,zl⟩,⟨t0,t1,t2,tl⟩,⟨x0,x1,x2,x3,x4,x5,x6,x7,x8,x9,x10⟩,xl⟩:=hcl.out w' hm1
      go_simp
      exact hK _ _ (fun _ _ _=>rfl) (Mod.refl _ _)
     ·go_simp
      exact hK _ _ (fun _ _ h=>by cases h) (Mod.refl _ _)
    ·-- 15: t105:=CALL F29 (t103,t104)   [guard (10,false)]
     intro yv w' hR hF K hK;have f13:D2 = false→(yv 13) = .agg #[.slice la ln lc,.bool av0,.slice oa om oc]:=hF 13 (by kernel_rfl) w' (Mod.refl _ _);have f14:D2 = false→(yv 14) = .agg #[.int .i64 yop,.int .i64 yid,.int .i64 ydid,.slice yva yvl.length yvc,.int .i64 yli,.int .i64 ylo,.int .i64 yhi,.slice yua yul.length yuc,.int .i64 ycl,.slice yaa yal.length yac,.slice yxb ybl.length ybc]:=hF 14 (by kernel_rfl) w' (Mod.refl _ _);have f10:(yv 10) = .bool D2:=hF 10 (by kernel_rfl) w' (Mod.refl _ _);clear hF;generalize yv 13 = y13 at *;generalize yv 14 = y14 at *;generalize yv 10 = y10 at *
     subst f10
     cases D2
     ·have e13:=f13 rfl;subst e13;have e14:=f14 rfl;subst e14;have hm1:=(Mod.refl Nowhere X).drew.trans hR;have hc:=hSp.out w' hm1;replace hc:=Lib.hid hc
      go_simp
      go_at_call 29
      refine hc.out.mono ?_;rintro e w1 ⟨u1,rfl,hq1,hm1'⟩;exact hK _ _ (fun W hW _=>hq1.fresh hW) hm1'
     ·go_simp
      exact hK _ _ (fun _ _ h=>by cases h) (Mod.refl _ _)
    ·-- 16: t106:=CALL F21 (t102,t105)   [guard (10,false)]
     intro yv w' hR hF K hK;have f12:D2 = false→(yv 12) = ptr pb':=hF 12 (by kernel_rfl) w' (Mod.refl _ _);have f15:D2 = false→QRep w' (yv 15) S2:=hF 15 (by kernel_rfl) w' (Mod.refl _ _);have f10:(yv 10) = .bool D2:=hF 10 (by kernel_rfl) w' (Mod.refl _ _);clear hF;generalize yv 12 = y12 at *;generalize yv 15 = y15 at *;generalize yv 10 = y10 at *;subst f10
     cases D2
     ·have e12:=f12 rfl;subst e12;have q15:=f15 rfl;clear f15;have hm1:=(Mod.refl Nowhere X).drew.trans hR;have hc:=hSe.out w' hm1 _ _ (q15) ok2.out;rw [hB3.out] at hc;replace hc:=Lib.hid hc
      go_simp
      go_at_call 21
      refine hc.out.mono ?_;rintro e w1 ⟨rfl,hm1'⟩;exact hK _ _ (fun _ _ _=>rfl) hm1'
     ·go_simp
      exact hK _ _ (fun _ _ h=>by cases h) (Mod.refl _ _)
    ·-- 17: t107:=pick(t100,const(Value.bool(true)),t106)
     intro yv w' hR hF K hK;have f10:(yv 10) = .bool D2:=hF 10 (by kernel_rfl) w' (Mod.refl _ _);have f16:D2 = false→(yv 16) = .bool B3:=hF 16 (by kernel_rfl) w' (Mod.refl _ _);clear hF;generalize yv 10 = y10 at *;subst f10;generalize yv 16 = y16 at *
     cases D2
     ·have e16:=f16 rfl;subst e16;have e:B3 = D3:=by simpa using hD3.out
      subst e
      go_simp
      exact hK _ _ (fun _ _=>rfl) (Mod.refl _ _)
     ·have e:true = D3:=by simpa using hD3.out
      subst e
      go_simp
      exact hK _ _ (fun _ _=>rfl) (Mod.refl _ _)
    ·-- 18: t108:=move(t107)
     intro yv w' hR hF K hK;have f17:(yv 17) = .bool D3:=hF 17 (by kernel_rfl) w' (Mod.refl _ _);have f16:D2 = false→(yv 16) = .bool B3:=hF 16 (by kernel_rfl) w' (Mod.refl _ _);clear hF;generalize yv 17 = y17 at *;subst f17;generalize yv 16 = y16 at *
     go_simp
     exact hK _ _ (fun _ _=>by first | trivial | rfl | simp [*]) (Mod.refl _ _)
    ·-- 19: t109:=fieldAddr(28,t7,2)   [guard (18,false)]
     intro yv w' hR hF K hK;have f18:(yv 18) = .bool D3:=hF 18 (by kernel_rfl) w' (Mod.refl _ _);clear hF;generalize yv 18 = y18 at *;subst f18
     cases D3
     ·go_simp
      exact hK _ _ (fun _ _ _=>rfl) (Mod.refl _ _)
     ·go_simp
      exact hK _ _ (fun _ _ h=>by cases h) (Mod.refl _ _)
    ·-- 20: t110:=load(26,t109)   [guard (18,false)]
     intro yv w' hR hF K hK;have f19:D3 = false→(yv 19) = .pointer (some ⟨B,2,none⟩):=hF 19 (by kernel_rfl) w' (Mod.refl _ _);have f18:(yv 18) = .bool D3:=hF 18 (by kernel_rfl) w' (Mod.refl _ _);clear hF;generalize yv 19 = y19 at *;generalize yv 18 = y18 at *;subst f18
     cases D3
     ·have e19:=f19 rfl;subst e19;have hm1:=(Mod.refl Nowhere X).drew.trans hR;obtain ⟨⟨q0,q1,q2,ql⟩,⟨z0,z1,z2,zl⟩,⟨t0,t1,t2,tl⟩,⟨x0,x1,x2,x3,x4,x5,x6,x7,x8,x9,x10⟩,xl⟩:=hcl.out w' hm1
      go_simp
      exact hK _ _ (fun _ _ _=>rfl) (Mod.refl _ _)
     ·go_simp
      exact hK _ _ (fun _ _ h=>by cases h) (Mod.refl _ _)
    ·-- 21: t111:=load(50,t9)   [guard (18,false)]
     intro yv w' hR hF K hK;have f18:(yv 18) = .bool D3:=hF 18 (by kernel_rfl) w' (Mod.refl _ _);clear hF;generalize yv 18 = y18 at *;subst f18
     cases D3
     ·have hm1:=(Mod.refl Nowhere X).drew.trans hR;obtain ⟨⟨q0,q1,q2,ql⟩,⟨z0,z1,z2,zl⟩,⟨t0,t1,t2,tl⟩,⟨x0,x1,x2,x3,x4,x5,x6,x7,x8,x9,x10⟩,xl⟩:=hcl.out w' hm1
      go_simp
      exact hK _ _ (fun _ _ _=>rfl) (Mod.refl _ _)
     ·go_simp
      exact hK _ _ (fun _ _ h=>by cases h) (Mod.refl _ _)
    ·-- 22: t112:=load(37,t4)   [guard (18,false)]
     intro yv w' hR hF K hK;have f18:(yv 18) = .bool D3:=hF 18 (by kernel_rfl) w' (Mod.refl _ _);clear hF;generalize yv 18 = y18 at *;subst f18
     cases D3
     ·have hm1:=(Mod.refl Nowhere X).drew.trans hR;obtain ⟨⟨q0,q1,q2,ql⟩,⟨z0,z1,z2,zl⟩,⟨t0,t1,t2,tl⟩,⟨x0,x1,x2,x3,x4,x5,x6,x7,x8,x9,x10⟩,xl⟩:=hcl.out w' hm1
      go_simp
      exact hK _ _ (fun _ _ _=>rfl) (Mod.refl _ _)
     ·go_simp
      exact hK _ _ (fun _ _ h=>by cases h) (Mod.refl _ _)
    ·-- 23: t113:=CALL F30 (t111,t112)   [guard (18,false)]
     intro yv w' hR hF K hK;have f21:D3 = false→(yv 21) = .agg #[.slice la ln lc,.bool av0,.slice oa om oc]:=hF 21 (by kernel_rfl) w' (Mod.refl _ _);have f22:D3 = false→(yv 22) = .agg #[.int .i64 yop,.int .i64 yid,.int .i64 ydid,.slice yva yvl.length yvc,.int .i64 yli,.int .i64 ylo,.int .i64 yhi,.slice yua yul.length yuc,.int .i64 ycl,.slice yaa yal.length yac,.slice yxb ybl.length ybc]:=hF 22 (by kernel_rfl) w' (Mod.refl _ _);have f18:(yv 18) = .bool D3:=hF 18 (by kernel_rfl) w' (Mod.refl _ _);clear hF;generalize yv 21 = y21 at *;generalize yv 22 = y22 at *;generalize yv 18 = y18 at *
     subst f18
     cases D3
     ·have e21:=f21 rfl;subst e21;have e22:=f22 rfl;subst e22;have hm1:=(Mod.refl Nowhere X).drew.trans hR;have hc:=hVe.out w' hm1;replace hc:=Lib.hid hc
      go_simp
      go_at_call 30
      refine hc.out.mono ?_;rintro e w1 ⟨u1,rfl,hq1,hm1'⟩;exact hK _ _ (fun W hW _=>hq1.fresh hW) hm1'
     ·go_simp
      exact hK _ _ (fun _ _ h=>by cases h) (Mod.refl _ _)
    ·-- 24: t114:=CALL F21 (t110,t113)   [guard (18,false)]
     intro yv w' hR hF K hK;have f20:D3 = false→(yv 20) = ptr pb':=hF 20 (by kernel_rfl) w' (Mod.refl _ _);have f23:D3 = false→QRep w' (yv 23) S3:=hF 23 (by kernel_rfl) w' (Mod.refl _ _);have f18:(yv 18) = .bool D3:=hF 18 (by kernel_rfl) w' (Mod.refl _ _);clear hF;generalize yv 20 = y20 at *;generalize yv 23 = y23 at *;generalize yv 18 = y18 at *;subst f18
     cases D3
     ·have e20:=f20 rfl;subst e20;have q23:=f23 rfl;clear f23;have hm1:=(Mod.refl Nowhere X).drew.trans hR;have hc:=hSe.out w' hm1 _ _ (q23) ok3.out;rw [hB4.out] at hc;replace hc:=Lib.hid hc
      go_simp
      go_at_call 21
      refine hc.out.mono ?_;rintro e w1 ⟨rfl,hm1'⟩;exact hK _ _ (fun _ _ _=>rfl) hm1'
     ·go_simp
      exact hK _ _ (fun _ _ h=>by cases h) (Mod.refl _ _)
    ·-- 25: t115:=pick(t108,const(Value.bool(true)),t114)
     intro yv w' hR hF K hK;have f18:(yv 18) = .bool D3:=hF 18 (by kernel_rfl) w' (Mod.refl _ _);have f24:D3 = false→(yv 24) = .bool B4:=hF 24 (by kernel_rfl) w' (Mod.refl _ _);clear hF;generalize yv 18 = y18 at *;subst f18;generalize yv 24 = y24 at *
     cases D3
     ·have e24:=f24 rfl;subst e24;have e:B4 = true:=by simpa using hD4.out
      subst e
      go_simp
      exact hK _ _ (fun _ _=>rfl) (Mod.refl _ _)
     ·go_simp
      exact hK _ _ (fun _ _=>rfl) (Mod.refl _ _)
    ·-- 26: t116:=move(t115)
     intro yv w' hR hF K hK;have f25:(yv 25) = .bool true:=hF 25 (by kernel_rfl) w' (Mod.refl _ _);have f24:D3 = false→(yv 24) = .bool B4:=hF 24 (by kernel_rfl) w' (Mod.refl _ _);clear hF;generalize yv 25 = y25 at *;subst f25;generalize yv 24 = y24 at *
     go_simp
     exact hK _ _ (fun _ _=>by first | trivial | rfl | simp [*]) (Mod.refl _ _)
    ·-- 27: t117:=CALL F17 ()   [guard (26,true)]
     intro yv w' hR hF K hK;have f26:(yv 26) = .bool true:=hF 26 (by kernel_rfl) w' (Mod.refl _ _);clear hF;generalize yv 26 = y26 at *;subst f26
     go_simp
     go_at_call 17
     refine (hE.out _).mono ?_;rintro e w1 ⟨rfl,hm1'⟩;exact hK _ _ (fun _ _=>rfl) hm1'
    ·-- 28: t118:=pick(t116,t117,const(Value.bool(false)))
     intro yv w' hR hF K hK;have f26:(yv 26) = .bool true:=hF 26 (by kernel_rfl) w' (Mod.refl _ _);have f27:(yv 27) = .bool true:=hF 27 (by kernel_rfl) w' (Mod.refl _ _);clear hF;generalize yv 26 = y26 at *;subst f26;generalize yv 27 = y27 at *;subst f27
     go_simp
     exact hK _ _ (fun _ _=>by first | trivial | rfl | simp [*]) (Mod.refl _ _)
    ·-- 29: t6:=assign(t118)
     intro yv w' hR hF K hK;have f28:(yv 28) = .bool true:=hF 28 (by kernel_rfl) w' (Mod.refl _ _);have f27:(yv 27) = .bool true:=hF 27 (by kernel_rfl) w' (Mod.refl _ _);have f0:(yv 0) = .pointer (some ⟨B,2,none⟩):=hF 0 (by kernel_rfl) w' (Mod.refl _ _);have f1:(yv 1) = ptr pb':=hF 1 (by kernel_rfl) w' (Mod.refl _ _);have f2:(yv 2) = .agg #[.slice la ln lc,.bool av0,.slice oa om oc]:=hF 2 (by kernel_rfl) w' (Mod.refl _ _);have f3:(yv 3) = .bool B1:=hF 3 (by kernel_rfl) w' (Mod.refl _ _);have f4:(yv 4) = .bool B1:=hF 4 (by kernel_rfl) w' (Mod.refl _ _);have f5:B1 = false→(yv 5) = .pointer (some ⟨B,2,none⟩):=hF 5 (by kernel_rfl) w' (Mod.refl _ _);have f6:B1 = false→(yv 6) = ptr pb':=hF 6 (by kernel_rfl) w' (Mod.refl _ _)
     have f7:B1 = false→(yv 7) = .agg #[.slice la6 ln6 lc6,.bool av6,.slice oa6 om6 oc6]:=hF 7 (by kernel_rfl) w' (Mod.refl _ _);have f8:B1 = false→(yv 8) = .bool B2:=hF 8 (by kernel_rfl) w' (Mod.refl _ _);have f9:(yv 9) = .bool D2:=hF 9 (by kernel_rfl) w' (Mod.refl _ _);have f10:(yv 10) = .bool D2:=hF 10 (by kernel_rfl) w' (Mod.refl _ _);have f11:D2 = false→(yv 11) = .pointer (some ⟨B,2,none⟩):=hF 11 (by kernel_rfl) w' (Mod.refl _ _);have f12:D2 = false→(yv 12) = ptr pb':=hF 12 (by kernel_rfl) w' (Mod.refl _ _);have f13:D2 = false→(yv 13) = .agg #[.slice la ln lc,.bool av0,.slice oa om oc]:=hF 13 (by kernel_rfl) w' (Mod.refl _ _);have f14:D2 = false→(yv 14) = .agg #[.int .i64 yop,.int .i64 yid,.int .i64 ydid,.slice yva yvl.length yvc,.int .i64 yli,.int .i64 ylo,.int .i64 yhi,.slice yua yul.length yuc,.int .i64 ycl,.slice yaa yal.length yac,.slice yxb ybl.length ybc]:=hF 14 (by kernel_rfl) w' (Mod.refl _ _)
     have f15:D2 = false→QRep w' (yv 15) S2:=hF 15 (by kernel_rfl) w' (Mod.refl _ _);have f16:D2 = false→(yv 16) = .bool B3:=hF 16 (by kernel_rfl) w' (Mod.refl _ _);have f17:(yv 17) = .bool D3:=hF 17 (by kernel_rfl) w' (Mod.refl _ _);have f18:(yv 18) = .bool D3:=hF 18 (by kernel_rfl) w' (Mod.refl _ _);have f19:D3 = false→(yv 19) = .pointer (some ⟨B,2,none⟩):=hF 19 (by kernel_rfl) w' (Mod.refl _ _);have f20:D3 = false→(yv 20) = ptr pb':=hF 20 (by kernel_rfl) w' (Mod.refl _ _);have f21:D3 = false→(yv 21) = .agg #[.slice la ln lc,.bool av0,.slice oa om oc]:=hF 21 (by kernel_rfl) w' (Mod.refl _ _);have f22:D3 = false→(yv 22) = .agg #[.int .i64 yop,.int .i64 yid,.int .i64 ydid,.slice yva yvl.length yvc,.int .i64 yli,.int .i64 ylo,.int .i64 yhi,.slice yua yul.length yuc,.int .i64 ycl,.slice yaa yal.length yac,.slice yxb ybl.length ybc]:=hF 22 (by kernel_rfl) w' (Mod.refl _ _)
     have f23:D3 = false→QRep w' (yv 23) S3:=hF 23 (by kernel_rfl) w' (Mod.refl _ _);have f24:D3 = false→(yv 24) = .bool B4:=hF 24 (by kernel_rfl) w' (Mod.refl _ _);have f25:(yv 25) = .bool true:=hF 25 (by kernel_rfl) w' (Mod.refl _ _);have f26:(yv 26) = .bool true:=hF 26 (by kernel_rfl) w' (Mod.refl _ _);clear hF;generalize yv 28 = y28 at *;subst f28;generalize yv 27 = y27 at *;subst f27;generalize yv 0 = y0 at *;subst f0;generalize yv 1 = y1 at *;subst f1;generalize yv 2 = y2 at *;subst f2;generalize yv 3 = y3 at *;subst f3;generalize yv 4 = y4 at *;subst f4;generalize yv 5 = y5 at *
     generalize yv 6 = y6 at *;generalize yv 7 = y7 at *;generalize yv 8 = y8 at *;generalize yv 9 = y9 at *;subst f9;generalize yv 10 = y10 at *;subst f10;generalize yv 11 = y11 at *;generalize yv 12 = y12 at *;generalize yv 13 = y13 at *;generalize yv 14 = y14 at *;generalize yv 15 = y15 at *;generalize yv 16 = y16 at *;generalize yv 17 = y17 at *;subst f17;generalize yv 18 = y18 at *;subst f18;generalize yv 19 = y19 at *;generalize yv 20 = y20 at *;generalize yv 21 = y21 at *;generalize yv 22 = y22 at *;generalize yv 23 = y23 at *;generalize yv 24 = y24 at *;generalize yv 25 = y25 at *;subst f25
     generalize yv 26 = y26 at *;subst f26
     go_simp
     exact hK _ _ (fun _ _=>by first | trivial | rfl | simp [*]) (Mod.refl _ _)
   case hE_ =>
    intro yv w' hR hF;have f0:(yv 0) = .pointer (some ⟨B,2,none⟩):=hF 0 (by simp) w' (Mod.refl _ _);have f1:(yv 1) = ptr pb':=hF 1 (by simp) w' (Mod.refl _ _);have f2:(yv 2) = .agg #[.slice la ln lc,.bool av0,.slice oa om oc]:=hF 2 (by simp) w' (Mod.refl _ _);have f3:(yv 3) = .bool B1:=hF 3 (by simp) w' (Mod.refl _ _);have f4:(yv 4) = .bool B1:=hF 4 (by simp) w' (Mod.refl _ _);have f5:B1 = false→(yv 5) = .pointer (some ⟨B,2,none⟩):=hF 5 (by simp) w' (Mod.refl _ _);have f6:B1 = false→(yv 6) = ptr pb':=hF 6 (by simp) w' (Mod.refl _ _);have f7:B1 = false→(yv 7) = .agg #[.slice la6 ln6 lc6,.bool av6,.slice oa6 om6 oc6]:=hF 7 (by simp) w' (Mod.refl _ _);have f8:B1 = false→(yv 8) = .bool B2:=hF 8 (by simp) w' (Mod.refl _ _)
    have f9:(yv 9) = .bool D2:=hF 9 (by simp) w' (Mod.refl _ _);have f10:(yv 10) = .bool D2:=hF 10 (by simp) w' (Mod.refl _ _);have f11:D2 = false→(yv 11) = .pointer (some ⟨B,2,none⟩):=hF 11 (by simp) w' (Mod.refl _ _);have f12:D2 = false→(yv 12) = ptr pb':=hF 12 (by simp) w' (Mod.refl _ _);have f13:D2 = false→(yv 13) = .agg #[.slice la ln lc,.bool av0,.slice oa om oc]:=hF 13 (by simp) w' (Mod.refl _ _);have f14:D2 = false→(yv 14) = .agg #[.int .i64 yop,.int .i64 yid,.int .i64 ydid,.slice yva yvl.length yvc,.int .i64 yli,.int .i64 ylo,.int .i64 yhi,.slice yua yul.length yuc,.int .i64 ycl,.slice yaa yal.length yac,.slice yxb ybl.length ybc]:=hF 14 (by simp) w' (Mod.refl _ _);have f15:D2 = false→QRep w' (yv 15) S2:=hF 15 (by simp) w' (Mod.refl _ _)
    have f16:D2 = false→(yv 16) = .bool B3:=hF 16 (by simp) w' (Mod.refl _ _);have f17:(yv 17) = .bool D3:=hF 17 (by simp) w' (Mod.refl _ _);have f18:(yv 18) = .bool D3:=hF 18 (by simp) w' (Mod.refl _ _);have f19:D3 = false→(yv 19) = .pointer (some ⟨B,2,none⟩):=hF 19 (by simp) w' (Mod.refl _ _);have f20:D3 = false→(yv 20) = ptr pb':=hF 20 (by simp) w' (Mod.refl _ _);have f21:D3 = false→(yv 21) = .agg #[.slice la ln lc,.bool av0,.slice oa om oc]:=hF 21 (by simp) w' (Mod.refl _ _);have f22:D3 = false→(yv 22) = .agg #[.int .i64 yop,.int .i64 yid,.int .i64 ydid,.slice yva yvl.length yvc,.int .i64 yli,.int .i64 ylo,.int .i64 yhi,.slice yua yul.length yuc,.int .i64 ycl,.slice yaa yal.length yac,.slice yxb ybl.length ybc]:=hF 22 (by simp) w' (Mod.refl _ _);have f23:D3 = false→QRep w' (yv 23) S3:=hF 23 (by simp) w' (Mod.refl _ _)
    have f24:D3 = false→(yv 24) = .bool B4:=hF 24 (by simp) w' (Mod.refl _ _);have f25:(yv 25) = .bool true:=hF 25 (by simp) w' (Mod.refl _ _);have f26:(yv 26) = .bool true:=hF 26 (by simp) w' (Mod.refl _ _);have f27:(yv 27) = .bool true:=hF 27 (by simp) w' (Mod.refl _ _);have f28:(yv 28) = .bool true:=hF 28 (by simp) w' (Mod.refl _ _);have f29:(yv 29) = .bool true:=hF 29 (by simp) w' (Mod.refl _ _);clear hF;generalize yv 0 = y0 at *;subst f0;generalize yv 1 = y1 at *;subst f1;generalize yv 2 = y2 at *;subst f2;generalize yv 3 = y3 at *;subst f3;generalize yv 4 = y4 at *
    subst f4;generalize yv 5 = y5 at *;generalize yv 6 = y6 at *;generalize yv 7 = y7 at *;generalize yv 8 = y8 at *;generalize yv 9 = y9 at *;subst f9;generalize yv 10 = y10 at *;subst f10;generalize yv 11 = y11 at *;generalize yv 12 = y12 at *;generalize yv 13 = y13 at *;generalize yv 14 = y14 at *;generalize yv 15 = y15 at *;generalize yv 16 = y16 at *;generalize yv 17 = y17 at *;subst f17;generalize yv 18 = y18 at *;subst f18;generalize yv 19 = y19 at *;generalize yv 20 = y20 at *;generalize yv 21 = y21 at *;generalize yv 22 = y22 at *;generalize yv 23 = y23 at *;generalize yv 24 = y24 at *
    generalize yv 25 = y25 at *;subst f25;generalize yv 26 = y26 at *;subst f26;generalize yv 27 = y27 at *;subst f27;generalize yv 28 = y28 at *;subst f28;generalize yv 29 = y29 at *;subst f29;have hfin:=hbl.out _ ((hm0F.out.trans hmX.out).trans ((Mod.refl Nowhere X).drew.trans hR));replace hfin:=Lib.hid hfin;go_wp2;go_ret;exact ⟨rfl,hfin.out⟩
end Go.Proofs.YtjanpegbemepgaaGreat
