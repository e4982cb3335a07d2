/-
  Requests, valid or not: the reference's Check.
-/
import Derived.Test.YtanioleniadhoaaGreatAInrq
set_option linter.unusedVariables false
set_option linter.unusedSimpArgs false
set_option maxHeartbeats 8000000
set_option maxRecDepth 100000
namespace Go.Proofs.YtanioleniadhoaaGreat
open Go.RowKit
open Jn Tk
attribute [local go_sem] Oper.semAt_some
section
variable (w : World)
theorem rName_ok {p:Nat} (hp:p≤2) (a:Option Addr) (n c:Nat):Calls Tryz.prog 85 #[.slice a n c,.int .i64 (p:Int)] w fun e w'=>e = .returned (.bool (nm n p))∧Mod Nowhere w w':=by
 by_cases h0:n = 0
 ·have g0:(n:Int) = 0:=by omega
  have q:nm n p = (p != 2):=by unfold nm;rw [if_pos h0]
  rw [q];rcases (show p = 0 ∨ p = 1 ∨ p = 2 by omega) with rfl | rfl | rfl
  all_goals
   go_enter Tryz.func85,Tryz.ntmps85;go_wp2;go_ret;exact ⟨rfl,Mod.refl _ _⟩
 ·have g0:¬ (n:Int) = 0:=by omega
  rcases (show p = 0 ∨ p = 1 ∨ p = 2 by omega) with rfl | rfl | rfl
  ·have q:nm n 0 = false:=by unfold nm;rw [if_neg h0];rfl
   rw [q];go_enter Tryz.func85,Tryz.ntmps85;go_wp2;go_ret;exact ⟨rfl,Mod.refl _ _⟩
  all_goals
   by_cases h1:5≤n
   ·have g1:(5:Int)≤n:=by omega
    have q:nm n 2 = decide ((n:Int)≤16):=by
     unfold nm;rw [if_neg h0]
     show (true && _) = _
     rw [Bool.true_and];exact decide_eq_decide.2 (by omega)
    have q1:nm n 1 = decide ((n:Int)≤16):=by
     unfold nm;rw [if_neg h0]
     show (true && _) = _
     rw [Bool.true_and];exact decide_eq_decide.2 (by omega)
    first | rw [q] | rw [q1]
    go_enter Tryz.func85,Tryz.ntmps85;go_wp2;go_ret;exact ⟨rfl,Mod.refl _ _⟩
   ·have g1:¬ (5:Int)≤n:=by omega
    have q:nm n 2 = false:=by
     unfold nm;rw [if_neg h0,decide_eq_false (by omega)]
     rfl
    have q1:nm n 1 = false:=by
     unfold nm;rw [if_neg h0,decide_eq_false (by omega)]
     rfl
    first | rw [q] | rw [q1]
    go_enter Tryz.func85,Tryz.ntmps85;go_wp2;go_ret;exact ⟨rfl,Mod.refl _ _⟩
end
theorem rq_box {w:World} (cs:List Value):∀ W,Mod Nowhere (w.alloc (.cells cs.toArray 24)) W→Blk W w.heap.size cs 24:=fun W hm=>(Blk.new w cs 24).mod hm id
theorem rq_cells {W:World} {B:Nat} {c0 c1 c2 c3 c4 c5 c6 c7:Value} (h:Blk W B [c0,c1,c2,c3,c4,c5,c6,c7] 24):W.cell? ⟨B,0,none⟩ = some c0∧W.cell? ⟨B,1,none⟩ = some c1∧W.cell? ⟨B,2,none⟩ = some c2∧W.cell? ⟨B,3,none⟩ = some c3∧W.cell? ⟨B,4,none⟩ = some c4∧W.cell? ⟨B,5,none⟩ = some c5∧W.cell? ⟨B,6,none⟩ = some c6∧W.cell? ⟨B,7,none⟩ = some c7∧B < W.heap.size :=
 ⟨h.cell 0,h.cell 1,h.cell 2,h.cell 3,h.cell 4,h.cell 5,h.cell 6,h.cell 7,h.lt⟩
theorem ff_le (act:Int):fPk act≤2∧fAp act≤2∧fTo act≤2∧fPr act≤2∧fPa act≤2∧fHa act≤2:=by
 unfold fPk fAp fTo fPr fPa fHa;refine ⟨?_,?_,?_,?_,?_,?_⟩ <;> repeat' split
 all_goals omega
section
variable {w : World} {a1 a2 a3 a4 a6 a7 : Option Addr} {n1 c1 n2 c2 n3 c3 n4 c4 n6 c6 n7 c7 : Nat}
theorem tCheck_bad {act:Int} (hact:¬ (1≤act∧act≤4)) (prv:Int):Calls Tryz.prog 21 #[.agg #[.int .i64 act,.slice a1 n1 c1,.slice a2 n2 c2,.slice a3 n3 c3,.slice a4 n4 c4,.int .i64 prv,.slice a6 n6 c6,.slice a7 n7 c7]] w fun e w'=>e = .returned (errno 1)∧Mod Nowhere w w':=by
 have hm0:Mod Nowhere w (w.alloc (.cells #[.int .i64 act,.slice a1 n1 c1,.slice a2 n2 c2,.slice a3 n3 c3,.slice a4 n4 c4,.int .i64 prv,.slice a6 n6 c6,.slice a7 n7 c7] 24)):=(Mod.refl _ w).alloc _;have hbx:=rq_box (w:=w) [.int .i64 act,.slice a1 n1 c1,.slice a2 n2 c2,.slice a3 n3 c3,.slice a4 n4 c4,.int .i64 prv,.slice a6 n6 c6,.slice a7 n7 c7];obtain ⟨y0,y1,y2,y3,y4,y5,y6,y7,yl⟩:=rq_cells (hbx _ (Mod.refl _ _));have hF:=tFields_ok (w.alloc (.cells #[.int .i64 act,.slice a1 n1 c1,.slice a2 n2 c2,.slice a3 n3 c3,.slice a4 n4 c4,.int .i64 prv,.slice a6 n6 c6,.slice a7 n7 c7] 24)) act;refine hid3 ?_ hF hm0 hbx;clear hF hm0 hbx;intro hF hm0 hbx
 go_enter Tryz.func21,Tryz.ntmps21;go_wp2_with fail;refine hF.out.mono ?_;rintro e w1 ⟨-,h2,hm1⟩;obtain rfl:=h2 hact;have hm:=hm0.out.trans hm1;obtain ⟨x0,x1,x2,x3,x4,x5,x6,x7,xl⟩:=rq_cells (hbx.out w1 hm1);clear y0 y1 y2 y3 y4 y5 y6 y7 yl h2;refine hid2 ?_ hm hm1;clear hm hm1;intro hm hm1;go_wp2;go_ret;exact ⟨rfl,hm.out.alloc _⟩
theorem tCheck_good {act:Int} (hact:1≤act∧act≤4) (prv:Int):Calls Tryz.prog 21 #[.agg #[.int .i64 act,.slice a1 n1 c1,.slice a2 n2 c2,.slice a3 n3 c3,.slice a4 n4 c4,.int .i64 prv,.slice a6 n6 c6,.slice a7 n7 c7]] w fun e w'=>e = .returned (errno (chkN act prv n1 n2 n3 n4 n6 n7:Nat))∧Mod Nowhere w w':=by
 have hm0:Mod Nowhere w (w.alloc (.cells #[.int .i64 act,.slice a1 n1 c1,.slice a2 n2 c2,.slice a3 n3 c3,.slice a4 n4 c4,.int .i64 prv,.slice a6 n6 c6,.slice a7 n7 c7] 24)):=(Mod.refl _ w).alloc _;have hbx:=rq_box (w:=w) [.int .i64 act,.slice a1 n1 c1,.slice a2 n2 c2,.slice a3 n3 c3,.slice a4 n4 c4,.int .i64 prv,.slice a6 n6 c6,.slice a7 n7 c7];obtain ⟨y0,y1,y2,y3,y4,y5,y6,y7,yl⟩:=rq_cells (hbx _ (Mod.refl _ _));have hF:=tFields_ok (w.alloc (.cells #[.int .i64 act,.slice a1 n1 c1,.slice a2 n2 c2,.slice a3 n3 c3,.slice a4 n4 c4,.int .i64 prv,.slice a6 n6 c6,.slice a7 n7 c7] 24)) act;rw [chk_F hact.1 hact.2]
 obtain ⟨l1,l2,l3,l4,l5,l6⟩:=ff_le act;unfold fAgg at hF;generalize fPk act = f1 at *;generalize fAp act = f2 at *;generalize fTo act = f3 at *;generalize fPr act = f4 at *;generalize fPa act = f5 at *;generalize fHa act = f6 at *;have hI:=fun W=>tIdent_ok W a1 n1 c1;have hN2:=fun W=>tField_ok W l1 a2 n2 c2;have hN3:=fun W=>tField_ok W l2 a3 n3 c3;have hN4:=fun W=>tField_ok W l3 a4 n4 c4;have hG1:=fun W=>tFits_ok W l4 (!decide (prv = 0));have hG2:=fun W=>tFits_ok W l5 (decide (0 < n6));have hG3:=fun W=>tFits_ok W l6 (decide (0 < n7));have hz:(prv != 0) = !decide (prv = 0):=by by_cases hx:prv = 0 <;> simp [hx]
 have h255:((255:Int) < (n6:Int)) ↔ 255 < n6:=by omega
 have h70:((n7:Int) != 0) = !decide (n7 = 0):=by by_cases hx:n7 = 0 <;> simp [hx]
 have h716:((n7:Int) != 16) = !decide (n7 = 16):=by
  by_cases hx:n7 = 16
  ·simp [hx]
  ·rw [decide_eq_false hx];simp;omega
 obtain ⟨R,hR⟩:∃ R,chkF (idB n1) (nm n2 f1) (nm n3 f2) (nm n4 f3) (decide (prv < 0)) (decide (31 < prv)) (fitB f4 (!decide (prv = 0))) (decide (255 < n6)) (fitB f5 (decide (0 < n6))) (!decide (n7 = 0) && !decide (n7 = 16)) (fitB f6 (decide (0 < n7))) = R:=⟨_,rfl⟩;rw [hR];generalize fitB f4 (!decide (prv = 0)) = g1 at *;generalize fitB f5 (decide (0 < n6)) = g2 at *;generalize fitB f6 (decide (0 < n7)) = g3 at *;generalize idB n1 = b1 at *;generalize nm n2 f1 = b2 at *;generalize nm n3 f2 = b3 at *;generalize nm n4 f3 = b4 at *;generalize decide (prv = 0) = r0 at *;generalize decide (n7 = 0) = e70 at *
 generalize decide (n7 = 16) = e716 at *;refine hid11 ?_ hF hm0 hbx hI hN2 hN3 hN4 hG1 hG2 hG3 hR;clear hF hm0 hbx hI hN2 hN3 hN4 hG1 hG2 hG3 hR;intro hF hm0 hbx hI hN2 hN3 hN4 hG1 hG2 hG3 hR;go_enter Tryz.func21,Tryz.ntmps21;go_wp2_with fail;refine hF.out.mono ?_;rintro e w1 ⟨h2,-,hm1⟩;obtain rfl:=h2 hact;have hm:=(hm0.out.trans hm1).alloc (.cells #[.int .i64 f1,.int .i64 f2,.int .i64 f3,.int .i64 f4,.int .i64 f5,.int .i64 f6] 144);obtain ⟨x0,x1,x2,x3,x4,x5,x6,x7,xl⟩:=rq_cells (hbx.out w1 hm1);clear y0 y1 y2 y3 y4 y5 y6 y7 yl h2;refine hid2 ?_ hm hm1;clear hm hm1;intro hm hm1
 go_wp2_with fail;refine (hI.out _).mono ?_;rintro e w2 ⟨rfl,rfl⟩
 cases b1
 ·go_wp2;go_ret;exact ⟨ret_val (by rw [← hR.out];rfl),hm.out⟩
 go_wp2_with fail;refine (hN2.out _).mono ?_;rintro e w2 ⟨rfl,rfl⟩
 cases b2
 ·go_wp2;go_ret;exact ⟨ret_val (by rw [← hR.out];rfl),hm.out⟩
 go_wp2_with fail;refine (hN3.out _).mono ?_;rintro e w2 ⟨rfl,rfl⟩
 cases b3
 ·go_wp2;go_ret;exact ⟨ret_val (by rw [← hR.out];rfl),hm.out⟩
 go_wp2_with fail;refine (hN4.out _).mono ?_;rintro e w2 ⟨rfl,rfl⟩
 cases b4
 ·go_wp2;go_ret;exact ⟨ret_val (by rw [← hR.out];rfl),hm.out⟩
 by_cases p1:prv < 0
 ·go_wp2;go_ret;exact ⟨ret_val (by rw [← hR.out,show decide (prv < 0) = true from decide_eq_true (by omega)];rfl),hm.out⟩
 by_cases p2:31 < prv
 ·go_wp2;go_ret;exact ⟨ret_val (by rw [← hR.out,show decide (prv < 0) = false from decide_eq_false (by omega),show decide (31 < prv) = true from decide_eq_true (by omega)];rfl),hm.out⟩
 go_wp2_with fail;refine (hG1.out _).mono ?_;rintro e w2 ⟨rfl,rfl⟩
 cases g1
 ·go_wp2;go_ret;exact ⟨ret_val (by rw [← hR.out,show decide (prv < 0) = false from decide_eq_false (by omega),show decide (31 < prv) = false from decide_eq_false (by omega)];rfl),hm.out⟩
 by_cases p3:255 < n6
 ·have p3i:=h255.2 p3;go_wp2;go_ret;exact ⟨ret_val (by rw [← hR.out,show decide (prv < 0) = false from decide_eq_false (by omega),show decide (31 < prv) = false from decide_eq_false (by omega),show decide (255 < n6) = true from decide_eq_true (by omega)];rfl),hm.out⟩
 have p3i:¬ (255:Int) < (n6:Int):=fun e=>p3 (h255.1 e);go_wp2_with fail;refine (hG2.out _).mono ?_;rintro e w2 ⟨rfl,rfl⟩
 cases g2
 ·go_wp2;go_ret;exact ⟨ret_val (by rw [← hR.out,show decide (prv < 0) = false from decide_eq_false (by omega),show decide (31 < prv) = false from decide_eq_false (by omega),show decide (255 < n6) = false from decide_eq_false (by omega)];rfl),hm.out⟩
 cases e70
 ·cases e716
  ·go_wp2;go_ret;exact ⟨ret_val (by rw [← hR.out,show decide (prv < 0) = false from decide_eq_false (by omega),show decide (31 < prv) = false from decide_eq_false (by omega),show decide (255 < n6) = false from decide_eq_false (by omega)];rfl),hm.out⟩
  go_wp2_with fail;refine (hG3.out _).mono ?_;rintro e w2 ⟨rfl,rfl⟩
  cases g3
  all_goals
   go_wp2;go_ret;exact ⟨ret_val (by rw [← hR.out,show decide (prv < 0) = false from decide_eq_false (by omega),show decide (31 < prv) = false from decide_eq_false (by omega),show decide (255 < n6) = false from decide_eq_false (by omega)];rfl),hm.out⟩
 go_wp2_with fail;refine (hG3.out _).mono ?_;rintro e w2 ⟨rfl,rfl⟩
 cases g3
 all_goals
  go_wp2;go_ret;exact ⟨ret_val (by rw [← hR.out,show decide (prv < 0) = false from decide_eq_false (by omega),show decide (31 < prv) = false from decide_eq_false (by omega),show decide (255 < n6) = false from decide_eq_false (by omega)];rfl),hm.out⟩
end
section
variable {w : World} {x : RqV}
theorem tCheck_ok (h:RqAt w x):Calls Tryz.prog 21 #[.agg x.cells.toArray] w fun e w'=>e = .returned (errno (x.r.chk:Nat))∧Mod Nowhere w w':=by
 obtain ⟨v1,v2,v3,v4,v6,v7,r⟩:=x;obtain ⟨h1,h2,h3,h4,h6,h7,-⟩:=h;dsimp only at h1 h2 h3 h4 h6 h7 ⊢;obtain ⟨a1,c1,rfl,-⟩:=h1;obtain ⟨a2,c2,rfl,-⟩:=h2;obtain ⟨a3,c3,rfl,-⟩:=h3;obtain ⟨a4,c4,rfl,-⟩:=h4;obtain ⟨a6,c6,rfl,-⟩:=h6;obtain ⟨a7,c7,rfl,-⟩:=h7;by_cases hact:1≤r.act∧r.act≤4
 ·exact tCheck_good hact r.prv
 ·have:r.chk = 1:=by unfold Rq.chk chkN;rw [if_pos (by omega)]
  rw [this];exact tCheck_bad hact r.prv
end
section
variable {w : World} {a1 a2 a3 a4 a6 a7 : Option Addr} {n1 c1 n2 c2 n3 c3 n4 c4 n6 c6 n7 c7 : Nat}
theorem rCheck38_bad {act:Int} (hact:¬ (1≤act∧act≤4)) (prv:Int):Calls Tryz.prog 22 #[.agg #[.int .i64 act,.slice a1 n1 c1,.slice a2 n2 c2,.slice a3 n3 c3,.slice a4 n4 c4,.int .i64 prv,.slice a6 n6 c6,.slice a7 n7 c7]] w fun e w'=>e = .returned (errno 1)∧Mod Nowhere w w':=by
 have hm0:Mod Nowhere w (w.alloc (.cells #[.int .i64 act,.slice a1 n1 c1,.slice a2 n2 c2,.slice a3 n3 c3,.slice a4 n4 c4,.int .i64 prv,.slice a6 n6 c6,.slice a7 n7 c7] 24)):=(Mod.refl _ w).alloc _;have hbx:=rq_box (w:=w) [.int .i64 act,.slice a1 n1 c1,.slice a2 n2 c2,.slice a3 n3 c3,.slice a4 n4 c4,.int .i64 prv,.slice a6 n6 c6,.slice a7 n7 c7];obtain ⟨y0,y1,y2,y3,y4,y5,y6,y7,yl⟩:=rq_cells (hbx _ (Mod.refl _ _));refine hid2 ?_ hm0 hbx;clear hm0 hbx;intro hm0 hbx;by_cases h1:act < 1
 ·go_enter Tryz.func22,Tryz.ntmps22;go_wp2;go_ret;exact ⟨rfl,hm0.out⟩
 ·have h4:4 < act:=by omega
  go_enter Tryz.func22,Tryz.ntmps22;go_wp2;go_ret;exact ⟨rfl,hm0.out⟩
theorem rNames_ok (w:World) (act:Int):Calls Tryz.prog 84 #[.int .i64 act] w fun e w'=>e = .returned (.slice (some ⟨w.heap.size,0,none⟩) 3 3)∧Blk w' w.heap.size [.int .i64 ((nms act).1:Nat),.int .i64 ((nms act).2.1:Nat),.int .i64 ((nms act).2.2:Nat)] 3∧Mod Nowhere w w':=by
 have hb:∀ x y z:Nat,Blk (w.alloc (.cells #[.int .i64 (x:Int),.int .i64 (y:Int),.int .i64 (z:Int)] 3)) w.heap.size [.int .i64 (x:Int),.int .i64 (y:Int),.int .i64 (z:Int)] 3:=fun x y z=>Blk.new w _ _;have hm:∀ x y z:Nat,Mod Nowhere w (w.alloc (.cells #[.int .i64 (x:Int),.int .i64 (y:Int),.int .i64 (z:Int)] 3)):=fun x y z=>(Mod.refl _ w).alloc _;unfold nms;refine hid2 ?_ hb hm;clear hb hm;intro hb hm;by_cases h1:act = 1
 ·subst h1;go_enter Tryz.func84,Tryz.ntmps84;go_wp2;go_ret;exact ⟨rfl,hb.out 2 0 2,hm.out 2 0 2⟩
 by_cases h2:act = 2
 ·subst h2;go_enter Tryz.func84,Tryz.ntmps84;go_wp2;go_ret;exact ⟨rfl,hb.out 1 2 0,hm.out 1 2 0⟩
 by_cases h3:act = 3
 ·subst h3;go_enter Tryz.func84,Tryz.ntmps84;go_wp2;go_ret;exact ⟨rfl,hb.out 0 2 2,hm.out 0 2 2⟩
 rw [if_neg h1,if_neg h2,if_neg h3];go_enter Tryz.func84,Tryz.ntmps84;go_wp2;go_ret;exact ⟨rfl,hb.out 0 2 0,hm.out 0 2 0⟩
end
namespace Tk
def chkR (b1 b2 b3 b4 p1 p2 r0 k1 k2 l1 l2 h0 h16:Bool):Nat :=
 if b1 = false then 4 else if b2 = false then 4 else if b3 = false then 4 else if b4 = false then 4 else
 if p1 = true then 2 else if p2 = true then 2 else if (!r0 && !k2) = true then 4 else if l1 = true then 3 else if (l2 && (!k1 && !k2)) = true then 4 else if (h0 && (!h16 || !k1)) = true then 4 else 0
theorem chk_R {act:Int} (h1:1≤act) (h4:act≤4) (prv:Int) (nd np na nt npar nh:Nat):chkN act prv nd np na nt npar nh =
  chkR (nm nd 2) (nm np (nms act).1) (nm na (nms act).2.1) (nm nt (nms act).2.2) (decide (prv < 0)) (decide (31 < prv)) (decide (prv = 0)) (decide (act = 1)) (decide (act = 2)) (decide (255 < npar)) (decide (0 < npar)) (decide (0 < nh)) (decide (nh = 16)):=by
 unfold chkN chkR;rw [if_neg (show ¬ (act < 1 ∨ 4 < act) by omega)];generalize nm nd 2 = b1;generalize nm np (nms act).1 = b2;generalize nm na (nms act).2.1 = b3;generalize nm nt (nms act).2.2 = b4
 cases b1 <;> cases b2 <;> cases b3 <;> cases b4 <;> simp only [Bool.and_true,Bool.and_false,Bool.true_and,Bool.false_and,if_true,Bool.true_eq_false,if_false,reduceIte]
 by_cases a1:prv < 0
 ·rw [if_pos (.inl a1)];simp [a1]
 ·by_cases a2:31 < prv
  ·rw [if_pos (.inr a2)];simp [a1,a2]
  ·rw [if_neg (by omega)];simp [a1,a2]
theorem nms_le (act:Int):(nms act).1≤2∧(nms act).2.1≤2∧(nms act).2.2≤2:=by
 unfold nms
 repeat' split
 all_goals exact ⟨by decide,by decide,by decide⟩
end Tk
section
variable {w : World} {a1 a2 a3 a4 a6 a7 : Option Addr} {n1 c1 n2 c2 n3 c3 n4 c4 n6 c6 n7 c7 : Nat}
theorem rCheck38_good {act:Int} (hact:1≤act∧act≤4) (prv:Int):Calls Tryz.prog 22 #[.agg #[.int .i64 act,.slice a1 n1 c1,.slice a2 n2 c2,.slice a3 n3 c3,.slice a4 n4 c4,.int .i64 prv,.slice a6 n6 c6,.slice a7 n7 c7]] w fun e w'=>e = .returned (errno (chkN act prv n1 n2 n3 n4 n6 n7:Nat))∧Mod Nowhere w w':=by
 have hm0:Mod Nowhere w (w.alloc (.cells #[.int .i64 act,.slice a1 n1 c1,.slice a2 n2 c2,.slice a3 n3 c3,.slice a4 n4 c4,.int .i64 prv,.slice a6 n6 c6,.slice a7 n7 c7] 24)):=(Mod.refl _ w).alloc _;have hbx:=rq_box (w:=w) [.int .i64 act,.slice a1 n1 c1,.slice a2 n2 c2,.slice a3 n3 c3,.slice a4 n4 c4,.int .i64 prv,.slice a6 n6 c6,.slice a7 n7 c7];obtain ⟨y0,y1,y2,y3,y4,y5,y6,y7,yl⟩:=rq_cells (hbx _ (Mod.refl _ _));have hF:=rNames_ok (w.alloc (.cells #[.int .i64 act,.slice a1 n1 c1,.slice a2 n2 c2,.slice a3 n3 c3,.slice a4 n4 c4,.int .i64 prv,.slice a6 n6 c6,.slice a7 n7 c7] 24)) act;rw [chk_R hact.1 hact.2]
 obtain ⟨l1,l2,l3⟩:=nms_le act;have k1:¬ act < 1:=by omega
 have k4:¬ 4 < act:=by omega
 have q1:(act != 1) = !decide (act = 1):=by by_cases hx:act = 1 <;> simp [hx]
 have q2:(act != 2) = !decide (act = 2):=by by_cases hx:act = 2 <;> simp [hx]
 generalize (nms act).1 = f1 at *;generalize (nms act).2.1 = f2 at *;generalize (nms act).2.2 = f3 at *;have hN1:=fun W=>rName_ok W (p:=2) (by decide) a1 n1 c1;have hN2:=fun W=>rName_ok W l1 a2 n2 c2;have hN3:=fun W=>rName_ok W l2 a3 n3 c3;have hN4:=fun W=>rName_ok W l3 a4 n4 c4;have hz:(prv != 0) = !decide (prv = 0):=by by_cases hx:prv = 0 <;> simp [hx]
 have hd6:((0:Int) < (n6:Int)) ↔ 0 < n6:=by omega
 have hd7:((0:Int) < (n7:Int)) ↔ 0 < n7:=by omega
 have h255:((255:Int) < (n6:Int)) ↔ 255 < n6:=by omega
 have h716:((n7:Int) != 16) = !decide (n7 = 16):=by
  by_cases hx:n7 = 16
  ·simp [hx]
  ·rw [decide_eq_false hx];simp;omega
 obtain ⟨R,hR⟩:∃ R,chkR (nm n1 2) (nm n2 f1) (nm n3 f2) (nm n4 f3) (decide (prv < 0)) (decide (31 < prv)) (decide (prv = 0)) (decide (act = 1)) (decide (act = 2)) (decide (255 < n6)) (decide (0 < n6)) (decide (0 < n7)) (decide (n7 = 16)) = R:=⟨_,rfl⟩;rw [hR];generalize nm n1 2 = b1 at *;generalize nm n2 f1 = b2 at *;generalize nm n3 f2 = b3 at *;generalize nm n4 f3 = b4 at *;generalize decide (prv = 0) = r0 at *;generalize decide (act = 1) = ka at *;generalize decide (act = 2) = kb at *;generalize decide (n7 = 16) = e716 at *;refine hid8 ?_ hF hm0 hbx hN1 hN2 hN3 hN4 hR;clear hF hm0 hbx hN1 hN2 hN3 hN4 hR;intro hF hm0 hbx hN1 hN2 hN3 hN4 hR
 go_enter Tryz.func22,Tryz.ntmps22;go_wp2_with fail;refine hF.out.mono ?_;rintro e w1 ⟨rfl,hbn,hm1⟩;have hm:=hm0.out.trans hm1
 have hcn:∀ W,Mod Nowhere w1 W→W.cell? ⟨w.heap.size + 1,0,none⟩ = some (.int .i64 (f1:Int))∧W.cell? ⟨w.heap.size + 1,1,none⟩ = some (.int .i64 (f2:Int))∧W.cell? ⟨w.heap.size + 1,2,none⟩ = some (.int .i64 (f3:Int)):=fun W hW=>by
  have hb':=hbn.mod hW id;rw [World.size_alloc] at hb';exact ⟨hb'.cell 0,hb'.cell 1,hb'.cell 2⟩
 have hcx:=fun W hW=>rq_cells (hbx.out W (hm1.trans hW));obtain ⟨x0,x1,x2,x3,x4,x5,x6,x7,xl⟩:=hcx w1 (Mod.refl _ _);clear y0 y1 y2 y3 y4 y5 y6 y7 yl hbn;rw [World.size_alloc];refine hid4 ?_ hm hm1 hcn hcx;clear hm hm1 hcn hcx;intro hm hm1 hcn hcx;go_wp2_with fail;have hQ:=hR.out;clear hR;replace hQ:=Lib.hid hQ
 cases b1
 ·skip
  refine wp_region_vals (fun i=>match i with | 0=>some (.pointer (some ⟨w.heap.size,1,none⟩)) | 1=>some (.slice a1 n1 c1) | 2=>some (.bool false) | 3=>some (.bool true) | 4=>some (.bool true) | 12=>some (.bool true) | 13=>some (.bool true) | 21=>some (.bool true) | 22=>some (.bool true) | 30=>some (.bool true) | _=>none) (fun i=>match i with | 1=>[0] | 2=>[1] | 3=>[2] | 4=>[3,2] | 5=>[4] | 6=>[4] | 7=>[4] | 8=>[4] | 9=>[4] | 10=>[4] | 11=>[4] | 12=>[4] | 13=>[12] | 14=>[13] | 15=>[13] | 16=>[13] | 17=>[13] | 18=>[13] | 19=>[13] | 20=>[13] | 21=>[13] | 22=>[21] | 23=>[22] | 24=>[22] | 25=>[22] | 26=>[22] | 27=>[22] | 28=>[22] | 29=>[22] | 30=>[22] | _=>[]) 31 (fun _ _ _=>True) ?A_4_0 (by first | assumption | kernel_rfl) (by kernel_rfl) (by kernel_rfl) (by kernel_rfl) (by rfl) ?hA_4_0 ?hS_4_0 ?hE_4_0
  case hA_4_0=>intro xs;simp [putAll,List.range,List.range.loop,Act.put] <;> rfl
  case hS_4_0 =>
   refine ⟨?_,?q1_4_0,?q2_4_0,?_,?_,?_,?_,?_,?_,?_,?_,?_,?_,?_,?_,?_,?_,?_,?_,?_,?_,?_,?_,?_,?_,?_,?_,?_,?_,?_,?_,trivial⟩
   case q1_4_0 =>
    intro yv w' hR hF K hK;clear hF;obtain ⟨z0,z1,z2,z3,z4,z5,z6,z7,zl⟩:=hcx.out w' ((Mod.refl Nowhere w1).drew.trans hR)
    go_simp
    exact hK _ _ (fun _ _=>rfl) (Mod.refl _ _)
   case q2_4_0 =>
    intro yv w' hR hF K hK;clear hF
    go_simp
    go_at_call 85
    refine (hN1.out _).mono ?_;rintro e w9 ⟨rfl,hm9⟩;exact hK _ _ (fun _ _=>rfl) hm9
   all_goals
    intro yv w' hR hF K hK;clear hF
    go_simp
    exact hK _ _ (fun _ _=>by first | trivial | exact rfl | simp [*,known]) (Mod.refl _ _)
  case hE_4_0 =>
   intro yv w' hR hF;clear hF;simp only [mixN,Option.getD_some,Option.getD_none,Nat.reduceLT,if_true];have hmf:=hm.out.trans ((Mod.refl Nowhere w1).drew.trans hR);clear hR;replace hmf:=Lib.hid hmf;go_wp2;go_ret;exact ⟨ret_val (by rw [← hQ.out];rfl),hmf.out⟩
 cases b2
 ·skip
  refine wp_region_vals (fun i=>match i with | 0=>some (.pointer (some ⟨w.heap.size,1,none⟩)) | 1=>some (.slice a1 n1 c1) | 2=>some (.bool true) | 3=>some (.bool false) | 4=>some (.bool false) | 5=>some (.pointer (some ⟨w.heap.size,2,none⟩)) | 6=>some (.slice a2 n2 c2) | 7=>some (.slice (some ⟨w.heap.size + 1,0,none⟩) 3 3) | 8=>some (.pointer (some ⟨w.heap.size + 1,0,none⟩)) | 9=>some (.int .i64 (f1:Int)) | 10=>some (.bool false) | 11=>some (.bool true) | 12=>some (.bool true) | 13=>some (.bool true) | 21=>some (.bool true) | 22=>some (.bool true) | 30=>some (.bool true) | _=>none) (fun i=>match i with | 1=>[0] | 2=>[1] | 3=>[2] | 4=>[3,2] | 5=>[4] | 6=>[5,4] | 7=>[4] | 8=>[7,4] | 9=>[8,4] | 10=>[6,9,4] | 11=>[10,4] | 12=>[4,11] | 13=>[12,10] | 14=>[13] | 15=>[13] | 16=>[13] | 17=>[13] | 18=>[13] | 19=>[13] | 20=>[13] | 21=>[13] | 22=>[21] | 23=>[22] | 24=>[22] | 25=>[22] | 26=>[22] | 27=>[22] | 28=>[22] | 29=>[22] | 30=>[22] | _=>[]) 31 (fun _ _ _=>True) ?A_4_1 (by first | assumption | kernel_rfl) (by kernel_rfl) (by kernel_rfl) (by kernel_rfl) (by rfl) ?hA_4_1 ?hS_4_1 ?hE_4_1
  case hA_4_1=>intro xs;simp [putAll,List.range,List.range.loop,Act.put] <;> rfl
  case hS_4_1 =>
   refine ⟨?_,?q1_4_1,?q2_4_1,?_,?_,?_,?q6_4_1,?_,?_,?q9_4_1,?q10_4_1,?_,?_,?_,?_,?_,?_,?_,?_,?_,?_,?_,?_,?_,?_,?_,?_,?_,?_,?_,?_,trivial⟩
   case q1_4_1 =>
    intro yv w' hR hF K hK;clear hF;obtain ⟨z0,z1,z2,z3,z4,z5,z6,z7,zl⟩:=hcx.out w' ((Mod.refl Nowhere w1).drew.trans hR)
    go_simp
    exact hK _ _ (fun _ _=>rfl) (Mod.refl _ _)
   case q2_4_1 =>
    intro yv w' hR hF K hK;clear hF
    go_simp
    go_at_call 85
    refine (hN1.out _).mono ?_;rintro e w9 ⟨rfl,hm9⟩;exact hK _ _ (fun _ _=>rfl) hm9
   case q6_4_1 =>
    intro yv w' hR hF K hK;clear hF;obtain ⟨z0,z1,z2,z3,z4,z5,z6,z7,zl⟩:=hcx.out w' ((Mod.refl Nowhere w1).drew.trans hR)
    go_simp
    exact hK _ _ (fun _ _=>rfl) (Mod.refl _ _)
   case q9_4_1 =>
    intro yv w' hR hF K hK;clear hF;obtain ⟨z0,z1,z2⟩:=hcn.out w' ((Mod.refl Nowhere w1).drew.trans hR)
    go_simp
    exact hK _ _ (fun _ _=>rfl) (Mod.refl _ _)
   case q10_4_1 =>
    intro yv w' hR hF K hK;clear hF
    go_simp
    go_at_call 85
    refine (hN2.out _).mono ?_;rintro e w9 ⟨rfl,hm9⟩;exact hK _ _ (fun _ _=>rfl) hm9
   all_goals
    intro yv w' hR hF K hK;clear hF
    go_simp
    exact hK _ _ (fun _ _=>by first | trivial | exact rfl | simp [*,known]) (Mod.refl _ _)
  case hE_4_1 =>
   intro yv w' hR hF;clear hF;simp only [mixN,Option.getD_some,Option.getD_none,Nat.reduceLT,if_true];have hmf:=hm.out.trans ((Mod.refl Nowhere w1).drew.trans hR);clear hR;replace hmf:=Lib.hid hmf;go_wp2;go_ret;exact ⟨ret_val (by rw [← hQ.out];rfl),hmf.out⟩
 cases b3
 ·skip
  refine wp_region_vals (fun i=>match i with | 0=>some (.pointer (some ⟨w.heap.size,1,none⟩)) | 1=>some (.slice a1 n1 c1) | 2=>some (.bool true) | 3=>some (.bool false) | 4=>some (.bool false) | 5=>some (.pointer (some ⟨w.heap.size,2,none⟩)) | 6=>some (.slice a2 n2 c2) | 7=>some (.slice (some ⟨w.heap.size + 1,0,none⟩) 3 3) | 8=>some (.pointer (some ⟨w.heap.size + 1,0,none⟩)) | 9=>some (.int .i64 (f1:Int)) | 10=>some (.bool true) | 11=>some (.bool false) | 12=>some (.bool false) | 13=>some (.bool false) | 14=>some (.pointer (some ⟨w.heap.size,3,none⟩)) | 15=>some (.slice a3 n3 c3) | 16=>some (.slice (some ⟨w.heap.size + 1,0,none⟩) 3 3) | 17=>some (.pointer (some ⟨w.heap.size + 1,1,none⟩)) | 18=>some (.int .i64 (f2:Int)) | 19=>some (.bool false) | 20=>some (.bool true) | 21=>some (.bool true) | 22=>some (.bool true) | 30=>some (.bool true) | _=>none) (fun i=>match i with | 1=>[0] | 2=>[1] | 3=>[2] | 4=>[3,2] | 5=>[4] | 6=>[5,4] | 7=>[4] | 8=>[7,4] | 9=>[8,4] | 10=>[6,9,4] | 11=>[10,4] | 12=>[4,11] | 13=>[12,10] | 14=>[13] | 15=>[14,13] | 16=>[13] | 17=>[16,13] | 18=>[17,13] | 19=>[15,18,13] | 20=>[19,13] | 21=>[13,20] | 22=>[21,19] | 23=>[22] | 24=>[22] | 25=>[22] | 26=>[22] | 27=>[22] | 28=>[22] | 29=>[22] | 30=>[22] | _=>[]) 31 (fun _ _ _=>True) ?A_4_2 (by first | assumption | kernel_rfl) (by kernel_rfl) (by kernel_rfl) (by kernel_rfl) (by rfl) ?hA_4_2 ?hS_4_2 ?hE_4_2
  case hA_4_2=>intro xs;simp [putAll,List.range,List.range.loop,Act.put] <;> rfl
  case hS_4_2 =>
   refine ⟨?_,?q1_4_2,?q2_4_2,?_,?_,?_,?q6_4_2,?_,?_,?q9_4_2,?q10_4_2,?_,?_,?_,?_,?q15_4_2,?_,?_,?q18_4_2,?q19_4_2,?_,?_,?_,?_,?_,?_,?_,?_,?_,?_,?_,trivial⟩
   case q1_4_2 =>
    intro yv w' hR hF K hK;clear hF;obtain ⟨z0,z1,z2,z3,z4,z5,z6,z7,zl⟩:=hcx.out w' ((Mod.refl Nowhere w1).drew.trans hR)
    go_simp
    exact hK _ _ (fun _ _=>rfl) (Mod.refl _ _)
   case q2_4_2 =>
    intro yv w' hR hF K hK;clear hF
    go_simp
    go_at_call 85
    refine (hN1.out _).mono ?_;rintro e w9 ⟨rfl,hm9⟩;exact hK _ _ (fun _ _=>rfl) hm9
   case q6_4_2 =>
    intro yv w' hR hF K hK;clear hF;obtain ⟨z0,z1,z2,z3,z4,z5,z6,z7,zl⟩:=hcx.out w' ((Mod.refl Nowhere w1).drew.trans hR)
    go_simp
    exact hK _ _ (fun _ _=>rfl) (Mod.refl _ _)
   case q9_4_2 =>
    intro yv w' hR hF K hK;clear hF;obtain ⟨z0,z1,z2⟩:=hcn.out w' ((Mod.refl Nowhere w1).drew.trans hR)
    go_simp
    exact hK _ _ (fun _ _=>rfl) (Mod.refl _ _)
   case q10_4_2 =>
    intro yv w' hR hF K hK;clear hF
    go_simp
    go_at_call 85
    refine (hN2.out _).mono ?_;rintro e w9 ⟨rfl,hm9⟩;exact hK _ _ (fun _ _=>rfl) hm9
   case q15_4_2 =>
    intro yv w' hR hF K hK;clear hF;obtain ⟨z0,z1,z2,z3,z4,z5,z6,z7,zl⟩:=hcx.out w' ((Mod.refl Nowhere w1).drew.trans hR)
    go_simp
    exact hK _ _ (fun _ _=>rfl) (Mod.refl _ _)
   case q18_4_2 =>
    intro yv w' hR hF K hK;clear hF;obtain ⟨z0,z1,z2⟩:=hcn.out w' ((Mod.refl Nowhere w1).drew.trans hR)
    go_simp
    exact hK _ _ (fun _ _=>rfl) (Mod.refl _ _)
   case q19_4_2 =>
    intro yv w' hR hF K hK;clear hF
    go_simp
    go_at_call 85
    refine (hN3.out _).mono ?_;rintro e w9 ⟨rfl,hm9⟩;exact hK _ _ (fun _ _=>rfl) hm9
   all_goals
    intro yv w' hR hF K hK;clear hF
    go_simp
    exact hK _ _ (fun _ _=>by first | trivial | exact rfl | simp [*,known]) (Mod.refl _ _)
  case hE_4_2 =>
   intro yv w' hR hF;clear hF;simp only [mixN,Option.getD_some,Option.getD_none,Nat.reduceLT,if_true];have hmf:=hm.out.trans ((Mod.refl Nowhere w1).drew.trans hR);clear hR;replace hmf:=Lib.hid hmf;go_wp2;go_ret;exact ⟨ret_val (by rw [← hQ.out];rfl),hmf.out⟩
 cases b4
 ·skip
  refine wp_region_vals (fun i=>match i with | 0=>some (.pointer (some ⟨w.heap.size,1,none⟩)) | 1=>some (.slice a1 n1 c1) | 2=>some (.bool true) | 3=>some (.bool false) | 4=>some (.bool false) | 5=>some (.pointer (some ⟨w.heap.size,2,none⟩)) | 6=>some (.slice a2 n2 c2) | 7=>some (.slice (some ⟨w.heap.size + 1,0,none⟩) 3 3) | 8=>some (.pointer (some ⟨w.heap.size + 1,0,none⟩)) | 9=>some (.int .i64 (f1:Int)) | 10=>some (.bool true) | 11=>some (.bool false) | 12=>some (.bool false) | 13=>some (.bool false) | 14=>some (.pointer (some ⟨w.heap.size,3,none⟩)) | 15=>some (.slice a3 n3 c3) | 16=>some (.slice (some ⟨w.heap.size + 1,0,none⟩) 3 3) | 17=>some (.pointer (some ⟨w.heap.size + 1,1,none⟩)) | 18=>some (.int .i64 (f2:Int)) | 19=>some (.bool true) | 20=>some (.bool false) | 21=>some (.bool false) | 22=>some (.bool false) | 23=>some (.pointer (some ⟨w.heap.size,4,none⟩)) | 24=>some (.slice a4 n4 c4) | 25=>some (.slice (some ⟨w.heap.size + 1,0,none⟩) 3 3) | 26=>some (.pointer (some ⟨w.heap.size + 1,2,none⟩)) | 27=>some (.int .i64 (f3:Int)) | 28=>some (.bool false) | 29=>some (.bool true) | 30=>some (.bool true) | _=>none) (fun i=>match i with | 1=>[0] | 2=>[1] | 3=>[2] | 4=>[3,2] | 5=>[4] | 6=>[5,4] | 7=>[4] | 8=>[7,4] | 9=>[8,4] | 10=>[6,9,4] | 11=>[10,4] | 12=>[4,11] | 13=>[12,10] | 14=>[13] | 15=>[14,13] | 16=>[13] | 17=>[16,13] | 18=>[17,13] | 19=>[15,18,13] | 20=>[19,13] | 21=>[13,20] | 22=>[21,19] | 23=>[22] | 24=>[23,22] | 25=>[22] | 26=>[25,22] | 27=>[26,22] | 28=>[24,27,22] | 29=>[28,22] | 30=>[22,29] | _=>[]) 31 (fun _ _ _=>True) ?A_4_3 (by first | assumption | kernel_rfl) (by kernel_rfl) (by kernel_rfl) (by kernel_rfl) (by rfl) ?hA_4_3 ?hS_4_3 ?hE_4_3
  case hA_4_3=>intro xs;simp [putAll,List.range,List.range.loop,Act.put] <;> rfl
  case hS_4_3 =>
   refine ⟨?_,?q1_4_3,?q2_4_3,?_,?_,?_,?q6_4_3,?_,?_,?q9_4_3,?q10_4_3,?_,?_,?_,?_,?q15_4_3,?_,?_,?q18_4_3,?q19_4_3,?_,?_,?_,?_,?q24_4_3,?_,?_,?q27_4_3,?q28_4_3,?_,?_,trivial⟩
   case q1_4_3 =>
    intro yv w' hR hF K hK;clear hF;obtain ⟨z0,z1,z2,z3,z4,z5,z6,z7,zl⟩:=hcx.out w' ((Mod.refl Nowhere w1).drew.trans hR)
    go_simp
    exact hK _ _ (fun _ _=>rfl) (Mod.refl _ _)
   case q2_4_3 =>
    intro yv w' hR hF K hK;clear hF
    go_simp
    go_at_call 85
    refine (hN1.out _).mono ?_;rintro e w9 ⟨rfl,hm9⟩;exact hK _ _ (fun _ _=>rfl) hm9
   case q6_4_3 =>
    intro yv w' hR hF K hK;clear hF;obtain ⟨z0,z1,z2,z3,z4,z5,z6,z7,zl⟩:=hcx.out w' ((Mod.refl Nowhere w1).drew.trans hR)
    go_simp
    exact hK _ _ (fun _ _=>rfl) (Mod.refl _ _)
   case q9_4_3 =>
    intro yv w' hR hF K hK;clear hF;obtain ⟨z0,z1,z2⟩:=hcn.out w' ((Mod.refl Nowhere w1).drew.trans hR)
    go_simp
    exact hK _ _ (fun _ _=>rfl) (Mod.refl _ _)
   case q10_4_3 =>
    intro yv w' hR hF K hK;clear hF
    go_simp
    go_at_call 85
    refine (hN2.out _).mono ?_;rintro e w9 ⟨rfl,hm9⟩;exact hK _ _ (fun _ _=>rfl) hm9
   case q15_4_3 =>
    intro yv w' hR hF K hK;clear hF;obtain ⟨z0,z1,z2,z3,z4,z5,z6,z7,zl⟩:=hcx.out w' ((Mod.refl Nowhere w1).drew.trans hR)
    go_simp
    exact hK _ _ (fun _ _=>rfl) (Mod.refl _ _)
   case q18_4_3 =>
    intro yv w' hR hF K hK;clear hF;obtain ⟨z0,z1,z2⟩:=hcn.out w' ((Mod.refl Nowhere w1).drew.trans hR)
    go_simp
    exact hK _ _ (fun _ _=>rfl) (Mod.refl _ _)
   case q19_4_3 =>
    intro yv w' hR hF K hK;clear hF
    go_simp
    go_at_call 85
    refine (hN3.out _).mono ?_;rintro e w9 ⟨rfl,hm9⟩;exact hK _ _ (fun _ _=>rfl) hm9
   case q24_4_3 =>
    intro yv w' hR hF K hK;clear hF;obtain ⟨z0,z1,z2,z3,z4,z5,z6,z7,zl⟩:=hcx.out w' ((Mod.refl Nowhere w1).drew.trans hR)
    go_simp
    exact hK _ _ (fun _ _=>rfl) (Mod.refl _ _)
   case q27_4_3 =>
    intro yv w' hR hF K hK;clear hF;obtain ⟨z0,z1,z2⟩:=hcn.out w' ((Mod.refl Nowhere w1).drew.trans hR)
    go_simp
    exact hK _ _ (fun _ _=>rfl) (Mod.refl _ _)
   case q28_4_3 =>
    intro yv w' hR hF K hK;clear hF
    go_simp
    go_at_call 85
    refine (hN4.out _).mono ?_;rintro e w9 ⟨rfl,hm9⟩;exact hK _ _ (fun _ _=>rfl) hm9
   all_goals
    intro yv w' hR hF K hK;clear hF
    go_simp
    exact hK _ _ (fun _ _=>by first | trivial | exact rfl | simp [*,known]) (Mod.refl _ _)
  case hE_4_3 =>
   intro yv w' hR hF;clear hF;simp only [mixN,Option.getD_some,Option.getD_none,Nat.reduceLT,if_true];have hmf:=hm.out.trans ((Mod.refl Nowhere w1).drew.trans hR);clear hR;replace hmf:=Lib.hid hmf;go_wp2;go_ret;exact ⟨ret_val (by rw [← hQ.out];rfl),hmf.out⟩
 refine wp_region_vals (fun i=>match i with | 0=>some (.pointer (some ⟨w.heap.size,1,none⟩)) | 1=>some (.slice a1 n1 c1) | 2=>some (.bool true) | 3=>some (.bool false) | 4=>some (.bool false) | 5=>some (.pointer (some ⟨w.heap.size,2,none⟩)) | 6=>some (.slice a2 n2 c2) | 7=>some (.slice (some ⟨w.heap.size + 1,0,none⟩) 3 3) | 8=>some (.pointer (some ⟨w.heap.size + 1,0,none⟩)) | 9=>some (.int .i64 (f1:Int)) | 10=>some (.bool true) | 11=>some (.bool false) | 12=>some (.bool false) | 13=>some (.bool false) | 14=>some (.pointer (some ⟨w.heap.size,3,none⟩)) | 15=>some (.slice a3 n3 c3) | 16=>some (.slice (some ⟨w.heap.size + 1,0,none⟩) 3 3) | 17=>some (.pointer (some ⟨w.heap.size + 1,1,none⟩)) | 18=>some (.int .i64 (f2:Int)) | 19=>some (.bool true) | 20=>some (.bool false) | 21=>some (.bool false) | 22=>some (.bool false) | 23=>some (.pointer (some ⟨w.heap.size,4,none⟩)) | 24=>some (.slice a4 n4 c4) | 25=>some (.slice (some ⟨w.heap.size + 1,0,none⟩) 3 3) | 26=>some (.pointer (some ⟨w.heap.size + 1,2,none⟩)) | 27=>some (.int .i64 (f3:Int)) | 28=>some (.bool true) | 29=>some (.bool false) | 30=>some (.bool false) | _=>none) (fun i=>match i with | 1=>[0] | 2=>[1] | 3=>[2] | 4=>[3,2] | 5=>[4] | 6=>[5,4] | 7=>[4] | 8=>[7,4] | 9=>[8,4] | 10=>[6,9,4] | 11=>[10,4] | 12=>[4,11] | 13=>[12,10] | 14=>[13] | 15=>[14,13] | 16=>[13] | 17=>[16,13] | 18=>[17,13] | 19=>[15,18,13] | 20=>[19,13] | 21=>[13,20] | 22=>[21,19] | 23=>[22] | 24=>[23,22] | 25=>[22] | 26=>[25,22] | 27=>[26,22] | 28=>[24,27,22] | 29=>[28,22] | 30=>[22,29] | _=>[]) 31 (fun _ _ _=>True) ?A_4_4 (by first | assumption | kernel_rfl) (by kernel_rfl) (by kernel_rfl) (by kernel_rfl) (by rfl) ?hA_4_4 ?hS_4_4 ?hE_4_4
 case hA_4_4=>intro xs;simp [putAll,List.range,List.range.loop,Act.put] <;> rfl
 case hS_4_4 =>
  refine ⟨?_,?q1_4_4,?q2_4_4,?_,?_,?_,?q6_4_4,?_,?_,?q9_4_4,?q10_4_4,?_,?_,?_,?_,?q15_4_4,?_,?_,?q18_4_4,?q19_4_4,?_,?_,?_,?_,?q24_4_4,?_,?_,?q27_4_4,?q28_4_4,?_,?_,trivial⟩
  case q1_4_4 =>
   intro yv w' hR hF K hK;clear hF;obtain ⟨z0,z1,z2,z3,z4,z5,z6,z7,zl⟩:=hcx.out w' ((Mod.refl Nowhere w1).drew.trans hR)
   go_simp
   exact hK _ _ (fun _ _=>rfl) (Mod.refl _ _)
  case q2_4_4 =>
   intro yv w' hR hF K hK;clear hF
   go_simp
   go_at_call 85
   refine (hN1.out _).mono ?_;rintro e w9 ⟨rfl,hm9⟩;exact hK _ _ (fun _ _=>rfl) hm9
  case q6_4_4 =>
   intro yv w' hR hF K hK;clear hF;obtain ⟨z0,z1,z2,z3,z4,z5,z6,z7,zl⟩:=hcx.out w' ((Mod.refl Nowhere w1).drew.trans hR)
   go_simp
   exact hK _ _ (fun _ _=>rfl) (Mod.refl _ _)
  case q9_4_4 =>
   intro yv w' hR hF K hK;clear hF;obtain ⟨z0,z1,z2⟩:=hcn.out w' ((Mod.refl Nowhere w1).drew.trans hR)
   go_simp
   exact hK _ _ (fun _ _=>rfl) (Mod.refl _ _)
  case q10_4_4 =>
   intro yv w' hR hF K hK;clear hF
   go_simp
   go_at_call 85
   refine (hN2.out _).mono ?_;rintro e w9 ⟨rfl,hm9⟩;exact hK _ _ (fun _ _=>rfl) hm9
  case q15_4_4 =>
   intro yv w' hR hF K hK;clear hF;obtain ⟨z0,z1,z2,z3,z4,z5,z6,z7,zl⟩:=hcx.out w' ((Mod.refl Nowhere w1).drew.trans hR)
   go_simp
   exact hK _ _ (fun _ _=>rfl) (Mod.refl _ _)
  case q18_4_4 =>
   intro yv w' hR hF K hK;clear hF;obtain ⟨z0,z1,z2⟩:=hcn.out w' ((Mod.refl Nowhere w1).drew.trans hR)
   go_simp
   exact hK _ _ (fun _ _=>rfl) (Mod.refl _ _)
  case q19_4_4 =>
   intro yv w' hR hF K hK;clear hF
   go_simp
   go_at_call 85
   refine (hN3.out _).mono ?_;rintro e w9 ⟨rfl,hm9⟩;exact hK _ _ (fun _ _=>rfl) hm9
  case q24_4_4 =>
   intro yv w' hR hF K hK;clear hF;obtain ⟨z0,z1,z2,z3,z4,z5,z6,z7,zl⟩:=hcx.out w' ((Mod.refl Nowhere w1).drew.trans hR)
   go_simp
   exact hK _ _ (fun _ _=>rfl) (Mod.refl _ _)
  case q27_4_4 =>
   intro yv w' hR hF K hK;clear hF;obtain ⟨z0,z1,z2⟩:=hcn.out w' ((Mod.refl Nowhere w1).drew.trans hR)
   go_simp
   exact hK _ _ (fun _ _=>rfl) (Mod.refl _ _)
  case q28_4_4 =>
   intro yv w' hR hF K hK;clear hF
   go_simp
   go_at_call 85
   refine (hN4.out _).mono ?_;rintro e w9 ⟨rfl,hm9⟩;exact hK _ _ (fun _ _=>rfl) hm9
  all_goals
   intro yv w' hR hF K hK;clear hF
   go_simp
   exact hK _ _ (fun _ _=>by first | trivial | exact rfl | simp [*,known]) (Mod.refl _ _)
 case hE_4_4 =>
  intro yv w' hR hF;clear hF;simp only [mixN,Option.getD_some,Option.getD_none,Nat.reduceLT,if_true];have hmf:=hm.out.trans ((Mod.refl Nowhere w1).drew.trans hR);obtain ⟨z0,z1,z2,z3,z4,z5,z6,z7,zl⟩:=hcx.out w' ((Mod.refl Nowhere w1).drew.trans hR);clear hR x0 x1 x2 x3 x4 x5 x6 x7 xl;replace hmf:=Lib.hid hmf;by_cases p1:prv < 0
  ·go_wp2;go_ret;exact ⟨ret_val (by rw [← hQ.out,show decide (prv < 0) = true from decide_eq_true (by omega)];rfl),hmf.out⟩
  by_cases p2:31 < prv
  ·go_wp2;go_ret;exact ⟨ret_val (by rw [← hQ.out,show decide (prv < 0) = false from decide_eq_false (by omega),show decide (31 < prv) = true from decide_eq_true (by omega)];rfl),hmf.out⟩
  by_cases g1:r0 = false∧kb = false
  ·obtain ⟨rfl,rfl⟩:=g1;go_wp2;go_ret;exact ⟨ret_val (by rw [← hQ.out,show decide (prv < 0) = false from decide_eq_false (by omega),show decide (31 < prv) = false from decide_eq_false (by omega)];rfl),hmf.out⟩
  have g1':r0 = true ∨ (r0 = false∧kb = true):=by cases r0 <;> cases kb <;> simp at g1 ⊢
  by_cases p3:255 < n6
  ·have p3i:=h255.2 p3;rcases g1' with rfl | ⟨rfl,rfl⟩
   all_goals
    go_wp2;go_ret;exact ⟨ret_val (by rw [← hQ.out,show decide (prv < 0) = false from decide_eq_false (by omega),show decide (31 < prv) = false from decide_eq_false (by omega),show decide (255 < n6) = true from decide_eq_true (by omega)];rfl),hmf.out⟩
  have p3i:¬ (255:Int) < (n6:Int):=fun e=>p3 (h255.1 e)
  have hQ2:(if (decide (0 < n6) && (!ka && !kb)) = true then 4 else if (decide (0 < n7) && (!e716 || !ka)) = true then 4 else 0) = R:=by
   rw [← hQ.out,show decide (prv < 0) = false from decide_eq_false (by omega),show decide (31 < prv) = false from decide_eq_false (by omega),show decide (255 < n6) = false from decide_eq_false (by omega)];rcases g1' with rfl | ⟨rfl,rfl⟩ <;> rfl
  clear hQ;replace hQ2:=Lib.hid hQ2;by_cases p6:0 < n6
  ·have p6i:=hd6.2 p6
   cases ka
   ·cases kb
    ·rcases g1' with rfl | ⟨rfl,h⟩
     ·go_wp2;go_ret;exact ⟨ret_val (by rw [← hQ2.out,show decide (0 < n6) = true from decide_eq_true (by omega)];rfl),hmf.out⟩
     ·cases h
    ·by_cases p7:0 < n7
     ·have p7i:=hd7.2 p7;rcases g1' with rfl | ⟨rfl,-⟩ <;> cases e716
      all_goals
       go_wp2;go_ret;exact ⟨ret_val (by rw [← hQ2.out,show decide (0 < n6) = true from decide_eq_true (by omega),show decide (0 < n7) = true from decide_eq_true (by omega)];rfl),hmf.out⟩
     ·have p7i:¬ (0:Int) < (n7:Int):=fun e=>p7 (hd7.1 e);rcases g1' with rfl | ⟨rfl,-⟩
      all_goals
       go_wp2;go_ret;exact ⟨ret_val (by rw [← hQ2.out,show decide (0 < n6) = true from decide_eq_true (by omega),show decide (0 < n7) = false from decide_eq_false (by omega)];rfl),hmf.out⟩
   ·by_cases p7:0 < n7
    ·have p7i:=hd7.2 p7;rcases g1' with rfl | ⟨rfl,rfl⟩ <;> cases e716
     all_goals
      go_wp2;go_ret;exact ⟨ret_val (by rw [← hQ2.out,show decide (0 < n6) = true from decide_eq_true (by omega),show decide (0 < n7) = true from decide_eq_true (by omega)];rfl),hmf.out⟩
    ·have p7i:¬ (0:Int) < (n7:Int):=fun e=>p7 (hd7.1 e);rcases g1' with rfl | ⟨rfl,rfl⟩
     all_goals
      go_wp2;go_ret;exact ⟨ret_val (by rw [← hQ2.out,show decide (0 < n6) = true from decide_eq_true (by omega),show decide (0 < n7) = false from decide_eq_false (by omega)];rfl),hmf.out⟩
  ·have p6i:¬ (0:Int) < (n6:Int):=fun e=>p6 (hd6.1 e);by_cases p7:0 < n7
   ·have p7i:=hd7.2 p7;rcases g1' with rfl | ⟨rfl,rfl⟩ <;> cases e716 <;> cases ka
    all_goals
     go_wp2;go_ret;exact ⟨ret_val (by rw [← hQ2.out,show decide (0 < n6) = false from decide_eq_false (by omega),show decide (0 < n7) = true from decide_eq_true (by omega)];rfl),hmf.out⟩
   ·have p7i:¬ (0:Int) < (n7:Int):=fun e=>p7 (hd7.1 e);rcases g1' with rfl | ⟨rfl,rfl⟩
    all_goals
     go_wp2;go_ret;exact ⟨ret_val (by rw [← hQ2.out,show decide (0 < n6) = false from decide_eq_false (by omega),show decide (0 < n7) = false from decide_eq_false (by omega)];rfl),hmf.out⟩
end
section
variable {w : World} {x : RqV}
theorem rCheck38_ok (h:RqAt w x):Calls Tryz.prog 22 #[.agg x.cells.toArray] w fun e w'=>e = .returned (errno (x.r.chk:Nat))∧Mod Nowhere w w':=by
 obtain ⟨v1,v2,v3,v4,v6,v7,r⟩:=x;obtain ⟨h1,h2,h3,h4,h6,h7,-⟩:=h;dsimp only at h1 h2 h3 h4 h6 h7 ⊢;obtain ⟨a1,c1,rfl,-⟩:=h1;obtain ⟨a2,c2,rfl,-⟩:=h2;obtain ⟨a3,c3,rfl,-⟩:=h3;obtain ⟨a4,c4,rfl,-⟩:=h4;obtain ⟨a6,c6,rfl,-⟩:=h6;obtain ⟨a7,c7,rfl,-⟩:=h7;by_cases hact:1≤r.act∧r.act≤4
 ·exact rCheck38_good hact r.prv
 ·have:r.chk = 1:=by unfold Rq.chk chkN;rw [if_pos (by omega)]
  rw [this];exact rCheck38_bad hact r.prv
end
end Go.Proofs.YtanioleniadhoaaGreat
