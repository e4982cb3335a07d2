/-
  Keys: the law's do: an action on the keys.
-/
import Derived.Test.YtoehlaeaafalmaaGreatCK7
import Derived.Test.YtoehlaeaafalmaaGreatCK14
import Derived.Test.YtoehlaeaafalmaaGreatCK10
set_option linter.unusedVariables false
set_option linter.unusedSimpArgs false
set_option maxHeartbeats 4000000
set_option maxRecDepth 100000
namespace Go.Proofs.YtoehlaeaafalmaaGreat
open Go.RowKit
open Jn Vn Rg Ky
attribute [local go_sem] Oper.semAt_some
namespace Ky
def kDo (s:VSt) (act:Int) (x:RK):VSt × Nat × Nat :=
 if act = 0 then ((kPut s x).1,0,(kPut s x).2) else if act = 1 then ((kDel s x.set).1,0,(kDel s x.set).2) else if act = 2 then kSpend s x.set x.kind else ((kRestore s x.set x.kind).1,0,(kRestore s x.set x.kind).2)
end Ky
theorem ZhA {w:World} {kb mb:Nat} {A:VAt} {m:Mem} {s:VSt} (h:KyR w kb mb A m s) (hs:KySt s) (hB:XB 64 72 18 A.Z) {x:RK} {v:Value} (hv:Src w v x.val) (bv:Bytes x.val) (hl:s.l.length≤899999) (hrm:Room m (vcost A)) :
  Calls Tryz.prog 12 #[ptr kb,.agg #[.int .i64 0,.int .i64 x.set,.int .i64 x.kind,v,.int .i64 x.lim]] w (KCall w kb mb A m s (kPut s x).1 (vcost A) (.tuple #[.int .i64 0,errno ((kPut s x).2:Nat)]) (.tuple #[.int .i64 0,errno 7])):=by
 obtain ⟨a,c,rfl,-⟩:=id hv;have hm0:Mod Nowhere w (w.alloc (.cells #[.int .i64 0,.int .i64 x.set,.int .i64 x.kind,.slice a x.val.length c,.int .i64 x.lim] 41)):=(Mod.refl _ _).alloc _;have hb:=Blk.new w [.int .i64 0,.int .i64 x.set,.int .i64 x.kind,.slice a x.val.length c,.int .i64 x.lim] 41;have hP:=Zcb (h.fresh hm0) hs hB hl (hv.fresh hm0) bv hrm
 have hrr:Runs m m 0:=by
  obtain ⟨P,p,pc,J,bank,end_,ib,lv,xs,hV⟩:=h.rep.ex;exact hV.jr.runs
 have hfin:∀ ro rc e W,KCall (w.alloc (.cells #[.int .i64 0,.int .i64 x.set,.int .i64 x.kind,.slice a x.val.length c,.int .i64 x.lim] 41)) kb mb A m s (kPut s x).1 (vcost A) ro rc e W→KCall w kb mb A m s (kPut s x).1 (vcost A) ro rc e W:=fun ro rc e W hc=>by
  have:=hc.later hrr rfl (hm0.nowhere (S:=KS A mb))
  rwa [Nat.zero_add] at this
 have z0:=hb.cell 0;have z1:=hb.cell 1;have z2:=hb.cell 2;have z3:=hb.cell 3;have z4:=hb.cell 4;have zl:=hb.lt;simp only [gz0,gs0] at z0 z1 z2 z3 z4;clear hb h hv hs hB hrm hrr;generalize x.val.length = vn at *;refine hid4 ?_ hP hfin hm0 bv;clear hP hfin hm0 bv;intro hP hfin hm0 bv;go_enter Tryz.func12,Tryz.ntmps12;go_wp2_with fail;refine hP.out.mono ?_;intro e w2 hc;rcases hc.re with ⟨rfl,q⟩ | ⟨rfl,q⟩ <;>
 ·have hf:=hfin.out _ _ _ _ (q (.tuple #[.int .i64 0,errno ((kPut s x).2:Nat)]) (.tuple #[.int .i64 0,errno 7]));clear q hc;replace hf:=Lib.hid hf;go_wp2
  go_ret2
  exact hf.out
theorem ZhB {w:World} {kb mb:Nat} {A:VAt} {m:Mem} {s:VSt} (h:KyR w kb mb A m s) (hs:KySt s) (hB:XB 64 72 18 A.Z) {x:RK} {v:Value} (hv:Src w v x.val) (bv:Bytes x.val) (ha:s.act = false) (n1:I64 x.set) (hrm:Room m (8 * vcost A)) :
  Calls Tryz.prog 12 #[ptr kb,.agg #[.int .i64 1,.int .i64 x.set,.int .i64 x.kind,v,.int .i64 x.lim]] w (KCall w kb mb A m s (kDel s x.set).1 (8 * vcost A) (.tuple #[.int .i64 0,errno ((kDel s x.set).2:Nat)]) (.tuple #[.int .i64 0,errno 7])):=by
 obtain ⟨a,c,rfl,-⟩:=id hv;have hm0:Mod Nowhere w (w.alloc (.cells #[.int .i64 1,.int .i64 x.set,.int .i64 x.kind,.slice a x.val.length c,.int .i64 x.lim] 41)):=(Mod.refl _ _).alloc _;have hb:=Blk.new w [.int .i64 1,.int .i64 x.set,.int .i64 x.kind,.slice a x.val.length c,.int .i64 x.lim] 41;have hP:=Zch (h.fresh hm0) hs hB ha x.set n1 hrm
 have hrr:Runs m m 0:=by
  obtain ⟨P,p,pc,J,bank,end_,ib,lv,xs,hV⟩:=h.rep.ex;exact hV.jr.runs
 have hfin:∀ ro rc e W,KCall (w.alloc (.cells #[.int .i64 1,.int .i64 x.set,.int .i64 x.kind,.slice a x.val.length c,.int .i64 x.lim] 41)) kb mb A m s (kDel s x.set).1 (8 * vcost A) ro rc e W→KCall w kb mb A m s (kDel s x.set).1 (8 * vcost A) ro rc e W:=fun ro rc e W hc=>by
  have:=hc.later hrr rfl (hm0.nowhere (S:=KS A mb))
  rwa [Nat.zero_add] at this
 have z0:=hb.cell 0;have z1:=hb.cell 1;have z2:=hb.cell 2;have z3:=hb.cell 3;have z4:=hb.cell 4;have zl:=hb.lt;simp only [gz0,gs0] at z0 z1 z2 z3 z4;clear hb h hv hs hB hrm hrr;generalize x.val.length = vn at *;refine hid4 ?_ hP hfin hm0 bv;clear hP hfin hm0 bv;intro hP hfin hm0 bv;go_enter Tryz.func12,Tryz.ntmps12;go_wp2_with fail;refine hP.out.mono ?_;intro e w2 hc;rcases hc.re with ⟨rfl,q⟩ | ⟨rfl,q⟩ <;>
 ·have hf:=hfin.out _ _ _ _ (q (.tuple #[.int .i64 0,errno ((kDel s x.set).2:Nat)]) (.tuple #[.int .i64 0,errno 7]));clear q hc;replace hf:=Lib.hid hf;go_wp2
  go_ret2
  exact hf.out
theorem ZhC {w:World} {kb mb:Nat} {A:VAt} {m:Mem} {s:VSt} (h:KyR w kb mb A m s) (hs:KySt s) (hB:XB 64 72 18 A.Z) {x:RK} {v:Value} (hv:Src w v x.val) (bv:Bytes x.val) (n1:I64 x.set) (n2:I64 x.kind) (hrm:Room m (vcost A)) :
  Calls Tryz.prog 12 #[ptr kb,.agg #[.int .i64 2,.int .i64 x.set,.int .i64 x.kind,v,.int .i64 x.lim]] w (KCall w kb mb A m s (kSpend s x.set x.kind).1 (vcost A) (.tuple #[.int .i64 ((kSpend s x.set x.kind).2.1:Nat),errno ((kSpend s x.set x.kind).2.2:Nat)]) (.tuple #[.int .i64 0,errno 7])):=by
 obtain ⟨a,c,rfl,-⟩:=id hv;have hm0:Mod Nowhere w (w.alloc (.cells #[.int .i64 2,.int .i64 x.set,.int .i64 x.kind,.slice a x.val.length c,.int .i64 x.lim] 41)):=(Mod.refl _ _).alloc _;have hb:=Blk.new w [.int .i64 2,.int .i64 x.set,.int .i64 x.kind,.slice a x.val.length c,.int .i64 x.lim] 41;have hP:=Zcd (h.fresh hm0) hs hB x.set x.kind n1 n2 hrm
 have hrr:Runs m m 0:=by
  obtain ⟨P,p,pc,J,bank,end_,ib,lv,xs,hV⟩:=h.rep.ex;exact hV.jr.runs
 have hfin:∀ ro rc e W,KCall (w.alloc (.cells #[.int .i64 2,.int .i64 x.set,.int .i64 x.kind,.slice a x.val.length c,.int .i64 x.lim] 41)) kb mb A m s (kSpend s x.set x.kind).1 (vcost A) ro rc e W→KCall w kb mb A m s (kSpend s x.set x.kind).1 (vcost A) ro rc e W:=fun ro rc e W hc=>by
  have:=hc.later hrr rfl (hm0.nowhere (S:=KS A mb))
  rwa [Nat.zero_add] at this
 have z0:=hb.cell 0;have z1:=hb.cell 1;have z2:=hb.cell 2;have z3:=hb.cell 3;have z4:=hb.cell 4;have zl:=hb.lt;simp only [gz0,gs0] at z0 z1 z2 z3 z4;clear hb h hv hs hB hrm hrr;generalize x.val.length = vn at *;refine hid4 ?_ hP hfin hm0 bv;clear hP hfin hm0 bv;intro hP hfin hm0 bv;go_enter Tryz.func12,Tryz.ntmps12;go_wp2_with fail;refine hP.out.mono ?_;intro e w2 hc;rcases hc.re with ⟨rfl,q⟩ | ⟨rfl,q⟩ <;>
 ·have hf:=hfin.out _ _ _ _ (q (.tuple #[.int .i64 ((kSpend s x.set x.kind).2.1:Nat),errno ((kSpend s x.set x.kind).2.2:Nat)]) (.tuple #[.int .i64 0,errno 7]));clear q hc;replace hf:=Lib.hid hf;go_wp2
  go_ret2
  exact hf.out
theorem ZhD {w:World} {kb mb:Nat} {A:VAt} {m:Mem} {s:VSt} (h:KyR w kb mb A m s) (hs:KySt s) (hB:XB 64 72 18 A.Z) {x:RK} {v:Value} (hv:Src w v x.val) (bv:Bytes x.val) (act:Int) (n1:I64 x.set) (n2:I64 x.kind) (hrm:Room m (vcost A)) (q0:¬ act = 0) (q1:¬ act = 1) (q2:¬ act = 2) :
  Calls Tryz.prog 12 #[ptr kb,.agg #[.int .i64 act,.int .i64 x.set,.int .i64 x.kind,v,.int .i64 x.lim]] w (KCall w kb mb A m s (kRestore s x.set x.kind).1 (vcost A) (.tuple #[.int .i64 0,errno ((kRestore s x.set x.kind).2:Nat)]) (.tuple #[.int .i64 0,errno 7])):=by
 obtain ⟨a,c,rfl,-⟩:=id hv;have hm0:Mod Nowhere w (w.alloc (.cells #[.int .i64 act,.int .i64 x.set,.int .i64 x.kind,.slice a x.val.length c,.int .i64 x.lim] 41)):=(Mod.refl _ _).alloc _;have hb:=Blk.new w [.int .i64 act,.int .i64 x.set,.int .i64 x.kind,.slice a x.val.length c,.int .i64 x.lim] 41;have hP:=Zce (h.fresh hm0) hs hB x.set x.kind n1 n2 hrm
 have hrr:Runs m m 0:=by
  obtain ⟨P,p,pc,J,bank,end_,ib,lv,xs,hV⟩:=h.rep.ex;exact hV.jr.runs
 have hfin:∀ ro rc e W,KCall (w.alloc (.cells #[.int .i64 act,.int .i64 x.set,.int .i64 x.kind,.slice a x.val.length c,.int .i64 x.lim] 41)) kb mb A m s (kRestore s x.set x.kind).1 (vcost A) ro rc e W→KCall w kb mb A m s (kRestore s x.set x.kind).1 (vcost A) ro rc e W:=fun ro rc e W hc=>by
  have:=hc.later hrr rfl (hm0.nowhere (S:=KS A mb))
  rwa [Nat.zero_add] at this
 have z0:=hb.cell 0;have z1:=hb.cell 1;have z2:=hb.cell 2;have z3:=hb.cell 3;have z4:=hb.cell 4;have zl:=hb.lt;simp only [gz0,gs0] at z0 z1 z2 z3 z4;clear hb h hv hs hB hrm hrr;generalize x.val.length = vn at *;refine hid4 ?_ hP hfin hm0 bv;clear hP hfin hm0 bv;intro hP hfin hm0 bv;go_enter Tryz.func12,Tryz.ntmps12;go_wp2_with fail;refine hP.out.mono ?_;intro e w2 hc;rcases hc.re with ⟨rfl,q⟩ | ⟨rfl,q⟩ <;>
 ·have hf:=hfin.out _ _ _ _ (q (.tuple #[.int .i64 0,errno ((kRestore s x.set x.kind).2:Nat)]) (.tuple #[.int .i64 0,errno 7]));clear q hc;replace hf:=Lib.hid hf;go_wp2
  go_ret2
  exact hf.out
end Go.Proofs.YtoehlaeaafalmaaGreat
namespace Go.Proofs.YtoehlaeaafalmaaGreat
open Go.RowKit
open Jn Vn Rg Ky
attribute [local go_sem] Oper.semAt_some
namespace Ky
def rDo (L:List KEn) (act:Int) (x:RK):List KEn × Nat × Nat :=
 if act = 0 then ((rPut L x).1,0,(rPut L x).2) else if act = 1 then ((rDelete L x.set).1,0,(rDelete L x.set).2) else if act = 2 then rSpend L x.set x.kind else ((rRestore L x.set x.kind).1,0,(rRestore L x.set x.kind).2)
end Ky
theorem ZhE {w:World} {va:Option Addr} {vc:Nat} {L:List KEn} (h:RL w va vc L) (hK:KL L) (hlen:L.length≤1000) {x:RK} {v:Value} (hv:Src w v x.val) (bv:Bytes x.val) :
  Calls Tryz.prog 13 #[.agg #[.slice va L.length vc],.agg #[.int .i64 0,.int .i64 x.set,.int .i64 x.kind,v,.int .i64 x.lim]] w (SPost2 w (rPut L ⟨x.set,x.kind,x.lim,x.val⟩).1 0 (rPut L ⟨x.set,x.kind,x.lim,x.val⟩).2):=by
 obtain ⟨a,c,rfl,-⟩:=id hv;have hmA:=boxm (w:=w) [.slice va L.length vc] [.int .i64 0,.int .i64 x.set,.int .i64 x.kind,.slice a x.val.length c,.int .i64 x.lim] [.slice none 0 0] 32 41 32;have hbx:=box3 (w:=w) [.slice va L.length vc] [.int .i64 0,.int .i64 x.set,.int .i64 x.kind,.slice a x.val.length c,.int .i64 x.lim] [.slice none 0 0] 32 41 32;have hP:=fun W (hm:Mod Nowhere w W)=>Zho (h.fresh hm) hlen x.set x.kind x.lim (hv.fresh hm) bv;have hfin:∀ W y z,RL W y z (rPut L ⟨x.set,x.kind,x.lim,x.val⟩).1→Mod Nowhere w W→SPost2 w (rPut L ⟨x.set,x.kind,x.lim,x.val⟩).1 0 (rPut L ⟨x.set,x.kind,x.lim,x.val⟩).2 (.returned (.tuple #[.agg #[.slice y ((rPut L ⟨x.set,x.kind,x.lim,x.val⟩).1).length z],.int .i64 (0:Nat),errno ((rPut L ⟨x.set,x.kind,x.lim,x.val⟩).2:Nat)])) W:=fun W y z hr hm=>⟨y,z,rfl,hr,hm⟩;obtain ⟨b0,b1,b2⟩:=hbx _ (Mod.refl _ _)
 have y0:=b0.cell 0;have yl:=b0.lt;have z0:=b1.cell 0;have z1:=b1.cell 1;have z2:=b1.cell 2;have z3:=b1.cell 3;have z4:=b1.cell 4;have zl:=b1.lt;simp only [gz0,gs0] at y0 z0 z1 z2 z3 z4;have hc0:=hP _ hmA;clear b0 b1 b2 hP h hv;generalize SPost2 w (rPut L ⟨x.set,x.kind,x.lim,x.val⟩).1 0 (rPut L ⟨x.set,x.kind,x.lim,x.val⟩).2 = R at *;generalize x.val.length = vn at *;generalize L.length = n at *;refine hid6 ?_ hmA hbx hc0 hfin hK bv;clear hmA hbx hc0 hfin hK bv;intro hmA hbx hc0 hfin hK bv;go_enter Tryz.func13,Tryz.ntmps13;go_wp2_with fail;refine hc0.out.mono ?_;rintro e w2 ⟨xa,xc,rfl,hr,hm2⟩
 have hm02:=hmA.out.trans hm2;have hm3:Mod Nowhere w2 (w2.alloc (.cells #[.slice xa ((rPut L ⟨x.set,x.kind,x.lim,x.val⟩).1).length xc] 32)):=(Mod.refl _ _).alloc _;have hm03:=hm02.trans hm3;obtain ⟨b0,b1,b2⟩:=hbx.out _ (hm2.trans hm3);have b3:=Blk.new w2 [.slice xa ((rPut L ⟨x.set,x.kind,x.lim,x.val⟩).1).length xc] 32;obtain ⟨q1,q2,q3⟩:=Zj hm03 (Nat.le_add_right _ _) b2 (.slice xa ((rPut L ⟨x.set,x.kind,x.lim,x.val⟩).1).length xc);have hf:=hfin.out _ xa xc (q3 _ _ _ (hr.fresh hm3)) q2;generalize ((rPut L ⟨x.set,x.kind,x.lim,x.val⟩).1).length = m at *;have x0:=b2.cell 0;have xf:=b2.frozen;have xl:=b2.lt;have u0:=b3.cell 0;have ul:=b3.lt
 simp only [gz0] at x0 u0;clear b0 b1 b2 b3 q2 q3 y0 yl z0 z1 z2 z3 z4 zl hc0 hr;refine hid6 ?_ hf q1 hm02 hm2 hm3 hm03;clear hf q1 hm02 hm2 hm3 hm03;intro hf q1 hm02 hm2 hm3 hm03;go_wp2;refine bodyPost_ret (ZQ rfl _ _ (w.heap.size + 2) _ rfl q1.out) rfl ?_;exact hf.out
theorem ZhF {w:World} {va:Option Addr} {vc:Nat} {L:List KEn} (h:RL w va vc L) (hK:KL L) (hlen:L.length≤1000) {x:RK} {v:Value} (hv:Src w v x.val) (bv:Bytes x.val) :
  Calls Tryz.prog 13 #[.agg #[.slice va L.length vc],.agg #[.int .i64 1,.int .i64 x.set,.int .i64 x.kind,v,.int .i64 x.lim]] w (SPost2 w (rDelete L x.set).1 0 (rDelete L x.set).2):=by
 obtain ⟨a,c,rfl,-⟩:=id hv;have hmA:=boxm (w:=w) [.slice va L.length vc] [.int .i64 1,.int .i64 x.set,.int .i64 x.kind,.slice a x.val.length c,.int .i64 x.lim] [.slice none 0 0] 32 41 32;have hbx:=box3 (w:=w) [.slice va L.length vc] [.int .i64 1,.int .i64 x.set,.int .i64 x.kind,.slice a x.val.length c,.int .i64 x.lim] [.slice none 0 0] 32 41 32;have hP:=fun W (hm:Mod Nowhere w W)=>Zhu (h.fresh hm) hlen x.set;have hfin:∀ W y z,RL W y z (rDelete L x.set).1→Mod Nowhere w W→SPost2 w (rDelete L x.set).1 0 (rDelete L x.set).2 (.returned (.tuple #[.agg #[.slice y ((rDelete L x.set).1).length z],.int .i64 (0:Nat),errno ((rDelete L x.set).2:Nat)])) W:=fun W y z hr hm=>⟨y,z,rfl,hr,hm⟩;obtain ⟨b0,b1,b2⟩:=hbx _ (Mod.refl _ _)
 have y0:=b0.cell 0;have yl:=b0.lt;have z0:=b1.cell 0;have z1:=b1.cell 1;have z2:=b1.cell 2;have z3:=b1.cell 3;have z4:=b1.cell 4;have zl:=b1.lt;simp only [gz0,gs0] at y0 z0 z1 z2 z3 z4;have hc0:=hP _ hmA;clear b0 b1 b2 hP h hv;generalize SPost2 w (rDelete L x.set).1 0 (rDelete L x.set).2 = R at *;generalize x.val.length = vn at *;generalize L.length = n at *;refine hid6 ?_ hmA hbx hc0 hfin hK bv;clear hmA hbx hc0 hfin hK bv;intro hmA hbx hc0 hfin hK bv;go_enter Tryz.func13,Tryz.ntmps13;go_wp2_with fail;refine hc0.out.mono ?_;rintro e w2 ⟨xa,xc,rfl,hr,hm2⟩;have hm02:=hmA.out.trans hm2;have hm3:Mod Nowhere w2 (w2.alloc (.cells #[.slice xa ((rDelete L x.set).1).length xc] 32)):=(Mod.refl _ _).alloc _
 have hm03:=hm02.trans hm3;obtain ⟨b0,b1,b2⟩:=hbx.out _ (hm2.trans hm3);have b3:=Blk.new w2 [.slice xa ((rDelete L x.set).1).length xc] 32;obtain ⟨q1,q2,q3⟩:=Zj hm03 (Nat.le_add_right _ _) b2 (.slice xa ((rDelete L x.set).1).length xc);have hf:=hfin.out _ xa xc (q3 _ _ _ (hr.fresh hm3)) q2;generalize ((rDelete L x.set).1).length = m at *;have x0:=b2.cell 0;have xf:=b2.frozen;have xl:=b2.lt;have u0:=b3.cell 0;have ul:=b3.lt;simp only [gz0] at x0 u0;clear b0 b1 b2 b3 q2 q3 y0 yl z0 z1 z2 z3 z4 zl hc0 hr;refine hid6 ?_ hf q1 hm02 hm2 hm3 hm03;clear hf q1 hm02 hm2 hm3 hm03;intro hf q1 hm02 hm2 hm3 hm03
 go_wp2;refine bodyPost_ret (ZQ rfl _ _ (w.heap.size + 2) _ rfl q1.out) rfl ?_;exact hf.out
theorem ZhG {w:World} {va:Option Addr} {vc:Nat} {L:List KEn} (h:RL w va vc L) (hK:KL L) (hlen:L.length≤1000) {x:RK} {v:Value} (hv:Src w v x.val) (bv:Bytes x.val) :
  Calls Tryz.prog 13 #[.agg #[.slice va L.length vc],.agg #[.int .i64 2,.int .i64 x.set,.int .i64 x.kind,v,.int .i64 x.lim]] w (SPost2 w (rSpend L x.set x.kind).1 (rSpend L x.set x.kind).2.1 (rSpend L x.set x.kind).2.2):=by
 obtain ⟨a,c,rfl,-⟩:=id hv;have hmA:=boxm (w:=w) [.slice va L.length vc] [.int .i64 2,.int .i64 x.set,.int .i64 x.kind,.slice a x.val.length c,.int .i64 x.lim] [.slice none 0 0] 32 41 32;have hbx:=box3 (w:=w) [.slice va L.length vc] [.int .i64 2,.int .i64 x.set,.int .i64 x.kind,.slice a x.val.length c,.int .i64 x.lim] [.slice none 0 0] 32 41 32;have hP:=fun W (hm:Mod Nowhere w W)=>Zhp (h.fresh hm) hK hlen x.set x.kind;have hfin:∀ W y z,RL W y z (rSpend L x.set x.kind).1→Mod Nowhere w W→SPost2 w (rSpend L x.set x.kind).1 (rSpend L x.set x.kind).2.1 (rSpend L x.set x.kind).2.2 (.returned (.tuple #[.agg #[.slice y ((rSpend L x.set x.kind).1).length z],.int .i64 ((rSpend L x.set x.kind).2.1:Nat),errno ((rSpend L x.set x.kind).2.2:Nat)])) W:=fun W y z hr hm=>⟨y,z,rfl,hr,hm⟩;obtain ⟨b0,b1,b2⟩:=hbx _ (Mod.refl _ _)
 have y0:=b0.cell 0;have yl:=b0.lt;have z0:=b1.cell 0;have z1:=b1.cell 1;have z2:=b1.cell 2;have z3:=b1.cell 3;have z4:=b1.cell 4;have zl:=b1.lt;simp only [gz0,gs0] at y0 z0 z1 z2 z3 z4;have hc0:=hP _ hmA;clear b0 b1 b2 hP h hv;generalize SPost2 w (rSpend L x.set x.kind).1 (rSpend L x.set x.kind).2.1 (rSpend L x.set x.kind).2.2 = R at *;generalize x.val.length = vn at *;generalize L.length = n at *;refine hid6 ?_ hmA hbx hc0 hfin hK bv;clear hmA hbx hc0 hfin hK bv;intro hmA hbx hc0 hfin hK bv;go_enter Tryz.func13,Tryz.ntmps13;go_wp2_with fail;refine hc0.out.mono ?_;rintro e w2 ⟨xa,xc,rfl,hr,hm2⟩;have hm02:=hmA.out.trans hm2
 obtain ⟨b0,b1,b2⟩:=hbx.out w2 hm2;obtain ⟨q1,q2,q3⟩:=Zj hm02 (Nat.le_add_right _ _) b2 (.slice xa ((rSpend L x.set x.kind).1).length xc);have hf:=hfin.out _ xa xc (q3 _ _ _ hr) q2;generalize ((rSpend L x.set x.kind).1).length = m at *;have x0:=b2.cell 0;have xf:=b2.frozen;have xl:=b2.lt;simp only [gz0] at x0;clear b0 b1 b2 q2 q3 y0 yl z0 z1 z2 z3 z4 zl hc0 hr;refine hid4 ?_ hf q1 hm02 hm2;clear hf q1 hm02 hm2;intro hf q1 hm02 hm2;go_wp2;refine bodyPost_ret (ZQ rfl _ _ (w.heap.size + 2) _ rfl q1.out) rfl ?_;exact hf.out
theorem ZhH {w:World} {va:Option Addr} {vc:Nat} {L:List KEn} (h:RL w va vc L) (hK:KL L) (hlen:L.length≤1000) {x:RK} {v:Value} (hv:Src w v x.val) (bv:Bytes x.val) (act:Int) (q0:¬ act = 0) (q1:¬ act = 1) (q2:¬ act = 2) :
  Calls Tryz.prog 13 #[.agg #[.slice va L.length vc],.agg #[.int .i64 act,.int .i64 x.set,.int .i64 x.kind,v,.int .i64 x.lim]] w (SPost2 w (rRestore L x.set x.kind).1 0 (rRestore L x.set x.kind).2):=by
 obtain ⟨a,c,rfl,-⟩:=id hv;have hmA:=boxm (w:=w) [.slice va L.length vc] [.int .i64 act,.int .i64 x.set,.int .i64 x.kind,.slice a x.val.length c,.int .i64 x.lim] [.slice none 0 0] 32 41 32;have hbx:=box3 (w:=w) [.slice va L.length vc] [.int .i64 act,.int .i64 x.set,.int .i64 x.kind,.slice a x.val.length c,.int .i64 x.lim] [.slice none 0 0] 32 41 32;have hP:=fun W (hm:Mod Nowhere w W)=>Zhq (h.fresh hm) hK hlen x.set x.kind;have hfin:∀ W y z,RL W y z (rRestore L x.set x.kind).1→Mod Nowhere w W→SPost2 w (rRestore L x.set x.kind).1 0 (rRestore L x.set x.kind).2 (.returned (.tuple #[.agg #[.slice y ((rRestore L x.set x.kind).1).length z],.int .i64 (0:Nat),errno ((rRestore L x.set x.kind).2:Nat)])) W:=fun W y z hr hm=>⟨y,z,rfl,hr,hm⟩;obtain ⟨b0,b1,b2⟩:=hbx _ (Mod.refl _ _)
 have y0:=b0.cell 0;have yl:=b0.lt;have z0:=b1.cell 0;have z1:=b1.cell 1;have z2:=b1.cell 2;have z3:=b1.cell 3;have z4:=b1.cell 4;have zl:=b1.lt;simp only [gz0,gs0] at y0 z0 z1 z2 z3 z4;have hc0:=hP _ hmA;clear b0 b1 b2 hP h hv;generalize SPost2 w (rRestore L x.set x.kind).1 0 (rRestore L x.set x.kind).2 = R at *;generalize x.val.length = vn at *;generalize L.length = n at *;refine hid6 ?_ hmA hbx hc0 hfin hK bv;clear hmA hbx hc0 hfin hK bv;intro hmA hbx hc0 hfin hK bv;go_enter Tryz.func13,Tryz.ntmps13;go_wp2_with fail;refine hc0.out.mono ?_;rintro e w2 ⟨xa,xc,rfl,hr,hm2⟩;have hm02:=hmA.out.trans hm2
 obtain ⟨b0,b1,b2⟩:=hbx.out w2 hm2;obtain ⟨p1,p2,p3⟩:=Zj hm02 (Nat.le_refl _) b0 (.slice xa ((rRestore L x.set x.kind).1).length xc);have b2':=b2.setCell_other (a:=⟨w.heap.size,0,none⟩) (show w.heap.size + 2 ≠ w.heap.size by omega) (.slice xa ((rRestore L x.set x.kind).1).length xc);obtain ⟨q1,q2,q3⟩:=Zj p2 (Nat.le_add_right _ _) b2' (.slice xa ((rRestore L x.set x.kind).1).length xc);have hf:=hfin.out _ xa xc (q3 _ _ _ (p3 _ _ _ hr)) q2;generalize ((rRestore L x.set x.kind).1).length = m at *;have x0:=b2.cell 0;have xf:=b2.frozen;have xl:=b2.lt;have y0':=b0.cell 0;have yf:=b0.frozen;have yl':=b0.lt;simp only [gz0] at x0 y0'
 clear b0 b1 b2 b2' p1 p2 p3 q2 q3 y0 yl z0 z1 z2 z3 z4 zl hc0 hr;refine hid4 ?_ hf q1 hm02 hm2;clear hf q1 hm02 hm2;intro hf q1 hm02 hm2;go_wp2;refine bodyPost_ret (ZQ rfl _ _ (w.heap.size + 2) _ rfl q1.out) rfl ?_;exact hf.out
end Go.Proofs.YtoehlaeaafalmaaGreat
namespace Go.Proofs.YtoehlaeaafalmaaGreat
open Go.RowKit
open Jn Vn Rg Ky
namespace Ky
theorem Zcy {s:VSt} (hl:s.l = []) (e:KEn):kNow s e = ({ s with f:=set1 s.f (64 + pl e,some (kB e)) },0):=by
 unfold kNow;rw [hl]
 rfl
theorem Z4 {s:VSt} (hl:s.l = []):view s = s.f:=by
 unfold view;rw [hl]
 rfl
theorem ZhI {s:VSt} (h:KySt s) (hl:s.l = []) (st kd:Int):(kSpend s st kd).1.l = []∧(kSpend s st kd).1.act = s.act∧kl (view (kSpend s st kd).1) = (rSpend (kl (view s)) st kd).1∧(kSpend s st kd).2.1 = (rSpend (kl (view s)) st kd).2.1∧(kSpend s st kd).2.2 = (rSpend (kl (view s)) st kd).2.2:=by
 unfold kSpend rSpend
 cases hf:kfind (kl (view s)) st kd with
 | none=>exact ⟨hl,rfl,rfl,rfl,rfl⟩
 | some e =>
  dsimp only;by_cases ht:e.tries = 0
  ·rw [if_pos ht,if_pos ht];exact ⟨hl,rfl,rfl,rfl,rfl⟩
  ·rw [if_neg ht,if_neg ht,Zcy hl];have he:=((Zx h.v).1 (Zt hf).1).1;refine ⟨hl,rfl,?_,rfl,rfl⟩;rw [Z4 (show ({ s with f:=set1 s.f (64 + pl e.less,some (kB e.less)) }:VSt).l = [] from hl),Z4 hl];exact YU h.f he.less
theorem ZhJ {s:VSt} (h:KySt s) (hl:s.l = []) (st kd:Int):(kRestore s st kd).1.l = []∧(kRestore s st kd).1.act = s.act∧kl (view (kRestore s st kd).1) = (rRestore (kl (view s)) st kd).1∧(kRestore s st kd).2 = (rRestore (kl (view s)) st kd).2:=by
 unfold kRestore rRestore
 cases hf:kfind (kl (view s)) st kd with
 | none=>exact ⟨hl,rfl,rfl,rfl⟩
 | some e =>
  dsimp only;rw [Zcy hl];have he:=((Zx h.v).1 (Zt hf).1).1;refine ⟨hl,rfl,?_,rfl⟩;rw [Z4 (show ({ s with f:=set1 s.f (64 + pl e.full,some (kB e.full)) }:VSt).l = [] from hl),Z4 hl];exact YU h.f he.full
theorem ZhK {s:VSt} (h:KySt s) (x:RK) (bv:Bytes x.val):kl (view (kPut s x).1) = (rPut (kl (view s)) x).1∧(kPut s x).2 = (rPut (kl (view s)) x).2:=by
 unfold kPut rPut
 cases hx:x.ok with
 | false=>exact ⟨rfl,rfl⟩
 | true =>
  rw [if_pos rfl,if_pos rfl];have he:=(RK.okk hx bv).1;refine ⟨?_,rfl⟩;rw [(h.app he).2,YU h.v he]
theorem Zcz {l:List KEn} (h:KL l) (st:Int):pKinds l st = [] ↔ (rDel l st).length = l.length:=by
 rw [Zfi]
 constructor
 ·intro q;unfold rInfo;rw [List.filter_eq_nil_iff];intro e he hs;have hm:=(ZL h (s:=st) (k:=e.kind)).2 ⟨e,he,by unfold inS at hs;exact of_decide_eq_true hs,rfl⟩;rw [q] at hm
  cases hm
 ·intro q;rw [List.eq_nil_iff_forall_not_mem];intro k hk;obtain ⟨e,he,e1,-⟩:=(ZL h).1 hk;have hm:e ∈ rInfo l st:=List.mem_filter.2 ⟨he,by unfold inS;exact decide_eq_true e1⟩;rw [q] at hm
  cases hm
theorem ZhL {s:VSt} (h:KySt s) (hl:s.l = []) (ha:s.act = false) (st:Int):(kDel s st).1.l = []∧(kDel s st).1.act = false∧kl (view (kDel s st).1) = (rDelete (kl (view s)) st).1∧(kDel s st).2 = (rDelete (kl (view s)) st).2:=by
 unfold kDel rDelete;by_cases q:pKinds (kl (view s)) st = []
 ·rw [if_pos q,if_pos ((Zcz (kl_KL h.v) st).1 q)];exact ⟨hl,ha,rfl,rfl⟩
 ·rw [if_neg q,if_neg (fun e=>q ((Zcz (kl_KL h.v) st).2 e))];refine ⟨rfl,rfl,?_,rfl⟩;rw [Z4 rfl,Z4 hl];exact Zfj h.f st
end Ky
end Go.Proofs.YtoehlaeaafalmaaGreat
namespace Go.Proofs.YtoehlaeaafalmaaGreat
open Go.RowKit
open Jn Vn Ky
attribute [local go_sem] Oper.semAt_some
theorem ZhM {w:World} {u v:Value} {g d:List Nat} (s1 k1 l1 s2 k2 l2:Int) (hu:Src w u g) (hv:Src w v d) :
  Calls Tryz.prog 30 #[.agg #[.int .i64 s1,.int .i64 k1,u,.int .i64 l1],.agg #[.int .i64 s2,.int .i64 k2,v,.int .i64 l2]] w fun r w'=>∃ b,r = .returned (.bool b)∧(s1 = s2→k1 = k2→l1 = l2→g = d→b = true)∧Mod Nowhere w w':=by
 obtain ⟨a,c,rfl,-⟩:=id hu;obtain ⟨b,e,rfl,-⟩:=id hv;have hm:=boxm2 (w:=w) [.int .i64 s1,.int .i64 k1,.slice a g.length c,.int .i64 l1] [.int .i64 s2,.int .i64 k2,.slice b d.length e,.int .i64 l2] 39 39;have h1:=(hu.fresh hm).string;have h2:=(hv.fresh hm).string;obtain ⟨b1,b2⟩:=box2 (w:=w) [.int .i64 s1,.int .i64 k1,.slice a g.length c,.int .i64 l1] [.int .i64 s2,.int .i64 k2,.slice b d.length e,.int .i64 l2] 39 39 _ (Mod.refl _ _);have hst:g = d→strOfNums (g.map fun x:Nat=>(x:Int)) = strOfNums (d.map fun x:Nat=>(x:Int)):=fun e=>by rw [e]
 generalize strOfNums (g.map fun x:Nat=>(x:Int)) = s at *;generalize strOfNums (d.map fun x:Nat=>(x:Int)) = t at *;have y0:=b1.cell 0;have y1:=b1.cell 1;have y2:=b1.cell 2;have y3:=b1.cell 3;have yl:=b1.lt;have z0:=b2.cell 0;have z1:=b2.cell 1;have z2:=b2.cell 2;have z3:=b2.cell 3;have zl:=b2.lt;simp only [gz0,gs0] at y0 y1 y2 y3 z0 z1 z2 z3;clear hu hv b1 b2;generalize g.length = gn at *;generalize d.length = dn at *;by_cases q1:s1 = s2
 ·by_cases q2:k1 = k2
  ·by_cases q3:l1 = l2
   ·subst q1 q2 q3;refine hid2 ?_ hm hst;clear hm hst;intro hm hst;go_enter Tryz.func30,Tryz.ntmps30;go_wp2;go_ret;exact ⟨_,rfl,fun _ _ _ e=>by rw [hst.out e];simp,hm.out⟩
   ·subst q1 q2;refine hid2 ?_ hm hst;clear hm hst;intro hm hst;go_enter Tryz.func30,Tryz.ntmps30;go_wp2;go_ret;exact ⟨_,rfl,fun _ _ e _=>absurd e q3,hm.out⟩
  ·subst q1;refine hid2 ?_ hm hst;clear hm hst;intro hm hst;go_enter Tryz.func30,Tryz.ntmps30;go_wp2;go_ret;exact ⟨_,rfl,fun _ e _ _=>absurd e q2,hm.out⟩
 ·refine hid2 ?_ hm hst;clear hm hst;intro hm hst;go_enter Tryz.func30,Tryz.ntmps30;go_wp2;go_ret;exact ⟨_,rfl,fun e _ _ _=>absurd e q1,hm.out⟩
end Go.Proofs.YtoehlaeaafalmaaGreat
