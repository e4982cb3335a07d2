/-
  The vault: the mark of a transaction.
-/
import Derived.Test.YtoehlaeaafalmaaGreatCG51
set_option linter.unusedVariables false
set_option linter.unusedSimpArgs false
set_option maxHeartbeats 1000000
set_option maxRecDepth 100000
namespace Go.Proofs.YtoehlaeaafalmaaGreat
open Go.RowKit
open Jn Vn
attribute [local go_sem] Oper.semAt_some
theorem ZgU {w:World} {A:VAt} {m:Mem} {s:VSt} (h:VRep w A m s) :
  Calls Tryz.prog 68 #[ptr A.vb] w fun e w'=>e = .returned (.int .i64 (s.l.length:Nat))∧Mod Nowhere w w':=by
 obtain ⟨P,p,pc,J,bank,end_,ib,lv,xs,h⟩:=h.ex;have hA:=Zcf h.stub (show w.cell? ⟨A.vb,4,none⟩ = some (.bool s.act) from h.bv.cell 4);rw [h.jr.pg.alive_true,Bool.true_and] at hA;have hxl:xs.length = s.l.length:=by rw [← h.xl,ZO]
 have hid:s.act = false→s.l.length = 0:=fun e=>by rw [h.idle e];rfl
 have c5:=fun W (hm:Mod Nowhere w W)=>(h.fresh hm).bv.cell 5;have hvl:=h.bv.lt;obtain ⟨la,lc,rfl,-,-,-⟩:=h.ls.sl.gen;refine hid3 ?_ hA c5 h;clear hA c5 h;intro hA c5 h;generalize s.l.length = n at *
 cases hact:s.act
 ·rw [hact] at hA hid;have hn:n = 0:=hid rfl;replace hn:=Lib.hid hn;clear hid;go_enter Tryz.func68,Tryz.ntmps68;go_wp2_with fail;refine hA.out.mono ?_;rintro e w1 ⟨rfl,k,rfl⟩;go_wp2;go_ret;exact ⟨Zg (by rw [hn.out];rfl),(Mod.refl _ w).drewN k⟩
 ·rw [hact] at hA;go_enter Tryz.func68,Tryz.ntmps68;go_wp2_with fail;refine hA.out.mono ?_;rintro e w1 ⟨rfl,k,rfl⟩;have hm1:Mod Nowhere w (w.drewN k):=(Mod.refl _ w).drewN k;have k5:(w.drewN k).cell? ⟨A.vb,5,none⟩ = some (.slice la xs.length lc):=c5.out _ hm1;generalize w.drewN k = w1 at *;go_wp2;go_ret;exact ⟨rfl,hm1⟩
end Go.Proofs.YtoehlaeaafalmaaGreat
/-
 Vaults that cannot be used: Save, Back, Now.
-/
namespace Go.Proofs.YtoehlaeaafalmaaGreat
open Go.RowKit
open Jn Vn
attribute [local go_sem] Oper.semAt_some
end Go.Proofs.YtoehlaeaafalmaaGreat
