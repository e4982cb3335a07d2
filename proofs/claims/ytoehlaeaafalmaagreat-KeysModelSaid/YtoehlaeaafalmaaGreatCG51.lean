/-
  The vault: is there a transaction?
-/
import Derived.Test.YtoehlaeaafalmaaGreatCG29
set_option linter.unusedVariables false
set_option linter.unusedSimpArgs false
set_option maxHeartbeats 400000
set_option maxRecDepth 100000
namespace Go.Proofs.YtoehlaeaafalmaaGreat
open Go.RowKit
open Jn Vn
attribute [local go_sem] Oper.semAt_some
theorem Zcf {w:World} {A:VAt} {m:Mem} {P:PAt} {p:PSt} {act:Bool} (h:VStub w A m P p) (ha:w.cell? ⟨A.vb,4,none⟩ = some (.bool act)) :
  Calls Tryz.prog 67 #[ptr A.vb] w fun e w'=>e = .returned (.bool (alive m p && act))∧∃ k,w' = w.drewN k:=by
 have hR:=XZ h ha;replace hR:=Lib.hid hR;generalize alive m p = al at *;clear h
 cases al <;> cases act
 all_goals
  go_enter Tryz.func67,Tryz.ntmps67
  go_wp2_with (go_at_call 57;refine hR.out.mono ?_;rintro e w1 ⟨rfl,k,rfl⟩)
  go_ret;exact ⟨rfl,k,rfl⟩
end Go.Proofs.YtoehlaeaafalmaaGreat
/-
 The vault: is there a transaction? (of the whole)
-/
namespace Go.Proofs.YtoehlaeaafalmaaGreat
open Go.RowKit
open Jn Vn
attribute [local go_sem] Oper.semAt_some
theorem ZgT {w:World} {A:VAt} {m:Mem} {s:VSt} (h:VRep w A m s):Calls Tryz.prog 67 #[ptr A.vb] w fun e w'=>e = .returned (.bool s.act)∧Mod Nowhere w w':=by
 obtain ⟨P,p,pc,J,bank,end_,ib,lv,xs,h⟩:=h.ex;have hA:=Zcf h.stub (show w.cell? ⟨A.vb,4,none⟩ = some (.bool s.act) from h.bv.cell 4);rw [h.jr.pg.alive_true,Bool.true_and] at hA;exact hA.mono fun e w' ⟨a,n,b⟩=>⟨a,by rw [b];exact (Mod.refl Nowhere w).drewN n⟩
end Go.Proofs.YtoehlaeaafalmaaGreat
