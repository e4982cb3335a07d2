/-
  bytes.Equal, of any slices.
-/
import Derived.Test.YtanioleniadhoaaGreatAK10
set_option linter.unusedVariables false
set_option linter.unusedSimpArgs false
set_option maxHeartbeats 2000000
set_option maxRecDepth 100000
namespace Go.Proofs.YtanioleniadhoaaGreat
open Go.RowKit
open Jn
attribute [local go_sem] Oper.semAt_some
theorem bEqual_ok {w:World} {u v:Value} {g d:List Nat} (hu:Src w u g) (hv:Src w v d) (bg:Bytes g) (bd:Bytes d) :
  Calls Tryz.prog 94 #[u,v] w fun e w'=>e = .returned (.bool (decide (g = d)))∧Mod Nowhere w w':=by
 have h1:=hu.string;have h2:=hv.string;have h3:=strOf_eq bg bd;generalize strOfNums (g.map fun x:Nat=>(x:Int)) = s1 at *;generalize strOfNums (d.map fun x:Nat=>(x:Int)) = s2 at *;obtain ⟨xa,xc,rfl,-,-,-⟩:=hu;obtain ⟨ya,yc,rfl,-,-,-⟩:=hv;replace h3:=Lib.hid h3;go_enter Tryz.func94,Tryz.ntmps94;go_wp2;go_ret;exact ⟨ret_bool h3.out,Mod.refl _ _⟩
end Go.Proofs.YtanioleniadhoaaGreat
