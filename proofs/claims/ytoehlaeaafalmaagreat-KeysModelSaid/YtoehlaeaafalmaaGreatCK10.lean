/-
  Bytes as a string.
-/
import Derived.Test.YtoehlaeaafalmaaGreatCSq
import Derived.Test.YtoehlaeaafalmaaGreatCG10
import Derived.Shelf.Bytes.SlEqualAll
set_option linter.unusedVariables false
set_option linter.unusedSimpArgs false
namespace Go.Proofs.YtoehlaeaafalmaaGreat
open Go.RowKit
open Jn
attribute [local go_sem] Oper.semAt_some
theorem Src.string {w:World} {v:Value} {d:List Nat} (h:Src w v d):(convert 37 9 v).run Tryz.prog w = .ok (.string (strOfNums (d.map fun x:Nat=>(x:Int)))) w:=by
 obtain ⟨a,c,rfl,-,-,h3⟩:=h;refine Go.Lib.BytesIn.convert (P:=Tryz.prog) (xs:=d.map fun x:Nat=>(x:Int)) ?_ (by simp) c 37 5 9 Tryz.underlying37 Tryz.underlying5 Tryz.underlying9;intro h0;obtain ⟨b,off,e,hb,hc⟩:=h3 h0;refine ⟨b,off,e,fun i hi=>?_⟩;rw [hc i hi]
 congr 2
 rw [gd0,gd0,List.getElem?_map,List.getElem?_eq_getElem hi]
 rfl
end Go.Proofs.YtoehlaeaafalmaaGreat
