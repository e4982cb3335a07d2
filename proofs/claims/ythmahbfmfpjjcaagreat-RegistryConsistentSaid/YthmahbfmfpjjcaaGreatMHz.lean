/-
  The law RegistryConsistent, for all arguments.
-/
import Derived.Test.YthmahbfmfpjjcaaGreatMHy
set_option linter.unusedVariables false
set_option linter.unusedSimpArgs false
set_option maxRecDepth 100000
namespace Go.Proofs.YthmahbfmfpjjcaaGreat
open Go.RowKit
open Jn Vn Rg
attribute [local go_sem] Oper.semAt_some
set_option maxHeartbeats 4000000 in
theorem lawCons_few {w : World} {l : List OpI} {va : Option Addr} {vc : Nat} (i0 : InROps w (.slice va l.length vc) l) (hq : fewB l = false) :
  Calls Tryz.prog 6 #[.slice va l.length vc] w fun e w' => e = .returned (.bool true) ∧ Mod Nowhere w w' := by
 have hF : Calls Tryz.prog 25 #[.slice va l.length vc] w fun e w' => e = .returned (.bool false) ∧ w' = w := by
  have := few26_ok i0;rw [hq] at this;exact this
 have hWk := fun W => works_ok W;refine hid2 ?_ hF hWk; clear hF hWk; intro hF hWk;go_enter Tryz.func6, Tryz.ntmps6;go_wp2_with fail;refine (hF.out).mono ?_;rintro e w1 ⟨rfl, rfl⟩;go_wp2_with fail;refine (hWk.out _).mono ?_;rintro e w2 ⟨rfl, hm⟩;go_wp2;go_ret;exact ⟨rfl, hm⟩
theorem lawCons_ok (v1 : Value) (l : List OpI) (w : World) (i0 : InROps w v1 l) : Calls Tryz.prog 6 #[v1] w fun e w' => e = .returned (.bool true) ∧ Below w.heap.size w w' := by
 refine Calls.mono (?_ : Calls _ _ _ _ (fun e w' => e = .returned (.bool true) ∧ Mod Nowhere w w')) (fun e w' h => ⟨h.1, h.2.below⟩);obtain ⟨va, vc, rfl, -⟩ := i0.gen
 cases hq : fewB l with
 | false => exact lawCons_few i0 hq
 | true => exact lawCons_go i0 hq
end Go.Proofs.YthmahbfmfpjjcaaGreat
