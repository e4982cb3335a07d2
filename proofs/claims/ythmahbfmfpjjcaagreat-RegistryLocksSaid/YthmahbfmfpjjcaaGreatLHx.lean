/-
  The law RegistryLocks, for all arguments.
-/
import Derived.Test.YthmahbfmfpjjcaaGreatLHu
set_option linter.unusedVariables false
set_option linter.unusedSimpArgs false
set_option maxRecDepth 100000
namespace Go.Proofs.YthmahbfmfpjjcaaGreat
open Go.RowKit
open Jn Vn Rg
attribute [local go_sem] Oper.semAt_some
set_option maxHeartbeats 4000000 in
theorem lawLocks_few {w : World} {l : List OpI} {va ta : Option Addr} {vc n tc : Nat} (i0 : InROps w (.slice va l.length vc) l) (hq : fewB l = false) :
  Calls Tryz.prog 7 #[.slice va l.length vc, .slice ta n tc] w fun e w' => e = .returned (.bool true) ∧ Mod Nowhere w w' := by
 have hF : Calls Tryz.prog 25 #[.slice va l.length vc] w fun e w' => e = .returned (.bool false) ∧ w' = w := by
  have := few26_ok i0;rw [hq] at this;exact this
 have hWk := fun W => works_ok W;refine hid2 ?_ hF hWk; clear hF hWk; intro hF hWk;go_enter Tryz.func7, Tryz.ntmps7;go_wp2_with fail;refine (hF.out).mono ?_;rintro e w1 ⟨rfl, rfl⟩;go_wp2_with fail;refine (hWk.out _).mono ?_;rintro e w2 ⟨rfl, hm⟩;go_wp2;go_ret;exact ⟨rfl, hm⟩
set_option maxHeartbeats 4000000 in
theorem lawLocks_long {w : World} {l : List OpI} {va ta : Option Addr} {vc n tc : Nat} (i0 : InROps w (.slice va l.length vc) l) (hq : fewB l = true) (hl : (n : Int) > 100) :
  Calls Tryz.prog 7 #[.slice va l.length vc, .slice ta n tc] w fun e w' => e = .returned (.bool true) ∧ Mod Nowhere w w' := by
 have hF : Calls Tryz.prog 25 #[.slice va l.length vc] w fun e w' => e = .returned (.bool true) ∧ w' = w := by
  have := few26_ok i0;rw [hq] at this;exact this
 have hWk := fun W => works_ok W;have hl' : 100 < n := by omega
 refine hid2 ?_ hF hWk; clear hF hWk; intro hF hWk;go_enter Tryz.func7, Tryz.ntmps7;go_wp2_with fail;refine (hF.out).mono ?_;rintro e w1 ⟨rfl, rfl⟩;go_wp2_with fail;refine (hWk.out _).mono ?_;rintro e w2 ⟨rfl, hm⟩;go_wp2;go_ret;exact ⟨rfl, hm⟩
theorem lawLocks_ok (v1 : Value) (l : List OpI) (v2 : Value) (a : List Nat) (w : World) (i0 : InROps w v1 l) (i1 : InBytes w v2 a) : Calls Tryz.prog 7 #[v1, v2] w fun e w' => e = .returned (.bool true) ∧ Below w.heap.size w w' := by
 refine Calls.mono (?_ : Calls _ _ _ _ (fun e w' => e = .returned (.bool true) ∧ Mod Nowhere w w')) (fun e w' h => ⟨h.1, h.2.below⟩);obtain ⟨va, vc, rfl, -⟩ := i0.gen;obtain ⟨hs, ba⟩ := i1;obtain ⟨ta, tc, rfl, -⟩ := id hs
 cases hq : fewB l with
 | false => exact lawLocks_few i0 hq
 | true =>
  by_cases hl : a.length ≤ 100
  ·exact lawLocks_go i0 hs ba hq hl
  ·exact lawLocks_long i0 hq (by omega)
end Go.Proofs.YthmahbfmfpjjcaaGreat
