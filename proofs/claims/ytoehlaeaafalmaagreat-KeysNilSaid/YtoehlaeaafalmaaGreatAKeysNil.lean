/-
  The law KeysNil holds for all arguments.
-/
import Derived.Test.YtoehlaeaafalmaaGreatRows
import Derived.Test.YtoehlaeaafalmaaGreatAK8
import Derived.Test.YtoehlaeaafalmaaGreatAG36
import Derived.WalkKit
import Derived.ProofKit
import Derived.OpenShut
import Derived.ShutString
import Derived.ChangeOld
import Derived.Below
set_option linter.unusedVariables false
set_option linter.unusedSimpArgs false
set_option maxRecDepth 100000
namespace Go.Proofs.YtoehlaeaafalmaaGreat.keysNil
open Go.ChangeShapes Go.WideShapes Go.ChangeAt Go.RowKit
open Go.ChangeMaps (open_string shut_string)
theorem own : ownKnob Tryz.prog.godebug = none := by kernel_rfl
theorem walk (w : World) (z0 : OpK) (i0 : OpKAt w z0) :
  Calls Tryz.prog 5 #[.agg z0.cells.toArray] w fun e w' => e = .returned (.bool true) ∧ Below w.heap.size w w' := lawKeysNil z0 w i0
theorem lifted (os : Os) (started : os.Started) (H : Type) (enc : TypeId × Value → H) :
  ReturnsInHanded {} Tryz.checked os 5 .any (Rows.keysNilSpec.pre6 enc Tryz.prog Tryz.f5 Rows.keysNilRow.domain false) (Rows.keysNilSpec.post enc Tryz.prog Tryz.f5 false true false false) := by
 refine returnsInHanded_of_change (C := Tryz.checked) own started (by kernel_rfl) Tryz.func5
  (ChangeSpec.witness6 (enc := enc) (C := Tryz.checked) false ⟨#[], #[.agg #[.int .i64 0, .int .i64 0, .int .i64 0, .slice none 0 0, .int .i64 0]], []⟩ 8 (by kernel_rfl) (by kernel_rfl) (by kernel_rfl) (by kernel_rfl)) ?_
 intro W base args ds gs before hval0 hW hcnd _;have hval : ∀ (j : Nat) t v, Tryz.f5.params[j]? = some t → args[j]? = some v → Value.okWide Tryz.prog W .any base t v := hval0;have hW' := hW;obtain ⟨p, q, hA0, hV, rfl, hfz, hnd⟩ := hW;have hA : DataW.TrodAll enc Tryz.prog W 0 (fun _ => true) true Tryz.f5.params.toList args.toList ds p := hA0;rw [Tryz.params5] at hA hval;obtain ⟨v0, vs0, d0, ds0, p0, q0, hargs, rfl, rfl, h0, r0⟩ := trodAll_cons hA;obtain ⟨rfl, rfl, rfl⟩ := trodAll_nil r0;obtain rfl : args = #[v0] := by cases args; simp_all
 obtain ⟨rfl, rfl⟩ := trodVars_none hV;have k0 := h0;have lt0 : ∀ x ∈ p0, x.block < W.heap.size := by obtain ⟨m, hm⟩ := k0; exact DataW.trod_lt m _ _ _ hm
 obtain ⟨z0, rfl, i0⟩ := open_row_opk (hval 0 41 v0 rfl rfl) h0;clear hA0 hval0;simp only [List.append_nil] at hW';refine (walk W z0 i0).mono fun e W' ⟨he, hg⟩ => ?_;subst he
 exact ⟨_, rfl, post_below (pa := _) (pv := []) hW' (fun _ _ _ => (trodAll_cons_mk (shut_bool Tryz.underlying4 _) trodAll_mk0)) (fun sp hsp => (trodAll_cons_mk (trod_sp (by kernel_rfl) (of_decide_eq_true (by kernel_rfl)) k0 hg lt0 sp (fun x hx => hsp x (by simp [hx]))) trodAll_mk0)) (fun _ _ => rfl) (by simp)
  hg (ok_one (by kernel_rfl) rfl (okWide_bool_mk Tryz.underlying4 _))⟩
theorem c1 : (Rows.keysNilRow.inPlace == Tryz.prog.inPlace 5) = true := by kernel_rfl
theorem c2 : (Rows.keysNilRow.unfollowed == Tryz.prog.unfollowed 5) = true := by kernel_rfl
theorem c3 : (Rows.keysNilRow.recurses == Tryz.prog.recurses 5) = true := by kernel_rfl
theorem c4 : (Rows.keysNilRow.named == Tryz.prog.varsNamed 5) = true := by kernel_rfl
theorem closed : joinedFacts Tryz.prog 5 Tryz.f5 Rows.keysNilSpec Rows.keysNilRow = true := by
 unfold joinedFacts;rw [laidOut_ok, mapsRowed_ok, c1, c2, c3, c4]
 kernel_rfl
theorem over : Rows.keysNilRow.holds Tryz.pinned (OpenSpec.ofChange Rows.keysNilSpec) :=
 OpenClaim.holds_of_wide 5 Tryz.f5 rfl rfl rfl rfl rfl rfl rfl ⟨rfl, rfl, rfl, rfl, rfl⟩ rfl rfl rfl rfl rfl (by kernel_rfl) Tryz.func5 closed
  (of_decide_eq_true (by kernel_rfl)) (by unfold Func.isWrapper; first | (rw [if_pos (by decide +kernel)]; kernel_rfl) | (rw [if_neg (by decide +kernel)]; exact ⟨rfl, rfl⟩))
  (fun os started H enc _ => lifted os started H enc)
theorem proved : Rows.KeysNilSaid :=
 over
#print axioms proved
end Go.Proofs.YtoehlaeaafalmaaGreat.keysNil
