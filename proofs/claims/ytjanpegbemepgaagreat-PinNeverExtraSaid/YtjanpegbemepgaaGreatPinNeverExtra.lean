/-
  The law PinNeverExtra holds for all arguments.
-/
import Derived.Test.YtjanpegbemepgaaGreatRows
import Derived.Test.YtjanpegbemepgaaGreatPNx
import Derived.Test.YtjanpegbemepgaaGreatG36
import Derived.WalkKit
import Derived.ProofKit
import Derived.OpenShut
import Derived.ShutString
import Derived.ChangeOld
import Derived.Below
set_option linter.unusedVariables false
set_option linter.unusedSimpArgs false
namespace Go.Proofs.YtjanpegbemepgaaGreat.pinNeverExtra
open Go.ChangeShapes Go.WideShapes Go.ChangeAt Go.RowKit
open Go.ChangeMaps (open_string shut_string)

theorem own : ownKnob Tryz.prog.godebug = none := by kernel_rfl
theorem walk (w : World) (a0 : Int) (a1 : Value) (z1 : List Pop) (a2 : Value) (z2 : List Nat) (w0 : (Lit.int .u8 a0).wf = true) (i1 : InPops w a1 z1) (i2 : InU16 w a2 z2) :
    Calls Tryz.prog 3 #[.int .u8 a0, a1, a2] w fun e w' => e = .returned (.bool true) ∧ Below w.heap.size w w' := lawExtra21_ok a0 a1 z1 a2 z2 w w0 i1 i2

set_option maxRecDepth 100000 in
theorem lifted (os : Os) (started : os.Started) (H : Type) (enc : TypeId × Value → H) :
    ReturnsInHanded {} Tryz.checked os 3 .any (Rows.pinNeverExtraSpec.pre6 enc Tryz.prog Tryz.f3 Rows.pinNeverExtraRow.domain false) (Rows.pinNeverExtraSpec.post enc Tryz.prog Tryz.f3 false true false false) := by
  refine returnsInHanded_of_change (C := Tryz.checked) own started (by kernel_rfl) Tryz.func3
    (ChangeSpec.witness6 (enc := enc) (C := Tryz.checked) false ⟨#[], #[.int .u8 0, .slice none 0 0, .slice none 0 0], []⟩ 8 (by kernel_rfl) (by kernel_rfl) (by kernel_rfl) (by kernel_rfl)) ?_
  intro W base args ds gs before hval0 hW hcnd _
  have hval : ∀ (j : Nat) t v, Tryz.f3.params[j]? = some t → args[j]? = some v → Value.okWide Tryz.prog W .any base t v := hval0
  have hW' := hW
  obtain ⟨p, q, hA0, hV, rfl, hfz, hnd⟩ := hW
  have hA : DataW.TrodAll enc Tryz.prog W 0 (fun _ => true) true Tryz.f3.params.toList args.toList ds p := hA0
  rw [Tryz.params3] at hA hval
  obtain ⟨v0, vs0, d0, ds0, p0, q0, hargs, rfl, rfl, h0, r0⟩ := trodAll_cons hA
  obtain ⟨v1, vs1, d1, ds1, p1, q1, rfl, rfl, rfl, h1, r1⟩ := trodAll_cons r0
  obtain ⟨v2, vs2, d2, ds2, p2, q2, rfl, rfl, rfl, h2, r2⟩ := trodAll_cons r1
  obtain ⟨rfl, rfl, rfl⟩ := trodAll_nil r2
  obtain rfl : args = #[v0, v1, v2] := by cases args; simp_all
  obtain ⟨rfl, rfl⟩ := trodVars_none hV
  obtain ⟨a0, rfl, rfl, rfl, w0⟩ := open_int Tryz.underlying5 (hval 0 5 v0 rfl rfl) h0
  have k1 := h1
  have lt1 : ∀ x ∈ p1, x.block < W.heap.size := by obtain ⟨m, hm⟩ := k1; exact DataW.trod_lt m _ _ _ hm
  obtain ⟨z1, i1⟩ := open_row_pops (hval 1 22 v1 rfl rfl) h1
  have k2 := h2
  have lt2 : ∀ x ∈ p2, x.block < W.heap.size := by obtain ⟨m, hm⟩ := k2; exact DataW.trod_lt m _ _ _ hm
  obtain ⟨z2, i2⟩ := open_row_u16 (hval 2 23 v2 rfl rfl) h2
  clear hA0 hval0
  simp only [List.append_nil] at hW'
  refine (walk W a0 v1 z1 v2 z2 w0 i1 i2).mono fun e W' ⟨he, hg⟩ => ?_
  subst he
  exact ⟨_, rfl, post_below (pa := _) (pv := []) hW' (fun _ _ _ => (trodAll_cons_mk (shut_bool Tryz.underlying4 _) trodAll_mk0)) (fun sp hsp => (trodAll_cons_mk (shut_int Tryz.underlying5 w0) (trodAll_cons_mk (trod_sp (by kernel_rfl) (of_decide_eq_true (by kernel_rfl)) k1 hg lt1 sp (fun x hx => hsp x (by simp [hx]))) (trodAll_cons_mk (trod_sp (by kernel_rfl) (of_decide_eq_true (by kernel_rfl)) k2 hg lt2 sp (fun x hx => hsp x (by simp [hx]))) trodAll_mk0)))) (fun _ _ => rfl) (by simp)
    hg (ok_one (by kernel_rfl) rfl (okWide_bool_mk Tryz.underlying4 _))⟩

theorem c1 : (Rows.pinNeverExtraRow.inPlace == Tryz.prog.inPlace 3) = true := by kernel_rfl
theorem c2 : (Rows.pinNeverExtraRow.unfollowed == Tryz.prog.unfollowed 3) = true := by kernel_rfl
theorem c3 : (Rows.pinNeverExtraRow.recurses == Tryz.prog.recurses 3) = true := by kernel_rfl
theorem c4 : (Rows.pinNeverExtraRow.named == Tryz.prog.varsNamed 3) = true := by kernel_rfl
theorem closed : joinedFacts Tryz.prog 3 Tryz.f3 Rows.pinNeverExtraSpec Rows.pinNeverExtraRow = true := by
  unfold joinedFacts
  rw [laidOut_ok, mapsRowed_ok, c1, c2, c3, c4]
  kernel_rfl
theorem over : Rows.pinNeverExtraRow.holds Tryz.pinned (OpenSpec.ofChange Rows.pinNeverExtraSpec) :=
  OpenClaim.holds_of_wide 3 Tryz.f3 rfl rfl rfl rfl rfl rfl rfl ⟨rfl, rfl, rfl, rfl, rfl⟩ rfl rfl rfl rfl rfl (by kernel_rfl) Tryz.func3 closed
    (of_decide_eq_true (by kernel_rfl)) (by unfold Func.isWrapper; first | (rw [if_pos (by decide +kernel)]; kernel_rfl) | (rw [if_neg (by decide +kernel)]; exact ⟨rfl, rfl⟩))
    (fun os started H enc _ => lifted os started H enc)

theorem proved : Rows.PinNeverExtraSaid :=
  over
#print axioms proved
end Go.Proofs.YtjanpegbemepgaaGreat.pinNeverExtra
