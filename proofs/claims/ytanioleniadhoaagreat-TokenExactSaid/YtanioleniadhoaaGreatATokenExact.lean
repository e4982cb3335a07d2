/-
  The law TokenExact holds for all arguments.
-/
import Derived.Test.YtanioleniadhoaaGreatRows
import Derived.Test.YtanioleniadhoaaGreatAK28
import Derived.Test.YtanioleniadhoaaGreatAInrq
import Derived.Test.YtanioleniadhoaaGreatAG36
import Derived.WalkKit
import Derived.ProofKit
import Derived.OpenShut
import Derived.ShutString
import Derived.ChangeOld
import Derived.Below
set_option linter.unusedVariables false
set_option linter.unusedSimpArgs false
namespace Go.Proofs.YtanioleniadhoaaGreat.tokenExact
open Go.ChangeShapes Go.WideShapes Go.ChangeAt Go.RowKit
open Go.ChangeMaps (open_string shut_string)

theorem own : ownKnob Tryz.prog.godebug = none := by kernel_rfl
theorem walk (w : World) (a0 : Value) (z0 : List Nat) (z1 : RqV) (z2 : RqV) (a3 : Value) (z3 : List Nat) (i0 : InBytes w a0 z0) (i1 : RqAt w z1) (i2 : RqAt w z2) (i3 : InBytes w a3 z3) :
    Calls Tryz.prog 6 #[a0, .agg z1.cells.toArray, .agg z2.cells.toArray, a3] w fun e w' => e = .returned (.bool true) ∧ Below w.heap.size w w' := lawTokenExact a0 z0 z1 z2 a3 z3 w i0 i1 i2 i3

set_option maxRecDepth 100000 in
theorem lifted (os : Os) (started : os.Started) (H : Type) (enc : TypeId × Value → H) :
    ReturnsInHanded {} Tryz.checked os 6 .any (Rows.tokenExactSpec.pre6 enc Tryz.prog Tryz.f6 Rows.tokenExactRow.domain false) (Rows.tokenExactSpec.post enc Tryz.prog Tryz.f6 false true false false) := by
  refine returnsInHanded_of_change (C := Tryz.checked) own started (by kernel_rfl) Tryz.func6
    (ChangeSpec.witness6 (enc := enc) (C := Tryz.checked) false ⟨#[], #[.slice none 0 0, .agg #[.int .i64 0, .slice none 0 0, .slice none 0 0, .slice none 0 0, .slice none 0 0, .int .i64 0, .slice none 0 0, .slice none 0 0], .agg #[.int .i64 0, .slice none 0 0, .slice none 0 0, .slice none 0 0, .slice none 0 0, .int .i64 0, .slice none 0 0, .slice none 0 0], .slice none 0 0], []⟩ 8 (by kernel_rfl) (by kernel_rfl) (by kernel_rfl) (by kernel_rfl)) ?_
  intro W base args ds gs before hval0 hW hcnd _
  have hval : ∀ (j : Nat) t v, Tryz.f6.params[j]? = some t → args[j]? = some v → Value.okWide Tryz.prog W .any base t v := hval0
  have hW' := hW
  obtain ⟨p, q, hA0, hV, rfl, hfz, hnd⟩ := hW
  have hA : DataW.TrodAll enc Tryz.prog W 0 (fun _ => true) true Tryz.f6.params.toList args.toList ds p := hA0
  rw [Tryz.params6] at hA hval
  obtain ⟨v0, vs0, d0, ds0, p0, q0, hargs, rfl, rfl, h0, r0⟩ := trodAll_cons hA
  obtain ⟨v1, vs1, d1, ds1, p1, q1, rfl, rfl, rfl, h1, r1⟩ := trodAll_cons r0
  obtain ⟨v2, vs2, d2, ds2, p2, q2, rfl, rfl, rfl, h2, r2⟩ := trodAll_cons r1
  obtain ⟨v3, vs3, d3, ds3, p3, q3, rfl, rfl, rfl, h3, r3⟩ := trodAll_cons r2
  obtain ⟨rfl, rfl, rfl⟩ := trodAll_nil r3
  obtain rfl : args = #[v0, v1, v2, v3] := by cases args; simp_all
  obtain ⟨rfl, rfl⟩ := trodVars_none hV
  have k0 := h0
  have lt0 : ∀ x ∈ p0, x.block < W.heap.size := by obtain ⟨m, hm⟩ := k0; exact DataW.trod_lt m _ _ _ hm
  obtain ⟨z0, i0⟩ := open_row_bytes (hval 0 22 v0 rfl rfl) h0
  have k1 := h1
  have lt1 : ∀ x ∈ p1, x.block < W.heap.size := by obtain ⟨m, hm⟩ := k1; exact DataW.trod_lt m _ _ _ hm
  obtain ⟨z1, rfl, i1⟩ := open_row_req (hval 1 24 v1 rfl rfl) h1
  have k2 := h2
  have lt2 : ∀ x ∈ p2, x.block < W.heap.size := by obtain ⟨m, hm⟩ := k2; exact DataW.trod_lt m _ _ _ hm
  obtain ⟨z2, rfl, i2⟩ := open_row_req (hval 2 24 v2 rfl rfl) h2
  have k3 := h3
  have lt3 : ∀ x ∈ p3, x.block < W.heap.size := by obtain ⟨m, hm⟩ := k3; exact DataW.trod_lt m _ _ _ hm
  obtain ⟨z3, i3⟩ := open_row_bytes (hval 3 22 v3 rfl rfl) h3
  clear hA0 hval0
  simp only [List.append_nil] at hW'
  refine (walk W v0 z0 z1 z2 v3 z3 i0 i1 i2 i3).mono fun e W' ⟨he, hg⟩ => ?_
  subst he
  exact ⟨_, rfl, post_below (pa := _) (pv := []) hW' (fun _ _ _ => (trodAll_cons_mk (shut_bool Tryz.underlying4 _) trodAll_mk0)) (fun sp hsp => (trodAll_cons_mk (trod_sp (by kernel_rfl) (of_decide_eq_true (by kernel_rfl)) k0 hg lt0 sp (fun x hx => hsp x (by simp [hx]))) (trodAll_cons_mk (trod_sp (by kernel_rfl) (of_decide_eq_true (by kernel_rfl)) k1 hg lt1 sp (fun x hx => hsp x (by simp [hx]))) (trodAll_cons_mk (trod_sp (by kernel_rfl) (of_decide_eq_true (by kernel_rfl)) k2 hg lt2 sp (fun x hx => hsp x (by simp [hx]))) (trodAll_cons_mk (trod_sp (by kernel_rfl) (of_decide_eq_true (by kernel_rfl)) k3 hg lt3 sp (fun x hx => hsp x (by simp [hx]))) trodAll_mk0))))) (fun _ _ => rfl) (by simp)
    hg (ok_one (by kernel_rfl) rfl (okWide_bool_mk Tryz.underlying4 _))⟩

theorem c1 : (Rows.tokenExactRow.inPlace == Tryz.prog.inPlace 6) = true := by kernel_rfl
theorem c2 : (Rows.tokenExactRow.unfollowed == Tryz.prog.unfollowed 6) = true := by kernel_rfl
theorem c3 : (Rows.tokenExactRow.recurses == Tryz.prog.recurses 6) = true := by kernel_rfl
theorem c4 : (Rows.tokenExactRow.named == Tryz.prog.varsNamed 6) = true := by kernel_rfl
set_option maxRecDepth 100000 in
theorem mapsRowed_ok : Go.mapsRowed Tryz.prog = true := by kernel_rfl
theorem closed : joinedFacts Tryz.prog 6 Tryz.f6 Rows.tokenExactSpec Rows.tokenExactRow = true := by
  unfold joinedFacts
  rw [laidOut_ok, mapsRowed_ok, c1, c2, c3, c4]
  kernel_rfl
theorem over : Rows.tokenExactRow.holds Tryz.pinned (OpenSpec.ofChange Rows.tokenExactSpec) :=
  OpenClaim.holds_of_wide 6 Tryz.f6 rfl rfl rfl rfl rfl rfl rfl ⟨rfl, rfl, rfl, rfl, rfl⟩ rfl rfl rfl rfl rfl (by kernel_rfl) Tryz.func6 closed
    (of_decide_eq_true (by kernel_rfl)) (by unfold Func.isWrapper; first | (rw [if_pos (by decide +kernel)]; kernel_rfl) | (rw [if_neg (by decide +kernel)]; exact ⟨rfl, rfl⟩))
    (fun os started H enc _ => lifted os started H enc)

theorem proved : Rows.TokenExactSaid :=
  over
#print axioms proved
end Go.Proofs.YtanioleniadhoaaGreat.tokenExact
