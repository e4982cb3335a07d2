/-
  The PINs: nil, or not opened.
-/
import Derived.Test.YtjanpegbemepgaaGreatG32
import Derived.Test.YtjanpegbemepgaaGreatPq
set_option linter.unusedVariables false
set_option linter.unusedSimpArgs false
namespace Go.Proofs.YtjanpegbemepgaaGreat
open Go.RowKit
open Jn Vn
attribute [local go_sem] Oper.semAt_some

/-- PINs that cannot be used. -/
structure NilP (w : World) (v : Value) : Prop where
  form : ∃ q, v = .pointer q
  ready : ∀ W, Mod Nowhere w W → Calls Tryz.prog 32 #[v] W fun e w' => e = .returned (errno 31) ∧ Mod Nowhere W w'
theorem NilP.fresh {w w' : World} {v : Value} (h : NilP w v) (hm : Mod Nowhere w w') : NilP w' v := ⟨h.form, fun W h1 => h.ready W (hm.trans h1)⟩
set_option maxRecDepth 100000 in
set_option maxHeartbeats 1000000 in
theorem NilP.nil (w : World) : NilP w (.pointer none) := by
  refine ⟨⟨_, rfl⟩, fun W hm => ?_⟩
  go_enter Tryz.func32, Tryz.ntmps32
  go_wp2
  go_ret
  exact ⟨rfl, Mod.refl _ _⟩
set_option maxRecDepth 100000 in
set_option maxHeartbeats 1000000 in
theorem NilP.empty {w : World} {pb : Nat} (hp : Blk w pb [.pointer none] 69) : NilP w (ptr pb) := by
  refine ⟨⟨_, rfl⟩, fun W hm => ?_⟩
  have hb := hp.mod hm (fun e => e)
  have c0 := hb.cell 0
  have cl := hb.lt
  simp only [List.getElem?_cons_zero] at c0
  clear hb
  replace hm := Lib.hid hm
  replace hp := Lib.hid hp
  go_enter Tryz.func32, Tryz.ntmps32
  go_wp2
  go_ret
  exact ⟨rfl, Mod.refl _ _⟩
set_option maxRecDepth 100000 in
set_option maxHeartbeats 1000000 in
theorem nOpen_ok (w : World) : Calls Tryz.prog 22 #[.pointer none] w fun e w' => e = .returned (.tuple #[.pointer none, errno 31]) ∧ Mod Nowhere w w' := by
  go_enter Tryz.func22, Tryz.ntmps22
  go_wp2
  go_ret2
  exact ⟨rfl, Mod.refl _ _⟩
section
variable {w : World} {v : Value}
set_option maxRecDepth 100000 in
set_option maxHeartbeats 1000000 in
theorem nVerify_ok (h : NilP w v) (id : Int) (a : Value) : Calls Tryz.prog 13 #[v, .int .i64 id, a] w fun e w' => e = .returned (.tuple #[.int .i64 0, errno 31]) ∧ Mod Nowhere w w' := by
  have hR := h.ready w (Mod.refl _ _)
  replace hR := Lib.hid hR
  replace h := Lib.hid h
  go_enter Tryz.func13, Tryz.ntmps13
  go_wp2_with fail
  refine (hR.out).mono ?_
  rintro e w1 ⟨rfl, hm1⟩
  go_wp2
  go_ret2
  exact ⟨rfl, hm1⟩
set_option maxRecDepth 100000 in
set_option maxHeartbeats 1000000 in
theorem nChange_ok (h : NilP w v) (id : Int) (a b : Value) : Calls Tryz.prog 23 #[v, .int .i64 id, a, b] w fun e w' => e = .returned (.tuple #[.int .i64 0, errno 31]) ∧ Mod Nowhere w w' := by
  have hR := h.ready w (Mod.refl _ _)
  replace hR := Lib.hid hR
  replace h := Lib.hid h
  go_enter Tryz.func23, Tryz.ntmps23
  go_wp2_with fail
  refine (hR.out).mono ?_
  rintro e w1 ⟨rfl, hm1⟩
  go_wp2
  go_ret2
  exact ⟨rfl, hm1⟩
set_option maxRecDepth 100000 in
set_option maxHeartbeats 1000000 in
theorem nUnblock_ok (h : NilP w v) (id : Int) (a b : Value) : Calls Tryz.prog 24 #[v, .int .i64 id, a, b] w fun e w' => e = .returned (.tuple #[.int .i64 0, errno 31]) ∧ Mod Nowhere w w' := by
  have hR := h.ready w (Mod.refl _ _)
  replace hR := Lib.hid hR
  replace h := Lib.hid h
  go_enter Tryz.func24, Tryz.ntmps24
  go_wp2_with fail
  refine (hR.out).mono ?_
  rintro e w1 ⟨rfl, hm1⟩
  go_wp2
  go_ret2
  exact ⟨rfl, hm1⟩
set_option maxRecDepth 100000 in
set_option maxHeartbeats 1000000 in
theorem nSet_ok (h : NilP w v) (id : Int) (a : Value) : Calls Tryz.prog 27 #[v, .int .i64 id, a] w fun e w' => e = .returned (errno 31) ∧ Mod Nowhere w w' := by
  have hR := h.ready w (Mod.refl _ _)
  replace hR := Lib.hid hR
  replace h := Lib.hid h
  go_enter Tryz.func27, Tryz.ntmps27
  go_wp2_with fail
  refine (hR.out).mono ?_
  rintro e w1 ⟨rfl, hm1⟩
  go_wp2
  go_ret
  exact ⟨rfl, hm1⟩
set_option maxRecDepth 100000 in
set_option maxHeartbeats 1000000 in
theorem nCreate_ok (h : NilP w v) (c0 c1 c2 c3 c4 c5 c6 : Value) : Calls Tryz.prog 8 #[v, .agg #[c0, c1, c2, c3, c4, c5, c6]] w fun e w' => e = .returned (errno 31) ∧ Mod Nowhere w w' := by
  have hm0 : Mod Nowhere w (w.alloc (.cells #[c0, c1, c2, c3, c4, c5, c6] 35)) := (Mod.refl _ w).alloc _
  have hR := h.ready _ hm0
  replace hR := Lib.hid hR
  replace h := Lib.hid h
  replace hm0 := Lib.hid hm0
  go_enter Tryz.func8, Tryz.ntmps8
  go_wp2_with fail
  refine (hR.out).mono ?_
  rintro e w1 ⟨rfl, hm1⟩
  go_wp2
  go_ret
  exact ⟨rfl, hm0.out.trans hm1⟩
set_option maxRecDepth 100000 in
set_option maxHeartbeats 1000000 in
theorem nDelete_ok (h : NilP w v) (id : Int) : Calls Tryz.prog 26 #[v, .int .i64 id] w fun e w' => e = .returned (errno 31) ∧ Mod Nowhere w w' := by
  obtain ⟨q, rfl⟩ := h.form
  obtain ⟨b0, b1, hm0⟩ := boxes2 w [.pointer q] [.int .i64 id] 26 3
  have hR := h.ready _ hm0
  have k0 := b0.cell 0
  have l0 := b0.lt
  simp only [List.getElem?_cons_zero] at k0
  clear b1
  replace hR := Lib.hid hR
  replace h := Lib.hid h
  replace hm0 := Lib.hid hm0
  replace b0 := Lib.hid b0
  go_enter Tryz.func26, Tryz.ntmps26
  go_wp2_with fail
  refine (hR.out).mono ?_
  rintro e w1 ⟨rfl, hm1⟩
  go_wp2
  go_ret
  exact ⟨rfl, hm0.out.trans hm1⟩
set_option maxRecDepth 100000 in
set_option maxHeartbeats 1000000 in
theorem nList_ok (h : NilP w v) : Calls Tryz.prog 28 #[v] w fun e w' => e = .returned (.slice none 0 0) ∧ Mod Nowhere w w' := by
  have hR := h.ready w (Mod.refl _ _)
  replace hR := Lib.hid hR
  replace h := Lib.hid h
  go_enter Tryz.func28, Tryz.ntmps28
  go_wp2_with fail
  refine (hR.out).mono ?_
  rintro e w1 ⟨rfl, hm1⟩
  go_wp2
  go_ret
  exact ⟨rfl, hm1⟩
set_option maxRecDepth 100000 in
set_option maxHeartbeats 1000000 in
theorem nInfo_ok (h : NilP w v) (id : Int) : Calls Tryz.prog 25 #[v, .int .i64 id] w fun e w' => e = .returned (.tuple #[zinfo, .bool false]) ∧ Mod Nowhere w w' := by
  have hmA : Mod Nowhere w (w.alloc (.cells #[.int .i64 0, .int .i64 0, .int .i64 0, .int .i64 0] 62)) := (Mod.refl _ w).alloc _
  have hR := h.ready _ hmA
  replace hR := Lib.hid hR
  replace h := Lib.hid h
  replace hmA := Lib.hid hmA
  go_enter Tryz.func25, Tryz.ntmps25
  go_wp2_with fail
  refine (hR.out).mono ?_
  rintro e w1 ⟨rfl, hm1⟩
  have hbI : Blk w1 w.heap.size [.int .i64 0, .int .i64 0, .int .i64 0, .int .i64 0] 62 := (Blk.new w [.int .i64 0, .int .i64 0, .int .i64 0, .int .i64 0] 62).mod hm1 (fun e => e)
  have k0 := hbI.cell 0
  have k1 := hbI.cell 1
  have k2 := hbI.cell 2
  have k3 := hbI.cell 3
  simp only [List.getElem?_cons_zero, List.getElem?_cons_succ] at k0 k1 k2 k3
  have kf := hbI.frozen
  have kl := hbI.lt
  have hm12 := hmA.out.trans hm1
  replace hbI := Lib.hid hbI
  replace hm12 := Lib.hid hm12
  replace hm1 := Lib.hid hm1
  go_wp2
  obtain ⟨hbE, hmE⟩ := set4 hbI.out hm12.out (Nat.le_refl _) (.int .i64 0) (.int .i64 0) (.int .i64 0) (.int .i64 0)
  exact bodyPost_ret (ret_info rfl _ _ w.heap.size _ _ _ _ rfl hbE) rfl ⟨rfl, hmE⟩
end
end Go.Proofs.YtjanpegbemepgaaGreat
