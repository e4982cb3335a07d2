/-
  The law PinNil: the walk.
-/
import Derived.Test.YtjanpegbemepgaaGreatPax
import Derived.Test.YtjanpegbemepgaaGreatG36
set_option linter.unusedVariables false
set_option linter.unusedSimpArgs false
namespace Go.Proofs.YtjanpegbemepgaaGreat
open Go.RowKit
open Jn Vn
attribute [local go_sem] Oper.semAt_some

set_option maxRecDepth 100000 in
set_option maxHeartbeats 16000000 in
theorem lawNil21_ok (id : Int) (z : Pin7) (a : Value) (zs : List Nat) (w : World) (hin : Pin7In w z) (hin2 : InBytes w a zs) : Calls Tryz.prog 5 #[.int .i64 id, .agg z.cells.toArray, a] w fun e w' => e = .returned (.bool true) ∧ Below w.heap.size w w' := by
  obtain ⟨did, vv, v, limit, lo, hi, uv, u, cl⟩ := z
  show Calls Tryz.prog 5 #[.int .i64 id, .agg #[.int .i64 did, vv, .int .i64 limit, .int .i64 lo, .int .i64 hi, uv, .int .i64 cl], a] w _
  clear hin hin2
  have hE := fun W => awake21_ok W
  have hbl : ∀ W : World, Mod Nowhere w W → Below w.heap.size w W := fun W h => h.below
  have hO := fun W => nOpen_ok W
  have b0 := Blk.new w [.int .i64 did, vv, .int .i64 limit, .int .i64 lo, .int .i64 hi, uv, .int .i64 cl] 35
  have m0 : Mod Nowhere w (w.alloc (.cells #[.int .i64 did, vv, .int .i64 limit, .int .i64 lo, .int .i64 hi, uv, .int .i64 cl] 35)) := (Mod.refl _ w).alloc _
  obtain ⟨W0, hW0⟩ : ∃ W0, w.alloc (.cells #[.int .i64 did, vv, .int .i64 limit, .int .i64 lo, .int .i64 hi, uv, .int .i64 cl] 35) = W0 := ⟨_, rfl⟩
  rw [hW0] at b0 m0
  have hkB : ∀ W, Mod Nowhere W0 W → (W.cell? ⟨w.heap.size, 0, none⟩ = some (.int .i64 did) ∧ W.cell? ⟨w.heap.size, 1, none⟩ = some vv ∧ W.cell? ⟨w.heap.size, 2, none⟩ = some (.int .i64 limit) ∧ W.cell? ⟨w.heap.size, 3, none⟩ = some (.int .i64 lo) ∧ W.cell? ⟨w.heap.size, 4, none⟩ = some (.int .i64 hi) ∧ W.cell? ⟨w.heap.size, 5, none⟩ = some uv ∧ W.cell? ⟨w.heap.size, 6, none⟩ = some (.int .i64 cl)) ∧ w.heap.size < W.heap.size := fun W hm => by
    have b := b0.mod hm (fun e => e)
    exact ⟨⟨b.cell 0, b.cell 1, b.cell 2, b.cell 3, b.cell 4, b.cell 5, b.cell 6⟩, b.lt⟩
  replace hE := Lib.hid hE
  replace hbl := Lib.hid hbl
  replace hO := Lib.hid hO
  replace b0 := Lib.hid b0
  replace m0 := Lib.hid m0
  replace hkB := Lib.hid hkB
  go_enter Tryz.func5, Tryz.ntmps5
  go_wp2_with fail
  refine (hO.out _).mono ?_
  rintro e w1 ⟨rfl, hm1⟩
  replace hm1 := Lib.hid hm1
  go_wp2
  go_loopw [9, 10] (fun p i wr => ∃ k : Nat, k ≤ 2 ∧ i = .int .i64 k ∧ NilP wr p ∧ Mod Nowhere W0 wr) (fun _ i _ => 2 - (RowKit.intOf i).toNat)
  case atStart => exact ⟨0, by omega, rfl, NilP.nil _, hm1.out⟩
  case round =>
    obtain ⟨k, hk, rfl, hN, hm⟩ := hrel
    by_cases hlt : k < 2
    · have hk2 : ((k : Int) < 2) := by omega
      have h1 := nVerify_ok hN id a
      replace hN := Lib.hid hN
      replace hm := Lib.hid hm
      replace h1 := Lib.hid h1
      go_wp2_with fail
      refine (h1.out).mono ?_
      rintro e w2 ⟨rfl, hm2⟩
      have h2 := nChange_ok (hN.out.fresh hm2) id a a
      replace hm2 := Lib.hid hm2
      replace h2 := Lib.hid h2
      go_wp2_with fail
      refine (h2.out).mono ?_
      rintro e w3 ⟨rfl, hm3⟩
      have hm13 := hm2.out.trans hm3
      have h3 := nUnblock_ok (hN.out.fresh hm13) id a a
      replace hm3 := Lib.hid hm3
      replace hm13 := Lib.hid hm13
      replace h3 := Lib.hid h3
      go_wp2_with fail
      refine (h3.out).mono ?_
      rintro e w4 ⟨rfl, hm4⟩
      have hm14 := hm13.out.trans hm4
      have h4 := nInfo_ok (hN.out.fresh hm14) id
      unfold zinfo at h4
      replace hm4 := Lib.hid hm4
      replace hm14 := Lib.hid hm14
      replace h4 := Lib.hid h4
      go_wp2_with fail
      refine (h4.out).mono ?_
      rintro e w5 ⟨rfl, hm5⟩
      have hm15 := hm14.out.trans hm5
      have hmx : Mod Nowhere wr (w5.alloc (.cells #[.int .i64 0, .int .i64 0, .int .i64 0, .int .i64 0] 62)) := hm15.alloc _
      have h5 := nCreate_ok (hN.out.fresh hmx) (.int .i64 did) vv (.int .i64 limit) (.int .i64 lo) (.int .i64 hi) uv (.int .i64 cl)
      obtain ⟨⟨k0, k1, k2, k3, k4, k5, k6⟩, kl⟩ := hkB.out w5 (hm.out.trans hm15)
      replace hm5 := Lib.hid hm5
      replace hm15 := Lib.hid hm15
      replace hmx := Lib.hid hmx
      replace h5 := Lib.hid h5
      go_wp2_with fail
      refine (h5.out).mono ?_
      rintro e w6 ⟨rfl, hm6⟩
      have hm16 := hmx.out.trans hm6
      have h6 := nDelete_ok (hN.out.fresh hm16) id
      clear k0 k1 k2 k3 k4 k5 k6 kl
      replace hm6 := Lib.hid hm6
      replace hm16 := Lib.hid hm16
      replace h6 := Lib.hid h6
      go_wp2_with fail
      refine (h6.out).mono ?_
      rintro e w7 ⟨rfl, hm7⟩
      have hm17 := hm16.out.trans hm7
      have h7 := nSet_ok (hN.out.fresh hm17) id a
      replace hm7 := Lib.hid hm7
      replace hm17 := Lib.hid hm17
      replace h7 := Lib.hid h7
      go_wp2_with fail
      refine (h7.out).mono ?_
      rintro e w8 ⟨rfl, hm8⟩
      have hm18 := hm17.out.trans hm8
      have h8 := nList_ok (hN.out.fresh hm18)
      replace hm8 := Lib.hid hm8
      replace hm18 := Lib.hid hm18
      replace h8 := Lib.hid h8
      go_wp2_with fail
      refine (h8.out).mono ?_
      rintro e w9 ⟨rfl, hm9⟩
      have hm19 := (hm.out.trans hm18.out).trans hm9
      have hf : ∃ k' : Nat, k' ≤ 2 ∧ Value.int .i64 ((k : Int) + 1) = .int .i64 k' ∧ NilP (w9.alloc (.cells #[.pointer none] 69)) (ptr w9.heap.size) ∧ Mod Nowhere W0 (w9.alloc (.cells #[.pointer none] 69)) :=
        ⟨k + 1, by omega, by go_num, NilP.empty (Blk.new w9 [.pointer none] 69), hm19.alloc _⟩
      replace hm9 := Lib.hid hm9
      replace hm19 := Lib.hid hm19
      replace hf := Lib.hid hf
      go_wp2
      go_roundw
      case rel => exact hf.out
      case measure => simp [RowKit.intOf]; omega
    · obtain rfl : k = 2 := by omega
      have hm0 := m0.out.trans hm
      replace hN := Lib.hid hN
      replace hm := Lib.hid hm
      replace hm0 := Lib.hid hm0
      go_wp2_with fail
      refine (hE.out _).mono ?_
      rintro e w2 ⟨rfl, hm2⟩
      have hfin := hbl.out _ (hm0.out.trans hm2)
      go_wp2
      go_ret
      exact ⟨rfl, hfin⟩
end Go.Proofs.YtjanpegbemepgaaGreat
