/-
  The law of chapter 25 about objects that are nil: the walk.
-/
import Derived.Test.YtikkodanpbmmkaaGreatG21
set_option linter.unusedVariables false
set_option linter.unusedSimpArgs false
namespace Go.Proofs.YtikkodanpbmmkaaGreat
open Go.RowKit
open Jn Vn
attribute [local go_sem] Oper.semAt_some

set_option maxRecDepth 100000 in
theorem lState_nil (w : World) : Calls Tryz.prog 26 #[.pointer none] w fun e w' => e = .returned (.int .i64 0) ∧ w = w' := by
  go_enter Tryz.func26, Tryz.ntmps26
  go_wp2
  go_ret
  exact ⟨rfl, rfl⟩
set_option maxRecDepth 100000 in
theorem lSet_nil (w : World) (t : Int) : Calls Tryz.prog 24 #[.pointer none, .int .i64 t] w fun e w' => e = .returned (errno 31) ∧ w = w' := by
  go_enter Tryz.func24, Tryz.ntmps24
  go_wp2
  go_ret
  exact ⟨rfl, rfl⟩
set_option maxRecDepth 100000 in
theorem lState_zero {w : World} {b : Nat} (h : w.cell? ⟨b, 0, none⟩ = some (.pointer none)) (hb : b < w.heap.size) : Calls Tryz.prog 26 #[ptr b] w fun e w' => e = .returned (.int .i64 0) ∧ w = w' := by
  go_enter Tryz.func26, Tryz.ntmps26
  go_wp2
  go_ret
  exact ⟨rfl, rfl⟩
set_option maxRecDepth 100000 in
theorem lSet_zero {w : World} {b : Nat} (h : w.cell? ⟨b, 0, none⟩ = some (.pointer none)) (hb : b < w.heap.size) (t : Int) : Calls Tryz.prog 24 #[ptr b, .int .i64 t] w fun e w' => e = .returned (errno 31) ∧ w = w' := by
  go_enter Tryz.func24, Tryz.ntmps24
  go_wp2
  go_ret
  exact ⟨rfl, rfl⟩
set_option maxRecDepth 100000 in
theorem lOpen_nil (w : World) : Calls Tryz.prog 23 #[.pointer none] w fun e w' => e = .returned (.tuple #[.pointer none, errno 31]) ∧ w = w' := by
  go_enter Tryz.func23, Tryz.ntmps23
  go_wp2
  go_ret2
  exact ⟨rfl, rfl⟩
set_option maxRecDepth 100000 in
set_option maxHeartbeats 2000000 in
theorem lawNil25_ok (t : Int) (w : World) : Calls Tryz.prog 5 #[.int .i64 t] w fun e w' => e = .returned (.bool true) ∧ Below w.heap.size w w' := by
  have hE := fun W => example25_ok W
  have hO := fun W => lOpen_nil W
  have hm0 : Mod Nowhere w ((w.alloc (.cells #[.pointer none] 42)).alloc (.cells #[.pointer none, .pointer (some ⟨w.heap.size, 0, none⟩)] 35)) := ((Mod.refl _ w).alloc _).alloc _
  have hb1 : Blk ((w.alloc (.cells #[.pointer none] 42)).alloc (.cells #[.pointer none, .pointer (some ⟨w.heap.size, 0, none⟩)] 35)) w.heap.size [.pointer none] 42 := (Blk.new w _ _).alloc _
  have hb2 : Blk ((w.alloc (.cells #[.pointer none] 42)).alloc (.cells #[.pointer none, .pointer (some ⟨w.heap.size, 0, none⟩)] 35)) (w.heap.size + 1) [.pointer none, .pointer (some ⟨w.heap.size, 0, none⟩)] 35 := by
    have h := Blk.new (w.alloc (.cells #[.pointer none] 42)) [.pointer none, .pointer (some ⟨w.heap.size, 0, none⟩)] 35
    simpa using h
  replace hE := Lib.hid hE
  replace hO := Lib.hid hO
  replace hm0 := Lib.hid hm0
  replace hb1 := Lib.hid hb1
  replace hb2 := Lib.hid hb2
  go_enter Tryz.func5, Tryz.ntmps5
  go_wp2
  obtain ⟨W, hW⟩ : ∃ W, (w.alloc (.cells #[.pointer none] 42)).alloc (.cells #[.pointer none, .pointer (some ⟨w.heap.size, 0, none⟩)] 35) = W := ⟨_, rfl⟩
  rw [hW] at hm0 hb1 hb2
  rw [hW]
  replace hW := Lib.hid hW
  have hl1 := hb1.out.lt
  have hl2 := hb2.out.lt
  have c1 := hb1.out.cell 0
  have c2 := hb2.out.cell 0
  have c3 := hb2.out.cell 1
  simp only [List.getElem?_cons_zero, List.getElem?_cons_succ] at c1 c2 c3
  have hS0 := lState_nil W
  have hT0 := lSet_nil W t
  have hS1 := lState_zero c1 hl1
  have hT1 := lSet_zero c1 hl1 t
  obtain ⟨B, hB⟩ : ∃ B, w.heap.size = B := ⟨_, rfl⟩
  rw [hB] at c1 c2 c3 hl1 hl2 hS1 hT1 ⊢
  replace hB := Lib.hid hB
  replace hS0 := Lib.hid hS0
  replace hT0 := Lib.hid hT0
  replace hS1 := Lib.hid hS1
  replace hT1 := Lib.hid hT1
  go_loopw [4] (fun i wr => (i = .int .i64 0 ∨ i = .int .i64 1 ∨ i = .int .i64 2) ∧ W = wr) (fun i _ => 2 - (intOf i).toNat)
  case atStart => exact ⟨.inl rfl, rfl⟩
  case round =>
    obtain ⟨rfl | rfl | rfl, rfl⟩ := hrel
    · go_wp2_with fail
      refine hS0.out.mono ?_
      rintro e w1 ⟨rfl, rfl⟩
      go_wp2_with fail
      refine hT0.out.mono ?_
      rintro e w1 ⟨rfl, rfl⟩
      go_wp2
      go_roundw
      case rel => exact ⟨.inr (.inl rfl), trivial⟩
      case measure => decide
    · go_wp2_with fail
      refine hS1.out.mono ?_
      rintro e w1 ⟨rfl, rfl⟩
      go_wp2_with fail
      refine hT1.out.mono ?_
      rintro e w1 ⟨rfl, rfl⟩
      go_wp2
      go_roundw
      case rel => exact ⟨.inr (.inr rfl), trivial⟩
      case measure => decide
    · go_wp2_with fail
      refine (hO.out _).mono ?_
      rintro e w1 ⟨rfl, rfl⟩
      go_wp2_with fail
      refine (hE.out _).mono ?_
      rintro e w2 ⟨rfl, hm2⟩
      have hfin := (hm0.out.trans hm2).below
      replace hfin := Lib.hid hfin
      go_wp2
      go_ret
      exact ⟨rfl, hfin.out⟩
end Go.Proofs.YtikkodanpbmmkaaGreat
