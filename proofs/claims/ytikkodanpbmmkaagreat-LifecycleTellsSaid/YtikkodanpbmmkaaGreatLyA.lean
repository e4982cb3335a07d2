/-
  The laws of chapter 25 that take numbers: the walks.
-/
import Derived.Test.YtikkodanpbmmkaaGreatG21
import Derived.Test.YtikkodanpbmmkaaGreatG20
set_option linter.unusedVariables false
set_option linter.unusedSimpArgs false
namespace Go.Proofs.YtikkodanpbmmkaaGreat
open Go.RowKit
open Jn Vn
attribute [local go_sem] Oper.semAt_some

theorem turn_no {l : List Rw} {back : Bool} {n : Int} (h : ∀ r ∈ l, (((if back then r.2 else r.1) : Nat) : Int) ≠ n) : turn l back n = (0, 2) := by
  unfold turn
  rw [List.find?_eq_none.2 fun r hr => by simpa using h r hr]
theorem findB_back {k n : Int} (h : (findB k false n).2 = 0) : findB k true (findB k false n).1 = (n, 0) := by
  unfold findB at *
  unfold rws at *
  by_cases h0 : k = 0
  · subst h0
    simp only [if_true] at *
    by_cases c : n = 1 ∨ n = 2 ∨ n = 3 ∨ n = 4 ∨ n = 5
    · rcases c with rfl | rfl | rfl | rfl | rfl <;> rfl
    · rw [turn_no (back := false) (n := n) (by simp; omega)] at h
      cases h
  · simp only [if_neg h0] at *
    by_cases h3 : k = 3
    · subst h3
      simp only [if_true] at *
      by_cases c : n = 1
      · subst c; rfl
      · rw [turn_no (back := false) (n := n) (by simp; omega)] at h
        cases h
    · simp only [if_neg h3] at *
      by_cases h12 : k = 1 ∨ k = 2
      · simp only [if_pos h12] at *
        by_cases c : n = 2 ∨ n = 3 ∨ n = 4 ∨ n = 5
        · rcases c with rfl | rfl | rfl | rfl <;> rfl
        · rw [turn_no (back := false) (n := n) (by simp; omega)] at h
          cases h
      · simp only [if_neg h12] at *
        cases h
set_option maxRecDepth 100000 in
set_option maxHeartbeats 4000000 in
theorem lawBytes_ok (k n : Int) (w : World) : Calls Tryz.prog 3 #[.int .i64 k, .int .i64 n] w fun e w' => e = .returned (.bool true) ∧ Below w.heap.size w w' := by
  have h1 := fun W => byte_ok (w := W) k n
  have h2 := fun W => rByte_ok (w := W) k n
  have h3 := fun W => stateOf_ok (w := W) k n
  have h4 := fun W => rState_ok (w := W) k n
  have h5 := fun W => stateOf_ok (w := W) k (findB k false n).1
  have hb : (findB k false n).2 = 0 → (findB k true (findB k false n).1).1 = n ∧ (findB k true (findB k false n).1).2 = 0 := fun h => by rw [findB_back h]; exact ⟨rfl, rfl⟩
  have hE := fun W => example25_ok W
  rw [show findPost = fun w k n back e w' => e = .returned (.tuple #[.int .i64 (findB k back n).1, errno (findB k back n).2]) ∧ Mod Nowhere w w' from rfl] at h1 h2 h3 h4 h5
  dsimp only at h1 h2 h3 h4 h5
  generalize (findB k true (findB k false n).1).1 = za at *
  generalize (findB k true (findB k false n).1).2 = ze at *
  generalize (findB k false n).1 = ra at *
  generalize (findB k false n).2 = re at *
  generalize (findB k true n).1 = qa at *
  generalize (findB k true n).2 = qe at *
  replace h1 := Lib.hid h1
  replace h2 := Lib.hid h2
  replace h3 := Lib.hid h3
  replace h4 := Lib.hid h4
  replace h5 := Lib.hid h5
  replace hE := Lib.hid hE
  have hbl : ∀ W : World, Mod Nowhere w W → Below w.heap.size w W := fun W h => h.below
  replace hbl := Lib.hid hbl
  by_cases hz : re = 0
  · obtain ⟨rfl, rfl⟩ := hb hz
    subst hz
    clear hb
    go_enter Tryz.func3, Tryz.ntmps3
    go_wp2_with fail
    refine (h1.out _).mono ?_
    rintro e w1 ⟨rfl, m1⟩
    replace m1 := Lib.hid m1
    go_wp2_with fail
    refine (h2.out _).mono ?_
    rintro e w2 ⟨rfl, m2⟩
    replace m2 := Lib.hid m2
    go_wp2_with fail
    refine (h3.out _).mono ?_
    rintro e w3 ⟨rfl, m3⟩
    replace m3 := Lib.hid m3
    go_wp2_with fail
    refine (h4.out _).mono ?_
    rintro e w4 ⟨rfl, m4⟩
    replace m4 := Lib.hid m4
    go_wp2_with fail
    refine (h5.out _).mono ?_
    rintro e w5 ⟨rfl, m5⟩
    replace m5 := Lib.hid m5
    go_wp2_with fail
    refine (hE.out _).mono ?_
    rintro e w6 ⟨rfl, m6⟩
    go_wp2
    go_ret
    exact ⟨rfl, hbl.out _ (((((m1.out.trans m2.out).trans m3.out).trans m4.out).trans m5.out).trans m6)⟩
  · have hz1 : (((re : Nat) : Int) == 0) = false := by simpa using hz
    clear hb
    go_enter Tryz.func3, Tryz.ntmps3
    go_wp2_with fail
    refine (h1.out _).mono ?_
    rintro e w1 ⟨rfl, m1⟩
    replace m1 := Lib.hid m1
    go_wp2_with fail
    refine (h2.out _).mono ?_
    rintro e w2 ⟨rfl, m2⟩
    replace m2 := Lib.hid m2
    go_wp2_with fail
    refine (h3.out _).mono ?_
    rintro e w3 ⟨rfl, m3⟩
    replace m3 := Lib.hid m3
    go_wp2_with fail
    refine (h4.out _).mono ?_
    rintro e w4 ⟨rfl, m4⟩
    replace m4 := Lib.hid m4
    go_wp2_with fail
    refine (hE.out _).mono ?_
    rintro e w6 ⟨rfl, m6⟩
    go_wp2
    go_ret
    exact ⟨rfl, hbl.out _ ((((m1.out.trans m2.out).trans m3.out).trans m4.out).trans m6)⟩
set_option maxRecDepth 100000 in
set_option maxHeartbeats 4000000 in
theorem lawTells_ok (k f t : Int) (w : World) : Calls Tryz.prog 6 #[.int .i64 k, .int .i64 f, .int .i64 t] w fun e w' => e = .returned (.bool true) ∧ Below w.heap.size w w' := by
  have h1 := fun W => card_ok (w := W) f t
  have h2 := fun W => rCard_ok (w := W) f t
  have h3 := fun W => app_ok (w := W) k f t
  have h4 := fun W => rAppAll_ok (w := W) k f t
  have hE := fun W => example25_ok W
  have hbl : ∀ W : World, Mod Nowhere w W → Below w.heap.size w W := fun W h => h.below
  generalize cardB f t = a at *
  generalize appB k f t = b at *
  replace h1 := Lib.hid h1
  replace h2 := Lib.hid h2
  replace h3 := Lib.hid h3
  replace h4 := Lib.hid h4
  replace hE := Lib.hid hE
  replace hbl := Lib.hid hbl
  cases a <;> cases b
  all_goals
    go_enter Tryz.func6, Tryz.ntmps6
    go_wp2_with fail
    refine (h1.out _).mono ?_
    rintro e w1 ⟨rfl, m1⟩
    replace m1 := Lib.hid m1
    go_wp2_with fail
    refine (h2.out _).mono ?_
    rintro e w2 ⟨rfl, rfl⟩
    go_wp2_with fail
    refine (h3.out _).mono ?_
    rintro e w3 ⟨rfl, m3⟩
    replace m3 := Lib.hid m3
    go_wp2_with fail
    refine (h4.out _).mono ?_
    rintro e w4 ⟨rfl, rfl⟩
    go_wp2_with fail
    refine (hE.out _).mono ?_
    rintro e w6 ⟨rfl, m6⟩
    go_wp2
    go_ret
    exact ⟨rfl, hbl.out _ ((m1.out.trans m3.out).trans m6)⟩
end Go.Proofs.YtikkodanpbmmkaaGreat
