/-
  The law RegistryChecks.
-/
import Derived.Test.YthmahbfmfpjjcaaGreatHb
import Derived.Test.YthmahbfmfpjjcaaGreatG71
import Derived.Test.YthmahbfmfpjjcaaGreatG72
set_option linter.unusedVariables false
set_option linter.unusedSimpArgs false
namespace Go.Proofs.YthmahbfmfpjjcaaGreat
open Go.RowKit
open Jn Vn Rg
attribute [local go_sem] Oper.semAt_some

set_option maxRecDepth 100000 in
set_option maxHeartbeats 16000000 in
theorem lawChecks26_ok (z1 z2 : EntI) (w : World) (i1 : EntIn w z1) (i2 : EntIn w z2) : Calls Tryz.prog 3 #[.agg z1.cells.toArray, .agg z2.cells.toArray] w fun e w' => e = .returned (.bool true) ∧ Below w.heap.size w w' := by
  have hWk := fun W => works_ok W
  by_cases hsh : z1.e.aid.length ≤ 100 ∧ z1.e.dom.length ≤ 100 ∧ z2.e.aid.length ≤ 100 ∧ z2.e.dom.length ≤ 100
  · obtain ⟨l1, l2, l3, l4⟩ := hsh
    have cA : ∀ W, Mod Nowhere w W → Calls Tryz.prog 11 #[.agg (eCells z1.u z1.v z1.e).toArray] W fun r w' => r = .returned (errno (if pValid z1.e = true then 0 else 1 : Nat)) ∧ Mod Nowhere W w' := fun W hm => gCheck_ok (i1.inE.fresh hm) i1.n4.1 i1.n4.2
    have cB : ∀ W, Mod Nowhere w W → Calls Tryz.prog 12 #[.agg (eCells z1.u z1.v z1.e).toArray] W fun r w' => r = .returned (errno (if pValid z1.e = true then 0 else 1 : Nat)) ∧ Mod Nowhere W w' := fun W hm => by
      have := rCheck_ok (i1.inE.fresh hm) (by omega) (by omega)
      rw [← valid_same] at this
      exact this
    have sx : ∀ W, Mod Nowhere w W → ExS W ((z1.u, z1.v), z1.e) := fun W hm => ⟨(i1.inE.fresh hm).sa, (i1.inE.fresh hm).sd, i1.inE.ba, i1.inE.bd⟩
    have sy : ∀ W, Mod Nowhere w W → ExS W ((z2.u, z2.v), z2.e) := fun W hm => ⟨(i2.inE.fresh hm).sa, (i2.inE.fresh hm).sd, i2.inE.ba, i2.inE.bd⟩
    have cC : ∀ W, Mod Nowhere w W → Calls Tryz.prog 13 #[.agg (eCells z1.u z1.v z1.e).toArray, .agg (eCells z2.u z2.v z2.e).toArray] W fun r w' => r = .returned (.bool (decide (z1.e = z2.e))) ∧ Mod Nowhere W w' := fun W hm => gEnSame_ok (sx W hm) (sy W hm) (by show z1.e.aid.length ≤ 1000; omega) (by show z1.e.dom.length ≤ 1000; omega) (by show z2.e.aid.length ≤ 1000; omega) (by show z2.e.dom.length ≤ 1000; omega)
    have cD : ∀ W, Mod Nowhere w W → Calls Tryz.prog 14 #[.agg (eCells z1.u z1.v z1.e).toArray, .agg (eCells z2.u z2.v z2.e).toArray] W fun r w' => r = .returned (.bool (decide (z1.e = z2.e))) ∧ Mod Nowhere W w' := fun W hm => rEnSame_ok (sx W hm) (sy W hm) (by show z1.e.aid.length ≤ 1000; omega) (by show z1.e.dom.length ≤ 1000; omega) (by show z2.e.aid.length ≤ 1000; omega) (by show z2.e.dom.length ≤ 1000; omega)
    have cE : ∀ W, Mod Nowhere w W → Calls Tryz.prog 13 #[.agg (eCells z1.u z1.v z1.e).toArray, .agg (eCells z1.u z1.v z1.e).toArray] W fun r w' => r = .returned (.bool true) ∧ Mod Nowhere W w' := fun W hm => by
      have := gEnSame_ok (sx W hm) (sx W hm) (by show z1.e.aid.length ≤ 1000; omega) (by show z1.e.dom.length ≤ 1000; omega) (by show z1.e.aid.length ≤ 1000; omega) (by show z1.e.dom.length ≤ 1000; omega)
      rw [decide_eq_true rfl] at this
      exact this
    generalize decide (z1.e = z2.e) = q at *
    obtain ⟨ec, hec⟩ : ∃ ec : Nat, (if pValid z1.e = true then 0 else 1 : Nat) = ec := ⟨_, rfl⟩
    rw [hec] at cA cB
    obtain ⟨a1, c1, e1, -⟩ := i1.inE.sa
    obtain ⟨a2, c2, e2, -⟩ := i1.inE.sd
    obtain ⟨a3, c3, e3, -⟩ := i2.inE.sa
    obtain ⟨a4, c4, e4, -⟩ := i2.inE.sd
    clear i1 i2 sx sy hec
    obtain ⟨u1, v1, ⟨k1, s1, f1, p1, g1, o1, i1, d1⟩⟩ := z1
    obtain ⟨u2, v2, ⟨k2, s2, f2, p2, g2, o2, i2, d2⟩⟩ := z2
    unfold EntI.cells
    unfold eCells at *
    dsimp only at *
    subst e1 e2 e3 e4
    generalize i1.length = n1 at *
    generalize d1.length = n2 at *
    generalize i2.length = n3 at *
    generalize d2.length = n4 at *
    have hmZ := m2z w [.slice a1 n1 c1, .int .i64 k1, .int .i64 s1, .int .i64 f1, .int .i64 p1, .slice a2 n2 c2, .int .i64 g1, .int .i64 o1] [.slice a3 n3 c3, .int .i64 k2, .int .i64 s2, .int .i64 f2, .int .i64 p2, .slice a4 n4 c4, .int .i64 g2, .int .i64 o2] 24 24
    have hB := blk_b (w := w) [.slice a1 n1 c1, .int .i64 k1, .int .i64 s1, .int .i64 f1, .int .i64 p1, .slice a2 n2 c2, .int .i64 g1, .int .i64 o1] [.slice a3 n3 c3, .int .i64 k2, .int .i64 s2, .int .i64 f2, .int .i64 p2, .slice a4 n4 c4, .int .i64 g2, .int .i64 o2] 24 24
    have hF0 : ∀ W, Mod Nowhere ((w.alloc (.cells #[.slice a1 n1 c1, .int .i64 k1, .int .i64 s1, .int .i64 f1, .int .i64 p1, .slice a2 n2 c2, .int .i64 g1, .int .i64 o1] 24)).alloc (.cells #[.slice a3 n3 c3, .int .i64 k2, .int .i64 s2, .int .i64 f2, .int .i64 p2, .slice a4 n4 c4, .int .i64 g2, .int .i64 o2] 24)) W → W.cell? ⟨w.heap.size, 0, none⟩ = some (.slice a1 n1 c1) ∧ W.cell? ⟨w.heap.size, 1, none⟩ = some (.int .i64 k1) ∧ W.cell? ⟨w.heap.size, 2, none⟩ = some (.int .i64 s1) ∧ W.cell? ⟨w.heap.size, 3, none⟩ = some (.int .i64 f1) ∧ W.cell? ⟨w.heap.size, 4, none⟩ = some (.int .i64 p1) ∧ W.cell? ⟨w.heap.size, 5, none⟩ = some (.slice a2 n2 c2) ∧ W.cell? ⟨w.heap.size, 6, none⟩ = some (.int .i64 g1) ∧ W.cell? ⟨w.heap.size, 7, none⟩ = some (.int .i64 o1) ∧ W.cell? ⟨w.heap.size + 1, 0, none⟩ = some (.slice a3 n3 c3) ∧ W.cell? ⟨w.heap.size + 1, 1, none⟩ = some (.int .i64 k2) ∧ W.cell? ⟨w.heap.size + 1, 2, none⟩ = some (.int .i64 s2) ∧ W.cell? ⟨w.heap.size + 1, 3, none⟩ = some (.int .i64 f2) ∧ W.cell? ⟨w.heap.size + 1, 4, none⟩ = some (.int .i64 p2) ∧ W.cell? ⟨w.heap.size + 1, 5, none⟩ = some (.slice a4 n4 c4) ∧ W.cell? ⟨w.heap.size + 1, 6, none⟩ = some (.int .i64 g2) ∧ W.cell? ⟨w.heap.size + 1, 7, none⟩ = some (.int .i64 o2) ∧ w.heap.size < W.heap.size ∧ w.heap.size + 1 < W.heap.size := fun W hm => by
      obtain ⟨X, Y⟩ := hB W hm
      exact ⟨X.cell 0, X.cell 1, X.cell 2, X.cell 3, X.cell 4, X.cell 5, X.cell 6, X.cell 7, Y.cell 0, Y.cell 1, Y.cell 2, Y.cell 3, Y.cell 4, Y.cell 5, Y.cell 6, Y.cell 7, X.lt, Y.lt⟩
    have hdr := hmZ.drew
    have hF : ∀ W, Mod Nowhere ((w.alloc (.cells #[.slice a1 n1 c1, .int .i64 k1, .int .i64 s1, .int .i64 f1, .int .i64 p1, .slice a2 n2 c2, .int .i64 g1, .int .i64 o1] 24)).alloc (.cells #[.slice a3 n3 c3, .int .i64 k2, .int .i64 s2, .int .i64 f2, .int .i64 p2, .slice a4 n4 c4, .int .i64 g2, .int .i64 o2] 24)).drew W → W.cell? ⟨w.heap.size, 0, none⟩ = some (.slice a1 n1 c1) ∧ W.cell? ⟨w.heap.size, 1, none⟩ = some (.int .i64 k1) ∧ W.cell? ⟨w.heap.size, 2, none⟩ = some (.int .i64 s1) ∧ W.cell? ⟨w.heap.size, 3, none⟩ = some (.int .i64 f1) ∧ W.cell? ⟨w.heap.size, 4, none⟩ = some (.int .i64 p1) ∧ W.cell? ⟨w.heap.size, 5, none⟩ = some (.slice a2 n2 c2) ∧ W.cell? ⟨w.heap.size, 6, none⟩ = some (.int .i64 g1) ∧ W.cell? ⟨w.heap.size, 7, none⟩ = some (.int .i64 o1) ∧ W.cell? ⟨w.heap.size + 1, 0, none⟩ = some (.slice a3 n3 c3) ∧ W.cell? ⟨w.heap.size + 1, 1, none⟩ = some (.int .i64 k2) ∧ W.cell? ⟨w.heap.size + 1, 2, none⟩ = some (.int .i64 s2) ∧ W.cell? ⟨w.heap.size + 1, 3, none⟩ = some (.int .i64 f2) ∧ W.cell? ⟨w.heap.size + 1, 4, none⟩ = some (.int .i64 p2) ∧ W.cell? ⟨w.heap.size + 1, 5, none⟩ = some (.slice a4 n4 c4) ∧ W.cell? ⟨w.heap.size + 1, 6, none⟩ = some (.int .i64 g2) ∧ W.cell? ⟨w.heap.size + 1, 7, none⟩ = some (.int .i64 o2) ∧ w.heap.size < W.heap.size ∧ w.heap.size + 1 < W.heap.size := fun W hm => hF0 W ((Mod.refl Nowhere _).drew.trans hm)
    have hd0 := Mod.refl Nowhere ((w.alloc (.cells #[.slice a1 n1 c1, .int .i64 k1, .int .i64 s1, .int .i64 f1, .int .i64 p1, .slice a2 n2 c2, .int .i64 g1, .int .i64 o1] 24)).alloc (.cells #[.slice a3 n3 c3, .int .i64 k2, .int .i64 s2, .int .i64 f2, .int .i64 p2, .slice a4 n4 c4, .int .i64 g2, .int .i64 o2] 24)).drew
    have cA' := fun W (h : Mod Nowhere ((w.alloc (.cells #[.slice a1 n1 c1, .int .i64 k1, .int .i64 s1, .int .i64 f1, .int .i64 p1, .slice a2 n2 c2, .int .i64 g1, .int .i64 o1] 24)).alloc (.cells #[.slice a3 n3 c3, .int .i64 k2, .int .i64 s2, .int .i64 f2, .int .i64 p2, .slice a4 n4 c4, .int .i64 g2, .int .i64 o2] 24)).drew W) => cA W (hdr.trans h)
    have cB' := fun W (h : Mod Nowhere ((w.alloc (.cells #[.slice a1 n1 c1, .int .i64 k1, .int .i64 s1, .int .i64 f1, .int .i64 p1, .slice a2 n2 c2, .int .i64 g1, .int .i64 o1] 24)).alloc (.cells #[.slice a3 n3 c3, .int .i64 k2, .int .i64 s2, .int .i64 f2, .int .i64 p2, .slice a4 n4 c4, .int .i64 g2, .int .i64 o2] 24)).drew W) => cB W (hdr.trans h)
    have cC' := fun W (h : Mod Nowhere ((w.alloc (.cells #[.slice a1 n1 c1, .int .i64 k1, .int .i64 s1, .int .i64 f1, .int .i64 p1, .slice a2 n2 c2, .int .i64 g1, .int .i64 o1] 24)).alloc (.cells #[.slice a3 n3 c3, .int .i64 k2, .int .i64 s2, .int .i64 f2, .int .i64 p2, .slice a4 n4 c4, .int .i64 g2, .int .i64 o2] 24)).drew W) => cC W (hdr.trans h)
    have cD' := fun W (h : Mod Nowhere ((w.alloc (.cells #[.slice a1 n1 c1, .int .i64 k1, .int .i64 s1, .int .i64 f1, .int .i64 p1, .slice a2 n2 c2, .int .i64 g1, .int .i64 o1] 24)).alloc (.cells #[.slice a3 n3 c3, .int .i64 k2, .int .i64 s2, .int .i64 f2, .int .i64 p2, .slice a4 n4 c4, .int .i64 g2, .int .i64 o2] 24)).drew W) => cD W (hdr.trans h)
    have cE' := fun W (h : Mod Nowhere ((w.alloc (.cells #[.slice a1 n1 c1, .int .i64 k1, .int .i64 s1, .int .i64 f1, .int .i64 p1, .slice a2 n2 c2, .int .i64 g1, .int .i64 o1] 24)).alloc (.cells #[.slice a3 n3 c3, .int .i64 k2, .int .i64 s2, .int .i64 f2, .int .i64 p2, .slice a4 n4 c4, .int .i64 g2, .int .i64 o2] 24)).drew W) => cE W (hdr.trans h)
    have cW' := fun W (h : Mod Nowhere ((w.alloc (.cells #[.slice a1 n1 c1, .int .i64 k1, .int .i64 s1, .int .i64 f1, .int .i64 p1, .slice a2 n2 c2, .int .i64 g1, .int .i64 o1] 24)).alloc (.cells #[.slice a3 n3 c3, .int .i64 k2, .int .i64 s2, .int .i64 f2, .int .i64 p2, .slice a4 n4 c4, .int .i64 g2, .int .i64 o2] 24)).drew W) => works_ok W
    have b1 : ¬ (n1 : Int) > 100 := by omega
    have b2 : ¬ (n2 : Int) > 100 := by omega
    have b3 : ¬ (n3 : Int) > 100 := by omega
    have b4 : ¬ (n4 : Int) > 100 := by omega
    have j1 : ¬ 100 < n1 := by omega
    have j2 : ¬ 100 < n2 := by omega
    have j3 : ¬ 100 < n3 := by omega
    have j4 : ¬ 100 < n4 := by omega
    clear cA cB cC cD cE hB hF0
    replace cA' := Lib.hid cA'
    replace cB' := Lib.hid cB'
    replace cC' := Lib.hid cC'
    replace cD' := Lib.hid cD'
    replace cE' := Lib.hid cE'
    replace cW' := Lib.hid cW'
    replace hmZ := Lib.hid hmZ
    replace hF := Lib.hid hF
    replace hdr := Lib.hid hdr
    replace hd0 := Lib.hid hd0
    go_enter Tryz.func3, Tryz.ntmps3
    go_wp2_with fail
    go_region_held3 (fun W => W.cell? ⟨w.heap.size, 0, none⟩ = some (.slice a1 n1 c1) ∧ W.cell? ⟨w.heap.size, 1, none⟩ = some (.int .i64 k1) ∧ W.cell? ⟨w.heap.size, 2, none⟩ = some (.int .i64 s1) ∧ W.cell? ⟨w.heap.size, 3, none⟩ = some (.int .i64 f1) ∧ W.cell? ⟨w.heap.size, 4, none⟩ = some (.int .i64 p1) ∧ W.cell? ⟨w.heap.size, 5, none⟩ = some (.slice a2 n2 c2) ∧ W.cell? ⟨w.heap.size, 6, none⟩ = some (.int .i64 g1) ∧ W.cell? ⟨w.heap.size, 7, none⟩ = some (.int .i64 o1) ∧ W.cell? ⟨w.heap.size + 1, 0, none⟩ = some (.slice a3 n3 c3) ∧ W.cell? ⟨w.heap.size + 1, 1, none⟩ = some (.int .i64 k2) ∧ W.cell? ⟨w.heap.size + 1, 2, none⟩ = some (.int .i64 s2) ∧ W.cell? ⟨w.heap.size + 1, 3, none⟩ = some (.int .i64 f2) ∧ W.cell? ⟨w.heap.size + 1, 4, none⟩ = some (.int .i64 p2) ∧ W.cell? ⟨w.heap.size + 1, 5, none⟩ = some (.slice a4 n4 c4) ∧ W.cell? ⟨w.heap.size + 1, 6, none⟩ = some (.int .i64 g2) ∧ W.cell? ⟨w.heap.size + 1, 7, none⟩ = some (.int .i64 o2)) (simp [*, World.cell?_alloc_some, World.cell?_setCell_far, World.cell?_setCell_other])
      (first
      | (go_at_call 11; (with_reducible refine (cA'.out _ hd0.out).mono ?_); rintro e v1 ⟨rfl, hm1'⟩; have hm1 := hd0.out.trans hm1'; obtain ⟨z1_0, z1_1, z1_2, z1_3, z1_4, z1_5, z1_6, z1_7, z1_8, z1_9, z1_10, z1_11, z1_12, z1_13, z1_14, z1_15, z1_16, z1_17⟩ := hF.out v1 hm1; replace hm1 := Lib.hid hm1; clear hm1')
      | (go_at_call 12; (with_reducible refine (cB'.out _ hm1.out).mono ?_); rintro e v2 ⟨rfl, hm2'⟩; have hm2 := hm1.out.trans hm2'; obtain ⟨z2_0, z2_1, z2_2, z2_3, z2_4, z2_5, z2_6, z2_7, z2_8, z2_9, z2_10, z2_11, z2_12, z2_13, z2_14, z2_15, z2_16, z2_17⟩ := hF.out v2 hm2; replace hm2 := Lib.hid hm2; clear hm2')
      | (go_at_call 13; (with_reducible refine (cC'.out _ hm2.out).mono ?_); rintro e v3 ⟨rfl, hm3'⟩; have hm3 := hm2.out.trans hm3'; obtain ⟨z3_0, z3_1, z3_2, z3_3, z3_4, z3_5, z3_6, z3_7, z3_8, z3_9, z3_10, z3_11, z3_12, z3_13, z3_14, z3_15, z3_16, z3_17⟩ := hF.out v3 hm3; replace hm3 := Lib.hid hm3; clear hm3')
      | (go_at_call 14; (with_reducible refine (cD'.out _ hm3.out).mono ?_); rintro e v4 ⟨rfl, hm4'⟩; have hm4 := hm3.out.trans hm4'; obtain ⟨z4_0, z4_1, z4_2, z4_3, z4_4, z4_5, z4_6, z4_7, z4_8, z4_9, z4_10, z4_11, z4_12, z4_13, z4_14, z4_15, z4_16, z4_17⟩ := hF.out v4 hm4; replace hm4 := Lib.hid hm4; clear hm4')
      | (go_at_call 13; (with_reducible refine (cE'.out _ hm4.out).mono ?_); rintro e v5 ⟨rfl, hm5'⟩; have hm5 := hm4.out.trans hm5'; obtain ⟨z5_0, z5_1, z5_2, z5_3, z5_4, z5_5, z5_6, z5_7, z5_8, z5_9, z5_10, z5_11, z5_12, z5_13, z5_14, z5_15, z5_16, z5_17⟩ := hF.out v5 hm5; replace hm5 := Lib.hid hm5; clear hm5')
      | (go_at_call 10; (with_reducible refine (cW'.out _ hm5.out).mono ?_); rintro e v6 ⟨rfl, hm6'⟩; have hm6 := hm5.out.trans hm6'; obtain ⟨z6_0, z6_1, z6_2, z6_3, z6_4, z6_5, z6_6, z6_7, z6_8, z6_9, z6_10, z6_11, z6_12, z6_13, z6_14, z6_15, z6_16, z6_17⟩ := hF.out v6 hm6; replace hm6 := Lib.hid hm6; clear hm6')
      | fail)
    all_goals go_wp2
    all_goals go_ret
    all_goals exact ⟨rfl, (hdr.out.trans hm6.out).below⟩
  · obtain ⟨a1, c1, e1, -⟩ := i1.inE.sa
    obtain ⟨a2, c2, e2, -⟩ := i1.inE.sd
    obtain ⟨a3, c3, e3, -⟩ := i2.inE.sa
    obtain ⟨a4, c4, e4, -⟩ := i2.inE.sd
    clear i1 i2
    obtain ⟨u1, v1, ⟨k1, s1, f1, p1, g1, o1, i1, d1⟩⟩ := z1
    obtain ⟨u2, v2, ⟨k2, s2, f2, p2, g2, o2, i2, d2⟩⟩ := z2
    unfold EntI.cells
    unfold eCells
    dsimp only at *
    subst e1 e2 e3 e4
    generalize i1.length = n1 at *
    generalize d1.length = n2 at *
    generalize i2.length = n3 at *
    generalize d2.length = n4 at *
    refine Calls.mono (?_ : Calls _ _ _ _ (fun e w' => e = .returned (.bool true) ∧ Mod Nowhere w w')) (fun e w' h => ⟨h.1, h.2.below⟩)
    by_cases h1 : (n1 : Int) > 100
    · exact lawChecksL1 h1
    by_cases h2 : (n2 : Int) > 100
    · exact lawChecksL2 h1 h2
    by_cases h3 : (n3 : Int) > 100
    · exact lawChecksL3 h1 h2 h3
    by_cases h4 : (n4 : Int) > 100
    · exact lawChecksL4 h1 h2 h3 h4
    exact absurd ⟨by omega, by omega, by omega, by omega⟩ hsh
end Go.Proofs.YthmahbfmfpjjcaaGreat
