/-
  The law RegistryNobody.
-/
import Derived.Test.YthmahbfmfpjjcaaGreatG71
import Derived.Test.YthmahbfmfpjjcaaGreatHn
import Derived.Test.YthmahbfmfpjjcaaGreatG72
set_option linter.unusedVariables false
set_option linter.unusedSimpArgs false
namespace Go.Proofs.YthmahbfmfpjjcaaGreat
open Go.RowKit
open Jn Vn Rg
attribute [local go_sem] Oper.semAt_some

set_option maxRecDepth 100000 in
set_option maxHeartbeats 4000000 in
theorem lawNobodyL1 {w : World} {a1 a2 a3 : Option Addr} {n1 n2 c1 c2 c3 : Nat} {k st bf pr pk ob : Int} {n3 : Nat} (h1 : (n1 : Int) > 100) : Calls Tryz.prog 4 #[.agg #[.slice a1 n1 c1, .int .i64 k, .int .i64 st, .int .i64 bf, .int .i64 pr, .slice a2 n2 c2, .int .i64 pk, .int .i64 ob], .slice a3 n3 c3] w fun e w' => e = .returned (.bool true) ∧ Mod Nowhere w w' := by
  have hm0 := m1 w [.slice a1 n1 c1, .int .i64 k, .int .i64 st, .int .i64 bf, .int .i64 pr, .slice a2 n2 c2, .int .i64 pk, .int .i64 ob] 24
  have hWk := fun W => works_ok W
  have j1 : 100 < n1 := by omega
  replace hWk := Lib.hid hWk
  replace hm0 := Lib.hid hm0
  go_enter Tryz.func4, Tryz.ntmps4
  go_wp2_with fail
  refine (hWk.out _).mono ?_
  rintro e w9 ⟨rfl, hm9⟩
  go_wp2
  go_ret
  exact ⟨rfl, hm0.out.trans hm9⟩
set_option maxRecDepth 100000 in
set_option maxHeartbeats 4000000 in
theorem lawNobodyL2 {w : World} {a1 a2 a3 : Option Addr} {n1 n2 c1 c2 c3 : Nat} {k st bf pr pk ob : Int} {n3 : Nat} (h1 : ¬ (n1 : Int) > 100) (h2 : (n2 : Int) > 100) : Calls Tryz.prog 4 #[.agg #[.slice a1 n1 c1, .int .i64 k, .int .i64 st, .int .i64 bf, .int .i64 pr, .slice a2 n2 c2, .int .i64 pk, .int .i64 ob], .slice a3 n3 c3] w fun e w' => e = .returned (.bool true) ∧ Mod Nowhere w w' := by
  have hm0 := m1 w [.slice a1 n1 c1, .int .i64 k, .int .i64 st, .int .i64 bf, .int .i64 pr, .slice a2 n2 c2, .int .i64 pk, .int .i64 ob] 24
  have hWk := fun W => works_ok W
  have j1 : ¬ 100 < n1 := by omega
  have j2 : 100 < n2 := by omega
  replace hWk := Lib.hid hWk
  replace hm0 := Lib.hid hm0
  go_enter Tryz.func4, Tryz.ntmps4
  go_wp2_with fail
  refine (hWk.out _).mono ?_
  rintro e w9 ⟨rfl, hm9⟩
  go_wp2
  go_ret
  exact ⟨rfl, hm0.out.trans hm9⟩
set_option maxRecDepth 100000 in
set_option maxHeartbeats 4000000 in
theorem lawNobodyL3 {w : World} {a1 a2 a3 : Option Addr} {n1 n2 c1 c2 c3 : Nat} {k st bf pr pk ob : Int} {n3 : Nat} (h1 : ¬ (n1 : Int) > 100) (h2 : ¬ (n2 : Int) > 100) (h3 : (n3 : Int) > 100) : Calls Tryz.prog 4 #[.agg #[.slice a1 n1 c1, .int .i64 k, .int .i64 st, .int .i64 bf, .int .i64 pr, .slice a2 n2 c2, .int .i64 pk, .int .i64 ob], .slice a3 n3 c3] w fun e w' => e = .returned (.bool true) ∧ Mod Nowhere w w' := by
  have hm0 := m1 w [.slice a1 n1 c1, .int .i64 k, .int .i64 st, .int .i64 bf, .int .i64 pr, .slice a2 n2 c2, .int .i64 pk, .int .i64 ob] 24
  have hWk := fun W => works_ok W
  have j1 : ¬ 100 < n1 := by omega
  have j2 : ¬ 100 < n2 := by omega
  have j3 : 100 < n3 := by omega
  replace hWk := Lib.hid hWk
  replace hm0 := Lib.hid hm0
  go_enter Tryz.func4, Tryz.ntmps4
  go_wp2_with fail
  refine (hWk.out _).mono ?_
  rintro e w9 ⟨rfl, hm9⟩
  go_wp2
  go_ret
  exact ⟨rfl, hm0.out.trans hm9⟩
theorem gList_nil2 (W : World) : Calls Tryz.prog 24 #[.pointer none] W fun e w' => ∃ va vc, e = .returned (.slice va 0 vc) ∧ Mod Nowhere W w' := by
  refine (gList_nil W).mono ?_
  rintro e w' ⟨v, xs, rfl, hs, hx, hm⟩
  have h0 : xs.length = 0 := by rw [← exps_len, hx]; rfl
  obtain ⟨va, vc, rfl, -⟩ := hs.sl.gen
  rw [h0]
  exact ⟨va, vc, rfl, hm⟩
theorem fpost_nil {P : FuncId} {args : Array Value} {W : World} (h : Calls Tryz.prog P args W (FPost W none)) : Calls Tryz.prog P args W fun e w' => ∃ ra ta rd td, e = .returned (.tuple #[.agg #[.slice ra 0 ta, .int .i64 0, .int .i64 0, .int .i64 0, .int .i64 0, .slice rd 0 td, .int .i64 0, .int .i64 0], .bool false]) ∧ Mod Nowhere W w' := by
  refine h.mono ?_
  rintro e w' ⟨u, v, rfl, d1, d2, hm⟩
  obtain ⟨r1, t1, hu, -⟩ := Sl.len d1
  obtain ⟨r2, t2, hv, -⟩ := Sl.len d2
  have hu : u = .slice r1 0 t1 := hu
  have hv : v = .slice r2 0 t2 := hv
  subst hu hv
  exact ⟨r1, t1, r2, t2, rfl, hm⟩
set_option maxRecDepth 100000 in
set_option maxHeartbeats 16000000 in
theorem lawNobodyS {w : World} {a1 a2 a3 : Option Addr} {n1 n2 c1 c2 c3 : Nat} {k st bf pr pk ob : Int} {b : List Nat} (hs : Src w (.slice a3 b.length c3) b) (h1 : ¬ (n1 : Int) > 100) (h2 : ¬ (n2 : Int) > 100) (h3 : ¬ (b.length : Int) > 100) : Calls Tryz.prog 4 #[.agg #[.slice a1 n1 c1, .int .i64 k, .int .i64 st, .int .i64 bf, .int .i64 pr, .slice a2 n2 c2, .int .i64 pk, .int .i64 ob], .slice a3 b.length c3] w fun e w' => e = .returned (.bool true) ∧ Mod Nowhere w w' := by
  have hO := gOpen_nil
  have hFi := fun W (hm : Mod Nowhere w W) => fpost_nil (gFind_nil W (hs.fresh hm))
  have hNx := fun W (hm : Mod Nowhere w W) => fpost_nil (gNext_nil W (hs.fresh hm) (src_nil W))
  have hDe := fun W => fpost_nil (gDef_nil W)
  have hAd := fun W => gAdd_nil W a1 a2 n1 n2 c1 c2 k st bf pr pk ob
  have hWk := fun W => works_ok W
  have hLi := gList_nil2
  have hm0 := m1 w [.slice a1 n1 c1, .int .i64 k, .int .i64 st, .int .i64 bf, .int .i64 pr, .slice a2 n2 c2, .int .i64 pk, .int .i64 ob] 24
  have hF : ∀ W, Mod Nowhere (w.alloc (.cells #[.slice a1 n1 c1, .int .i64 k, .int .i64 st, .int .i64 bf, .int .i64 pr, .slice a2 n2 c2, .int .i64 pk, .int .i64 ob] 24)) W → W.cell? ⟨w.heap.size, 0, none⟩ = some (.slice a1 n1 c1) ∧ W.cell? ⟨w.heap.size, 1, none⟩ = some (.int .i64 k) ∧ W.cell? ⟨w.heap.size, 2, none⟩ = some (.int .i64 st) ∧ W.cell? ⟨w.heap.size, 3, none⟩ = some (.int .i64 bf) ∧ W.cell? ⟨w.heap.size, 4, none⟩ = some (.int .i64 pr) ∧ W.cell? ⟨w.heap.size, 5, none⟩ = some (.slice a2 n2 c2) ∧ W.cell? ⟨w.heap.size, 6, none⟩ = some (.int .i64 pk) ∧ W.cell? ⟨w.heap.size, 7, none⟩ = some (.int .i64 ob) ∧ w.heap.size < W.heap.size := fun W hm => by
    have X := (Blk.new w [.slice a1 n1 c1, .int .i64 k, .int .i64 st, .int .i64 bf, .int .i64 pr, .slice a2 n2 c2, .int .i64 pk, .int .i64 ob] 24).mod hm id
    exact ⟨X.cell 0, X.cell 1, X.cell 2, X.cell 3, X.cell 4, X.cell 5, X.cell 6, X.cell 7, X.lt⟩
  clear hs
  generalize b.length = n3 at *
  have hRe := fun W => gRemove_nil W a3 n3 c3
  have hSe := fun W => gSetState_nil W a3 n3 c3 4
  have hLo := fun W => gLock_nil W a3 n3 c3 true
  have hMo := fun W => gMove_nil W a3 n3 c3 a3 n3 c3
  have j1 : ¬ 100 < n1 := by omega
  have j2 : ¬ 100 < n2 := by omega
  have j3 : ¬ 100 < n3 := by omega
  replace hO := Lib.hid hO
  replace hFi := Lib.hid hFi
  replace hNx := Lib.hid hNx
  replace hDe := Lib.hid hDe
  replace hAd := Lib.hid hAd
  replace hWk := Lib.hid hWk
  replace hLi := Lib.hid hLi
  replace hm0 := Lib.hid hm0
  replace hF := Lib.hid hF
  replace hRe := Lib.hid hRe
  replace hSe := Lib.hid hSe
  replace hLo := Lib.hid hLo
  replace hMo := Lib.hid hMo
  go_enter Tryz.func4, Tryz.ntmps4
  go_wp2_with fail
  refine (hO.out _).mono ?_
  rintro e w1 ⟨rfl, hm1⟩
  have hn1 := hm0.out.trans hm1
  replace hm1 := Lib.hid hm1
  replace hn1 := Lib.hid hn1
  go_upto_region 5 with (fail)
  go_wp2_with fail
  refine (hFi.out _ hn1.out).mono ?_
  rintro e w2 ⟨r1, t1, r2, t2, rfl, hm2⟩
  have hm2' := hm2.trans (m1 w2 [.slice r1 0 t1, .int .i64 0, .int .i64 0, .int .i64 0, .int .i64 0, .slice r2 0 t2, .int .i64 0, .int .i64 0] 24)
  have hk2 := hm1.out.trans hm2'
  have hn2 := hn1.out.trans hm2'
  replace hm2 := Lib.hid hm2
  replace hm2' := Lib.hid hm2'
  replace hn2 := Lib.hid hn2
  replace hk2 := Lib.hid hk2
  go_upto_region 6 with (fail)
  go_wp2_with fail
  refine (hNx.out _ hn2.out).mono ?_
  rintro e w3 ⟨r3, t3, r4, t4, rfl, hm3⟩
  have hm3' := hm3.trans (m1 w3 [.slice r3 0 t3, .int .i64 0, .int .i64 0, .int .i64 0, .int .i64 0, .slice r4 0 t4, .int .i64 0, .int .i64 0] 24)
  have hk3 := hk2.out.trans hm3'
  have hn3 := hn2.out.trans hm3'
  replace hm3 := Lib.hid hm3
  replace hm3' := Lib.hid hm3'
  replace hn3 := Lib.hid hn3
  replace hk3 := Lib.hid hk3
  go_upto_region 7 with (fail)
  go_wp2_with fail
  refine (hDe.out _).mono ?_
  rintro e w4 ⟨r5, t5, r6, t6, rfl, hm4⟩
  have hm4' := hm4.trans (m1 w4 [.slice r5 0 t5, .int .i64 0, .int .i64 0, .int .i64 0, .int .i64 0, .slice r6 0 t6, .int .i64 0, .int .i64 0] 24)
  have hk4 := hk3.out.trans hm4'
  have hn4 := hn3.out.trans hm4'
  replace hm4 := Lib.hid hm4
  replace hm4' := Lib.hid hm4'
  replace hn4 := Lib.hid hn4
  replace hk4 := Lib.hid hk4
  go_upto_region 8 with (fail)
  obtain ⟨x0, x1, x2, x3, x4, x5, x6, x7, xl⟩ := hF.out _ hk4.out
  generalize w4.alloc (.cells #[.slice r5 0 t5, .int .i64 0, .int .i64 0, .int .i64 0, .int .i64 0, .slice r6 0 t6, .int .i64 0, .int .i64 0] 24) = X at *

  go_wp2_with fail
  refine (hAd.out _).mono ?_
  rintro e v1 ⟨rfl, ho1⟩
  have hp1 := hk4.out.trans ho1
  have hq1 := hn4.out.trans ho1
  obtain ⟨y1_0, y1_1, y1_2, y1_3, y1_4, y1_5, y1_6, y1_7, y1_8⟩ := hF.out v1 hp1
  replace hp1 := Lib.hid hp1
  replace hq1 := Lib.hid hq1
  clear ho1
  go_wp2_with fail
  refine (hRe.out _).mono ?_
  rintro e v2 ⟨rfl, ho2⟩
  have hp2 := hp1.out.trans ho2
  have hq2 := hq1.out.trans ho2
  obtain ⟨y2_0, y2_1, y2_2, y2_3, y2_4, y2_5, y2_6, y2_7, y2_8⟩ := hF.out v2 hp2
  replace hp2 := Lib.hid hp2
  replace hq2 := Lib.hid hq2
  clear ho2
  go_wp2_with fail
  refine (hSe.out _).mono ?_
  rintro e v3 ⟨rfl, ho3⟩
  have hp3 := hp2.out.trans ho3
  have hq3 := hq2.out.trans ho3
  obtain ⟨y3_0, y3_1, y3_2, y3_3, y3_4, y3_5, y3_6, y3_7, y3_8⟩ := hF.out v3 hp3
  replace hp3 := Lib.hid hp3
  replace hq3 := Lib.hid hq3
  clear ho3
  go_wp2_with fail
  refine (hLo.out _).mono ?_
  rintro e v4 ⟨rfl, ho4⟩
  have hp4 := hp3.out.trans ho4
  have hq4 := hq3.out.trans ho4
  obtain ⟨y4_0, y4_1, y4_2, y4_3, y4_4, y4_5, y4_6, y4_7, y4_8⟩ := hF.out v4 hp4
  replace hp4 := Lib.hid hp4
  replace hq4 := Lib.hid hq4
  clear ho4
  go_wp2_with fail
  refine (hMo.out _).mono ?_
  rintro e v5 ⟨rfl, ho5⟩
  have hp5 := hp4.out.trans ho5
  have hq5 := hq4.out.trans ho5
  obtain ⟨y5_0, y5_1, y5_2, y5_3, y5_4, y5_5, y5_6, y5_7, y5_8⟩ := hF.out v5 hp5
  replace hp5 := Lib.hid hp5
  replace hq5 := Lib.hid hq5
  clear ho5
  go_wp2_with fail
  refine (hLi.out _).mono ?_
  rintro e v6 ⟨va, vc, rfl, ho6⟩
  have hp6 := hp5.out.trans ho6
  have hq6 := hq5.out.trans ho6
  obtain ⟨y6_0, y6_1, y6_2, y6_3, y6_4, y6_5, y6_6, y6_7, y6_8⟩ := hF.out v6 hp6
  replace hp6 := Lib.hid hp6
  replace hq6 := Lib.hid hq6
  clear ho6
  go_wp2_with fail
  refine (hWk.out _).mono ?_
  rintro e v7 ⟨rfl, ho7⟩
  have hp7 := hp6.out.trans ho7
  have hq7 := hq6.out.trans ho7
  obtain ⟨y7_0, y7_1, y7_2, y7_3, y7_4, y7_5, y7_6, y7_7, y7_8⟩ := hF.out v7 hp7
  replace hp7 := Lib.hid hp7
  replace hq7 := Lib.hid hq7
  clear ho7
  go_wp2
  go_ret
  exact ⟨rfl, hq7.out⟩
theorem lawNobody_ok (z : EntI) (v : Value) (b : List Nat) (w : World) (i0 : EntIn w z) (i1 : InBytes w v b) : Calls Tryz.prog 4 #[.agg z.cells.toArray, v] w fun e w' => e = .returned (.bool true) ∧ Below w.heap.size w w' := by
  refine Calls.mono (?_ : Calls _ _ _ _ (fun e w' => e = .returned (.bool true) ∧ Mod Nowhere w w')) (fun e w' h => ⟨h.1, h.2.below⟩)
  have hs : Src w v b := i1.1
  obtain ⟨a1, c1, e1, -⟩ := i0.inE.sa
  obtain ⟨a2, c2, e2, -⟩ := i0.inE.sd
  obtain ⟨a3, c3, e3, -⟩ := i1.1
  clear i0 i1
  obtain ⟨u1, v1, ⟨k, st, bf, pr, pk, ob, aid, dom⟩⟩ := z
  unfold EntI.cells
  unfold eCells
  dsimp only at *
  subst e1 e2 e3
  generalize aid.length = n1 at *
  generalize dom.length = n2 at *
  by_cases h1 : (n1 : Int) > 100
  · exact lawNobodyL1 h1
  by_cases h2 : (n2 : Int) > 100
  · exact lawNobodyL2 h1 h2
  by_cases h3 : (b.length : Int) > 100
  · exact lawNobodyL3 h1 h2 h3
  exact lawNobodyS hs h1 h2 h3
end Go.Proofs.YthmahbfmfpjjcaaGreat
