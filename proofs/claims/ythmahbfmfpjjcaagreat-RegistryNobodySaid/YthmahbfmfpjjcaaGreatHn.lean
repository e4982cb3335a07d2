/-
  A registry that is nil: no entries, and no changes.
-/
import Derived.Test.YthmahbfmfpjjcaaGreatG71
import Derived.Deep.DeepCutAuto
set_option linter.unusedVariables false
set_option linter.unusedSimpArgs false
namespace Go.Proofs.YthmahbfmfpjjcaaGreat
open Go.RowKit
open Jn Vn Rg
attribute [local go_sem] Oper.semAt_some

set_option maxRecDepth 100000 in
set_option maxHeartbeats 1000000 in
theorem gReady_nil (w : World) : Calls Tryz.prog 50 #[.pointer none] w fun e w' => e = .returned (errno 31) ∧ w' = w := by
  go_enter Tryz.func50, Tryz.ntmps50
  go_wp2
  go_ret
  exact ⟨rfl, rfl⟩
set_option maxRecDepth 100000 in
set_option maxHeartbeats 1000000 in
theorem gAll_nil (w : World) : Calls Tryz.prog 51 #[.pointer none] w fun e w' => ∃ b, e = .returned (.map (some b)) ∧ w.heap.size ≤ b ∧ EMap w' b 0 (fun _ => none) ∧ Mod Nowhere w w' := by
  have hR := gReady_nil
  have hmm := run_makeMap (P := Tryz.prog) 78 w
  have hmd0 : Mod Nowhere w (w.alloc (.map #[] 0)) := (Mod.refl _ w).alloc _
  have hmp0 : EMap (w.alloc (.map #[] 0)) w.heap.size 0 (fun _ => none) := ⟨_, JMap.made w, fun k => trivial⟩
  have hfin : ∃ b, Ending.returned (.map (some w.heap.size)) = .returned (.map (some b)) ∧ w.heap.size ≤ b ∧ EMap (w.alloc (.map #[] 0)) b 0 (fun _ => none) ∧ Mod Nowhere w (w.alloc (.map #[] 0)) := ⟨_, rfl, Nat.le_refl _, hmp0, hmd0⟩
  clear hmp0 hmd0
  generalize w.alloc (.map #[] 0) = w1 at *
  replace hR := Lib.hid hR
  replace hfin := Lib.hid hfin
  go_enter Tryz.func51, Tryz.ntmps51
  go_wp2_with fail
  refine (hR.out w1).mono ?_
  rintro e w2 ⟨rfl, rfl⟩
  go_wp2
  go_ret
  exact hfin.out
set_option maxRecDepth 100000 in
set_option maxHeartbeats 1000000 in
theorem gList_nil (w : World) : Calls Tryz.prog 24 #[.pointer none] w (EPost w []) := by
  have hA := gAll_nil w
  have hO := fun W b (hm : EMap W b 0 (fun _ => none)) => ordered_ok (l := []) hm Rg.SRel.nil
  simp only [List.map_nil] at hO
  replace hA := Lib.hid hA
  replace hO := Lib.hid hO
  go_enter Tryz.func24, Tryz.ntmps24
  go_wp2_with fail
  refine (hA.out).mono ?_
  rintro e w1 ⟨b, rfl, hb, hm, hmd⟩
  have hO1 := hO.out w1 b hm
  replace hm := Lib.hid hm
  replace hmd := Lib.hid hmd
  replace hb := Lib.hid hb
  replace hO1 := Lib.hid hO1
  go_wp2_with fail
  refine (hO1.out).mono ?_
  rintro e w2 ⟨v, xs, rfl, hs, hx, hm2⟩
  obtain ⟨va, vc, rfl, -⟩ := hs.sl.gen
  have hfin : EPost w [] (.returned (.slice va xs.length vc)) w2 := ⟨_, xs, rfl, hs, hx, hmd.out.trans hm2⟩
  clear hs hx hm2
  replace hfin := Lib.hid hfin
  go_wp2
  go_ret
  exact hfin.out
set_option maxRecDepth 100000 in
set_option maxHeartbeats 4000000 in
theorem gFirst_nil (w : World) (g : FuncId) (cap : Array Value) (hent : ∀ args w, (callFunc g args).run Tryz.prog w = .ok (.enter g args) w) :
    Calls Tryz.prog 43 #[.pointer none, .func (.func g) #[] cap] w (FPost w none) := by
  have hm0 : Mod Nowhere w (w.alloc (.cells zero8.toArray 24)) := (Mod.refl _ w).alloc _
  have hL := gList_nil (w.alloc (.cells zero8.toArray 24))
  have hT0 := Blk.new w zero8 24
  have hT : ∀ W, Mod Nowhere (w.alloc (.cells zero8.toArray 24)) W → Blk W w.heap.size zero8 24 := fun W hm => hT0.mod hm id
  have hI : ∀ W v xs, Mod Nowhere w W → ESl W v xs → exps xs = [] → Calls Tryz.prog 91 #[v, .func (.func g) #[] cap] W fun e w' => ∃ r : Int, e = .returned (.int .i64 r) ∧ FoundAt (exps xs) (fun _ => false) r ∧ Mod Nowhere W w' := fun W v xs hm hs hx =>
    IndexFunc_e hs (by
      have h1 : (exps xs).length = 0 := by rw [hx]; rfl
      rw [exps_len] at h1
      omega) g cap hent (fun _ => false) fun x hxm wr hmr => by
      have h1 : (exps xs).length = 0 := by rw [hx]; rfl
      rw [exps_len] at h1
      have : xs = [] := List.length_eq_zero_iff.1 h1
      rw [this] at hxm
      cases hxm
  unfold zero8 at hL hm0 hT
  clear hT0
  replace hL := Lib.hid hL
  replace hm0 := Lib.hid hm0
  replace hT := Lib.hid hT
  replace hI := Lib.hid hI
  go_enter Tryz.func43, Tryz.ntmps43
  go_wp2_with fail
  refine (hL.out).mono ?_
  rintro e w1 ⟨v, xs, rfl, hs, hx, hm1⟩
  have hI1 := hI.out w1 v xs (hm0.out.trans hm1) hs hx
  obtain ⟨va, vc, rfl, -⟩ := hs.sl.gen
  replace hI1 := Lib.hid hI1
  replace hs := Lib.hid hs
  replace hx := Lib.hid hx
  replace hm1 := Lib.hid hm1
  go_wp2_with fail
  refine (hI1.out).mono ?_
  rintro e w2 ⟨r, rfl, hf, hm2⟩
  have hm12 := hm1.out.trans hm2
  have bT := hT.out w2 hm12
  have hmw := hm0.out.trans hm12
  unfold FoundAt at hf
  rw [hx.out] at hf
  rcases hf with ⟨rfl, hno⟩ | ⟨k, e, rfl, hk, hfe⟩
  · have hb8 := blk8 bT (.slice none 0 0) (.int .i64 0) (.int .i64 0) (.int .i64 0) (.int .i64 0) (.slice none 0 0) (.int .i64 0) (.int .i64 0)
    unfold put8 at hb8
    have hmf := hmw.own hb8.2 (Nat.le_refl _)
    have hbl := hb8.1
    clear hb8
    have yl := bT.lt; have y0 := bT.cell 0; have y1 := bT.cell 1; have y2 := bT.cell 2; have y3 := bT.cell 3; have y4 := bT.cell 4; have y5 := bT.cell 5; have y6 := bT.cell 6; have y7 := bT.cell 7
    have yf0 := bT.frozen 0; have yf1 := bT.frozen 1; have yf2 := bT.frozen 2; have yf3 := bT.frozen 3; have yf4 := bT.frozen 4; have yf5 := bT.frozen 5; have yf6 := bT.frozen 6; have yf7 := bT.frozen 7
    simp only [List.getElem?_cons_zero, List.getElem?_cons_succ] at y0 y1 y2 y3 y4 y5 y6 y7
    replace hmf := Lib.hid hmf
    replace hbl := Lib.hid hbl
    replace hm12 := Lib.hid hm12
    replace hmw := Lib.hid hmw
    replace bT := Lib.hid bT
    replace hm2 := Lib.hid hm2
    go_wp2
    refine bodyPost_ret (ret_e1 rfl _ _ w.heap.size _ _ _ _ _ _ _ _ rfl hbl.out) rfl ?_
    exact ⟨_, _, rfl, Sl.nil _ _ _, Sl.nil _ _ _, hmf.out⟩
  · cases hfe
set_option maxRecDepth 100000 in
set_option maxHeartbeats 4000000 in
theorem gFind_nil (w : World) {t : Value} {a : List Nat} (ht : Src w t a) : Calls Tryz.prog 16 #[.pointer none, t] w (FPost w none) := by
  have hm2 := m2z w [t] zero8 22 24
  have hB := blk_b (w := w) [t] zero8 22 24
  have hF := gFirst_nil ((w.alloc (.cells [t].toArray 22)).alloc (.cells zero8.toArray 24)) 44 #[.pointer (some ⟨w.heap.size, 0, none⟩)] (enters_of Tryz.func44 (by kernel_rfl) rfl)
  have hT : ∀ W, Mod Nowhere ((w.alloc (.cells [t].toArray 22)).alloc (.cells zero8.toArray 24)) W → Blk W (w.heap.size + 1) zero8 24 := fun W hm => (hB W hm).2
  unfold zero8 at hF hT hm2
  obtain ⟨ta, tc, rfl, -⟩ := ht
  generalize a.length = n at *
  clear hB
  replace hF := Lib.hid hF
  replace hT := Lib.hid hT
  replace hm2 := Lib.hid hm2
  go_enter Tryz.func16, Tryz.ntmps16
  go_wp2_with fail
  refine (hF.out).mono ?_
  rintro e w3 hr
  obtain ⟨u, v, rfl, d1, d2, hm⟩ := hr
  obtain ⟨re, hre⟩ : ∃ re, rOf none = re := ⟨_, rfl⟩
  rw [hre] at d1 d2 ⊢
  obtain ⟨k, st, bf, pr, pk, ob, aid, dom⟩ := re
  unfold eCells
  dsimp only at d1 d2 ⊢
  replace hre := Lib.hid hre
  obtain ⟨a1, c1, rfl, -⟩ := Sl.len d1
  obtain ⟨a2, c2, rfl, -⟩ := Sl.len d2
  have bT := hT.out _ hm
  have hb8 := blk8 bT (.slice a1 aid.length c1) (.int .i64 k) (.int .i64 st) (.int .i64 bf) (.int .i64 pr) (.slice a2 dom.length c2) (.int .i64 pk) (.int .i64 ob)
  unfold put8 at hb8
  have hs1 := shun1 (U := 5) bT (by decide)
  have f1 := DSl.mod d1 hb8.2 hs1
  have f2 := DSl.mod d2 hb8.2 hs1
  have hmf := (hm2.out.trans hm).own hb8.2 (by omega)
  have hbl := hb8.1
  clear hb8 hs1 d1 d2
  have yl := bT.lt; have y0 := bT.cell 0; have y1 := bT.cell 1; have y2 := bT.cell 2; have y3 := bT.cell 3; have y4 := bT.cell 4; have y5 := bT.cell 5; have y6 := bT.cell 6; have y7 := bT.cell 7
  have yf0 := bT.frozen 0; have yf1 := bT.frozen 1; have yf2 := bT.frozen 2; have yf3 := bT.frozen 3; have yf4 := bT.frozen 4; have yf5 := bT.frozen 5; have yf6 := bT.frozen 6; have yf7 := bT.frozen 7
  simp only [List.getElem?_cons_zero, List.getElem?_cons_succ] at y0 y1 y2 y3 y4 y5 y6 y7
  replace hmf := Lib.hid hmf
  replace hbl := Lib.hid hbl
  replace bT := Lib.hid bT
  replace f1 := Lib.hid f1
  replace f2 := Lib.hid f2
  replace hm := Lib.hid hm
  go_wp2
  refine bodyPost_ret (ret_e1 rfl _ _ (w.heap.size + 1) _ _ _ _ _ _ _ _ rfl hbl.out) rfl ?_
  show FPost w none _ _
  unfold FPost
  rw [hre.out]
  exact ⟨_, _, rfl, f1.out, f2.out, hmf.out⟩
set_option maxRecDepth 100000 in
set_option maxHeartbeats 4000000 in
theorem gNext_nil (w : World) {t1 t2 : Value} {p a : List Nat} (ht1 : Src w t1 p) (ht2 : Src w t2 a) :
    Calls Tryz.prog 17 #[.pointer none, t1, t2] w (FPost w none) := by
  have hm2 := (m2z w [t1] [t2] 22 22).trans (m1 _ zero8 24)
  have hB : ∀ W, Mod Nowhere (((w.alloc (.cells [t1].toArray 22)).alloc (.cells [t2].toArray 22)).alloc (.cells zero8.toArray 24)) W → (Blk W w.heap.size [t1] 22 ∧ Blk W (w.heap.size + 1) [t2] 22) ∧ Blk W (w.heap.size + 1 + 1) zero8 24 := fun W hm =>
    ⟨blk_b (w := w) [t1] [t2] 22 22 W ((m1 _ zero8 _).trans hm), by
      have := blk_a (w := (w.alloc (.cells [t1].toArray 22)).alloc (.cells [t2].toArray 22)) zero8 24 W hm
      simpa using this⟩
  have hF := gFirst_nil (((w.alloc (.cells [t1].toArray 22)).alloc (.cells [t2].toArray 22)).alloc (.cells zero8.toArray 24)) 45 #[.pointer (some ⟨w.heap.size, 0, none⟩), .pointer (some ⟨w.heap.size + 1, 0, none⟩)] (enters_of Tryz.func45 (by kernel_rfl) rfl)
  have hT : ∀ W, Mod Nowhere (((w.alloc (.cells [t1].toArray 22)).alloc (.cells [t2].toArray 22)).alloc (.cells zero8.toArray 24)) W → Blk W (w.heap.size + 1 + 1) zero8 24 := fun W hm => (hB W hm).2
  unfold zero8 at hF hT hm2
  obtain ⟨ta, tc, rfl, -⟩ := ht1
  obtain ⟨sa, sc, rfl, -⟩ := ht2
  generalize a.length = n at *
  generalize p.length = n2 at *
  clear hB
  replace hF := Lib.hid hF
  replace hT := Lib.hid hT
  replace hm2 := Lib.hid hm2
  go_enter Tryz.func17, Tryz.ntmps17
  go_wp2_with fail
  refine (hF.out).mono ?_
  rintro e w3 hr
  obtain ⟨u, v, rfl, d1, d2, hm⟩ := hr
  obtain ⟨re, hre⟩ : ∃ re, rOf none = re := ⟨_, rfl⟩
  rw [hre] at d1 d2 ⊢
  obtain ⟨k, st, bf, pr, pk, ob, aid, dom⟩ := re
  unfold eCells
  dsimp only at d1 d2 ⊢
  replace hre := Lib.hid hre
  obtain ⟨a1, c1, rfl, -⟩ := Sl.len d1
  obtain ⟨a2, c2, rfl, -⟩ := Sl.len d2
  have bT := hT.out _ hm
  have hb8 := blk8 bT (.slice a1 aid.length c1) (.int .i64 k) (.int .i64 st) (.int .i64 bf) (.int .i64 pr) (.slice a2 dom.length c2) (.int .i64 pk) (.int .i64 ob)
  unfold put8 at hb8
  have hs1 := shun1 (U := 5) bT (by decide)
  have f1 := DSl.mod d1 hb8.2 hs1
  have f2 := DSl.mod d2 hb8.2 hs1
  have hmf := (hm2.out.trans hm).own hb8.2 (by omega)
  have hbl := hb8.1
  clear hb8 hs1 d1 d2
  have yl := bT.lt; have y0 := bT.cell 0; have y1 := bT.cell 1; have y2 := bT.cell 2; have y3 := bT.cell 3; have y4 := bT.cell 4; have y5 := bT.cell 5; have y6 := bT.cell 6; have y7 := bT.cell 7
  have yf0 := bT.frozen 0; have yf1 := bT.frozen 1; have yf2 := bT.frozen 2; have yf3 := bT.frozen 3; have yf4 := bT.frozen 4; have yf5 := bT.frozen 5; have yf6 := bT.frozen 6; have yf7 := bT.frozen 7
  simp only [List.getElem?_cons_zero, List.getElem?_cons_succ] at y0 y1 y2 y3 y4 y5 y6 y7
  replace hmf := Lib.hid hmf
  replace hbl := Lib.hid hbl
  replace bT := Lib.hid bT
  replace f1 := Lib.hid f1
  replace f2 := Lib.hid f2
  replace hm := Lib.hid hm
  go_wp2
  refine bodyPost_ret (ret_e1 rfl _ _ (w.heap.size + 1 + 1) _ _ _ _ _ _ _ _ rfl hbl.out) rfl ?_
  show FPost w none _ _
  unfold FPost
  rw [hre.out]
  exact ⟨_, _, rfl, f1.out, f2.out, hmf.out⟩
set_option maxRecDepth 100000 in
set_option maxHeartbeats 4000000 in
theorem gDef_nil (w : World) : Calls Tryz.prog 18 #[.pointer none] w (FPost w none) := by
  have hm2 := m1 w zero8 24
  have hT := blk_a (w := w) zero8 24
  have hF := gFirst_nil (w.alloc (.cells zero8.toArray 24)) 49 #[] (enters_of Tryz.func49 (by kernel_rfl) rfl)
  unfold zero8 at hF hT hm2
  replace hF := Lib.hid hF
  replace hT := Lib.hid hT
  replace hm2 := Lib.hid hm2
  go_enter Tryz.func18, Tryz.ntmps18
  go_wp2_with fail
  refine (hF.out).mono ?_
  rintro e w3 hr
  obtain ⟨u, v, rfl, d1, d2, hm⟩ := hr
  obtain ⟨re, hre⟩ : ∃ re, rOf none = re := ⟨_, rfl⟩
  rw [hre] at d1 d2 ⊢
  obtain ⟨k, st, bf, pr, pk, ob, aid, dom⟩ := re
  unfold eCells
  dsimp only at d1 d2 ⊢
  replace hre := Lib.hid hre
  obtain ⟨a1, c1, rfl, -⟩ := Sl.len d1
  obtain ⟨a2, c2, rfl, -⟩ := Sl.len d2
  have bT := hT.out _ hm
  have hb8 := blk8 bT (.slice a1 aid.length c1) (.int .i64 k) (.int .i64 st) (.int .i64 bf) (.int .i64 pr) (.slice a2 dom.length c2) (.int .i64 pk) (.int .i64 ob)
  unfold put8 at hb8
  have hs1 := shun1 (U := 5) bT (by decide)
  have f1 := DSl.mod d1 hb8.2 hs1
  have f2 := DSl.mod d2 hb8.2 hs1
  have hmf := (hm2.out.trans hm).own hb8.2 (by omega)
  have hbl := hb8.1
  clear hb8 hs1 d1 d2
  have yl := bT.lt; have y0 := bT.cell 0; have y1 := bT.cell 1; have y2 := bT.cell 2; have y3 := bT.cell 3; have y4 := bT.cell 4; have y5 := bT.cell 5; have y6 := bT.cell 6; have y7 := bT.cell 7
  have yf0 := bT.frozen 0; have yf1 := bT.frozen 1; have yf2 := bT.frozen 2; have yf3 := bT.frozen 3; have yf4 := bT.frozen 4; have yf5 := bT.frozen 5; have yf6 := bT.frozen 6; have yf7 := bT.frozen 7
  simp only [List.getElem?_cons_zero, List.getElem?_cons_succ] at y0 y1 y2 y3 y4 y5 y6 y7
  replace hmf := Lib.hid hmf
  replace hbl := Lib.hid hbl
  replace bT := Lib.hid bT
  replace f1 := Lib.hid f1
  replace f2 := Lib.hid f2
  replace hm := Lib.hid hm
  go_wp2
  refine bodyPost_ret (ret_e1 rfl _ _ (w.heap.size) _ _ _ _ _ _ _ _ rfl hbl.out) rfl ?_
  show FPost w none _ _
  unfold FPost
  rw [hre.out]
  exact ⟨_, _, rfl, f1.out, f2.out, hmf.out⟩
set_option maxRecDepth 100000 in
set_option maxHeartbeats 2000000 in
theorem gAdd_nil (w : World) (a1 a2 : Option Addr) (n1 n2 c1 c2 : Nat) (k st bf pr pk ob : Int) : Calls Tryz.prog 19 #[.pointer none, .agg #[.slice a1 n1 c1, .int .i64 k, .int .i64 st, .int .i64 bf, .int .i64 pr, .slice a2 n2 c2, .int .i64 pk, .int .i64 ob]] w fun e w' => e = .returned (errno 31) ∧ Mod Nowhere w w' := by
  have hm0 := m1 w [.slice a1 n1 c1, .int .i64 k, .int .i64 st, .int .i64 bf, .int .i64 pr, .slice a2 n2 c2, .int .i64 pk, .int .i64 ob] 24
  replace hm0 := Lib.hid hm0
  go_enter Tryz.func19, Tryz.ntmps19
  go_wp2
  go_ret
  exact ⟨rfl, hm0.out⟩
set_option maxRecDepth 100000 in
set_option maxHeartbeats 1000000 in
theorem gRemove_nil (w : World) (a : Option Addr) (n c : Nat) : Calls Tryz.prog 20 #[.pointer none, .slice a n c] w fun e w' => e = .returned (errno 31) ∧ Mod Nowhere w w' := by
  have hR := gReady_nil
  replace hR := Lib.hid hR
  go_enter Tryz.func20, Tryz.ntmps20
  go_wp2_with fail
  refine (hR.out _).mono ?_
  rintro e w1 ⟨rfl, rfl⟩
  go_wp2
  go_ret
  exact ⟨rfl, by repeat (first | exact Mod.refl _ _ | refine Mod.alloc ?_ _)⟩
set_option maxRecDepth 100000 in
set_option maxHeartbeats 1000000 in
theorem gChange_nil (w : World) (a : Option Addr) (n c : Nat) (f : Value) : Calls Tryz.prog 62 #[.pointer none, .slice a n c, f] w fun e w' => e = .returned (errno 31) ∧ Mod Nowhere w w' := by
  have hR := gReady_nil
  replace hR := Lib.hid hR
  go_enter Tryz.func62, Tryz.ntmps62
  go_wp2_with fail
  refine (hR.out _).mono ?_
  rintro e w1 ⟨rfl, rfl⟩
  go_wp2
  go_ret
  exact ⟨rfl, by repeat (first | exact Mod.refl _ _ | refine Mod.alloc ?_ _)⟩
set_option maxRecDepth 100000 in
set_option maxHeartbeats 1000000 in
theorem gSetState_nil (w : World) (a : Option Addr) (n c : Nat) (x : Int) : Calls Tryz.prog 21 #[.pointer none, .slice a n c, .int .i64 x] w fun e w' => e = .returned (errno 31) ∧ Mod Nowhere w w' := by
  have hR := fun W f => gChange_nil W a n c f
  replace hR := Lib.hid hR
  go_enter Tryz.func21, Tryz.ntmps21
  go_wp2_with fail
  refine (hR.out _ _).mono ?_
  rintro e w1 ⟨rfl, hm⟩
  go_wp2
  go_ret
  exact ⟨rfl, Mod.trans (by repeat (first | exact Mod.refl _ _ | refine Mod.alloc ?_ _)) hm⟩
set_option maxRecDepth 100000 in
set_option maxHeartbeats 1000000 in
theorem gLock_nil (w : World) (a : Option Addr) (n c : Nat) (x : Bool) : Calls Tryz.prog 22 #[.pointer none, .slice a n c, .bool x] w fun e w' => e = .returned (errno 31) ∧ Mod Nowhere w w' := by
  have hR := fun W f => gChange_nil W a n c f
  replace hR := Lib.hid hR
  go_enter Tryz.func22, Tryz.ntmps22
  go_wp2_with fail
  refine (hR.out _ _).mono ?_
  rintro e w1 ⟨rfl, hm⟩
  go_wp2
  go_ret
  exact ⟨rfl, Mod.trans (by repeat (first | exact Mod.refl _ _ | refine Mod.alloc ?_ _)) hm⟩
set_option maxRecDepth 100000 in
set_option maxHeartbeats 1000000 in
theorem gMove_nil (w : World) (a : Option Addr) (n c : Nat) (a2 : Option Addr) (n2 c2 : Nat) : Calls Tryz.prog 23 #[.pointer none, .slice a n c, .slice a2 n2 c2] w fun e w' => e = .returned (errno 31) ∧ Mod Nowhere w w' := by
  have hR := fun W f => gChange_nil W a n c f
  replace hR := Lib.hid hR
  go_enter Tryz.func23, Tryz.ntmps23
  go_wp2_with fail
  refine (hR.out _ _).mono ?_
  rintro e w1 ⟨rfl, hm⟩
  go_wp2
  go_ret
  exact ⟨rfl, Mod.trans (by repeat (first | exact Mod.refl _ _ | refine Mod.alloc ?_ _)) hm⟩
end Go.Proofs.YthmahbfmfpjjcaaGreat
