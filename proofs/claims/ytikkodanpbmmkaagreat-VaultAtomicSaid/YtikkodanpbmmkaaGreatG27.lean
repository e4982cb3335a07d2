/-
  Vaults that cannot be used: not alive any more, nil, or not opened.
-/
import Derived.Test.YtikkodanpbmmkaaGreatG25
import Derived.Test.YtikkodanpbmmkaaGreatVe
set_option linter.unusedVariables false
set_option linter.unusedSimpArgs false
namespace Go.Proofs.YtikkodanpbmmkaaGreat
open Go.RowKit
open Jn Vn
attribute [local go_sem] Oper.semAt_some

/-- A vault that returns the error er whatever is asked, and eb where an item is to be changed. -/
structure Shut (w : World) (v : Value) (er : Nat) (eb : Int → Nat → Nat) : Prop where
  ready : ∀ W, Mod Nowhere w W → Calls Tryz.prog 86 #[v] W fun e w' => e = .returned (errno er) ∧ Mod Nowhere W w'
  begun : ∀ W, Mod Nowhere w W → ∀ (id : Int) (a : Option Addr) (n c : Nat), n ≤ 1099511627776 → Calls Tryz.prog 96 #[v, .int .i64 id, .slice a n c] W fun e w' => e = .returned (errno (eb id n)) ∧ Mod Nowhere W w'
  alive : ∀ W, Mod Nowhere w W → Calls Tryz.prog 56 #[v] W fun e w' => e = .returned (.bool false) ∧ Mod Nowhere W w'
  er7 : er = 7 ∨ er = 31
  eb7 : ∀ id n, eb id n = 1 ∨ eb id n = 7 ∨ eb id n = 31
theorem Shut.fresh {w w' : World} {v : Value} {er : Nat} {eb : Int → Nat → Nat} (h : Shut w v er eb) (hm : Mod Nowhere w w') : Shut w' v er eb :=
  ⟨fun W h1 => h.ready W (hm.trans h1), fun W h1 => h.begun W (hm.trans h1), fun W h1 => h.alive W (hm.trans h1), h.er7, h.eb7⟩

set_option maxRecDepth 100000 in
set_option maxHeartbeats 400000 in
theorem sInside_ok {w : World} {v : Value} {er : Nat} {eb : Int → Nat → Nat} (h : Shut w v er eb) :
    Calls Tryz.prog 108 #[v] w fun e w' => e = .returned (errno er) ∧ Mod Nowhere w w' := by
  have hR := h.ready w (Mod.refl _ w)
  have hE := h.er7
  replace hR := Lib.hid hR
  clear h
  rcases hE with rfl | rfl
  all_goals
    go_enter Tryz.func108, Tryz.ntmps108
    go_wp2_with fail
    refine hR.out.mono ?_
    rintro e w1 ⟨rfl, hm1⟩
    go_wp2
    go_ret
    exact ⟨rfl, hm1⟩

set_option maxRecDepth 100000 in
set_option maxHeartbeats 400000 in
theorem sActive_ok {w : World} {v : Value} {er : Nat} {eb : Int → Nat → Nat} (h : Shut w v er eb) :
    Calls Tryz.prog 55 #[v] w fun e w' => e = .returned (.bool false) ∧ Mod Nowhere w w' := by
  have hR := sInside_ok h
  have hE := h.er7
  replace hR := Lib.hid hR
  clear h
  rcases hE with rfl | rfl
  all_goals
    go_enter Tryz.func55, Tryz.ntmps55
    go_wp2_with fail
    refine hR.out.mono ?_
    rintro e w1 ⟨rfl, hm1⟩
    go_wp2
    go_ret
    exact ⟨rfl, hm1⟩

set_option maxRecDepth 100000 in
set_option maxHeartbeats 400000 in
theorem sSave_ok {w : World} {v : Value} {er : Nat} {eb : Int → Nat → Nat} (h : Shut w v er eb) :
    Calls Tryz.prog 43 #[v] w fun e w' => e = .returned (.int .i64 0) ∧ Mod Nowhere w w' := by
  have hR := sActive_ok h
  replace hR := Lib.hid hR
  clear h
  all_goals
    go_enter Tryz.func43, Tryz.ntmps43
    go_wp2_with fail
    refine hR.out.mono ?_
    rintro e w1 ⟨rfl, hm1⟩
    go_wp2
    go_ret
    exact ⟨rfl, hm1⟩

set_option maxRecDepth 100000 in
set_option maxHeartbeats 400000 in
theorem sLeft_ok {w : World} {v : Value} {er : Nat} {eb : Int → Nat → Nat} (h : Shut w v er eb) :
    Calls Tryz.prog 45 #[v] w fun e w' => e = .returned (.int .i64 0) ∧ Mod Nowhere w w' := by
  have hR := h.ready w (Mod.refl _ w)
  have hE := h.er7
  replace hR := Lib.hid hR
  clear h
  rcases hE with rfl | rfl
  all_goals
    go_enter Tryz.func45, Tryz.ntmps45
    go_wp2_with fail
    refine hR.out.mono ?_
    rintro e w1 ⟨rfl, hm1⟩
    go_wp2
    go_ret
    exact ⟨rfl, hm1⟩

set_option maxRecDepth 100000 in
set_option maxHeartbeats 400000 in
theorem sUsed_ok {w : World} {v : Value} {er : Nat} {eb : Int → Nat → Nat} (h : Shut w v er eb) :
    Calls Tryz.prog 57 #[v] w fun e w' => e = .returned (.int .i64 0) ∧ Mod Nowhere w w' := by
  have hR := h.ready w (Mod.refl _ w)
  have hE := h.er7
  replace hR := Lib.hid hR
  clear h
  rcases hE with rfl | rfl
  all_goals
    go_enter Tryz.func57, Tryz.ntmps57
    go_wp2_with fail
    refine hR.out.mono ?_
    rintro e w1 ⟨rfl, hm1⟩
    go_wp2
    go_ret
    exact ⟨rfl, hm1⟩

set_option maxRecDepth 100000 in
set_option maxHeartbeats 400000 in
theorem sRoom_ok {w : World} {v : Value} {er : Nat} {eb : Int → Nat → Nat} (h : Shut w v er eb) :
    Calls Tryz.prog 58 #[v] w fun e w' => e = .returned (.int .i64 0) ∧ Mod Nowhere w w' := by
  have hR := h.ready w (Mod.refl _ w)
  have hE := h.er7
  replace hR := Lib.hid hR
  clear h
  rcases hE with rfl | rfl
  all_goals
    go_enter Tryz.func58, Tryz.ntmps58
    go_wp2_with fail
    refine hR.out.mono ?_
    rintro e w1 ⟨rfl, hm1⟩
    go_wp2
    go_ret
    exact ⟨rfl, hm1⟩

set_option maxRecDepth 100000 in
set_option maxHeartbeats 400000 in
theorem sIDs_ok {w : World} {v : Value} {er : Nat} {eb : Int → Nat → Nat} (h : Shut w v er eb) :
    Calls Tryz.prog 59 #[v] w fun e w' => e = .returned (.slice none 0 0) ∧ Mod Nowhere w w' := by
  have hR := h.ready w (Mod.refl _ w)
  have hE := h.er7
  replace hR := Lib.hid hR
  clear h
  rcases hE with rfl | rfl
  all_goals
    go_enter Tryz.func59, Tryz.ntmps59
    go_wp2_with fail
    refine hR.out.mono ?_
    rintro e w1 ⟨rfl, hm1⟩
    go_wp2
    go_ret
    exact ⟨rfl, hm1⟩

set_option maxRecDepth 100000 in
set_option maxHeartbeats 400000 in
theorem sBegin_ok {w : World} {v : Value} {er : Nat} {eb : Int → Nat → Nat} (h : Shut w v er eb) :
    Calls Tryz.prog 48 #[v] w fun e w' => e = .returned (errno er) ∧ Mod Nowhere w w' := by
  have hR := h.ready w (Mod.refl _ w)
  have hE := h.er7
  replace hR := Lib.hid hR
  clear h
  rcases hE with rfl | rfl
  all_goals
    go_enter Tryz.func48, Tryz.ntmps48
    go_wp2_with fail
    refine hR.out.mono ?_
    rintro e w1 ⟨rfl, hm1⟩
    go_wp2
    go_ret
    exact ⟨rfl, hm1⟩

set_option maxRecDepth 100000 in
set_option maxHeartbeats 400000 in
theorem sCommit_ok {w : World} {v : Value} {er : Nat} {eb : Int → Nat → Nat} (h : Shut w v er eb) :
    Calls Tryz.prog 66 #[v] w fun e w' => e = .returned (errno er) ∧ Mod Nowhere w w' := by
  have hR := sInside_ok h
  have hE := h.er7
  replace hR := Lib.hid hR
  clear h
  rcases hE with rfl | rfl
  all_goals
    go_enter Tryz.func66, Tryz.ntmps66
    go_wp2_with fail
    refine hR.out.mono ?_
    rintro e w1 ⟨rfl, hm1⟩
    go_wp2
    go_ret
    exact ⟨rfl, hm1⟩

set_option maxRecDepth 100000 in
set_option maxHeartbeats 400000 in
theorem sAbort_ok {w : World} {v : Value} {er : Nat} {eb : Int → Nat → Nat} (h : Shut w v er eb) :
    Calls Tryz.prog 52 #[v] w fun e w' => e = .returned (errno er) ∧ Mod Nowhere w w' := by
  have hR := sInside_ok h
  have hE := h.er7
  replace hR := Lib.hid hR
  clear h
  rcases hE with rfl | rfl
  all_goals
    go_enter Tryz.func52, Tryz.ntmps52
    go_wp2_with fail
    refine hR.out.mono ?_
    rintro e w1 ⟨rfl, hm1⟩
    go_wp2
    go_ret
    exact ⟨rfl, hm1⟩

set_option maxRecDepth 100000 in
set_option maxHeartbeats 400000 in
theorem sBack_ok {w : World} {v : Value} {er : Nat} {eb : Int → Nat → Nat} (h : Shut w v er eb) (k : Int) :
    Calls Tryz.prog 54 #[v, .int .i64 k] w fun e w' => e = .returned (errno er) ∧ Mod Nowhere w w' := by
  have hR := sInside_ok h
  have hE := h.er7
  replace hR := Lib.hid hR
  clear h
  rcases hE with rfl | rfl
  all_goals
    go_enter Tryz.func54, Tryz.ntmps54
    go_wp2_with fail
    refine hR.out.mono ?_
    rintro e w1 ⟨rfl, hm1⟩
    go_wp2
    go_ret
    exact ⟨rfl, hm1⟩

set_option maxRecDepth 100000 in
set_option maxHeartbeats 400000 in
theorem sPut_ok {w : World} {v : Value} {er : Nat} {eb : Int → Nat → Nat} (h : Shut w v er eb) (id : Int) (a : Option Addr) (n c : Nat) (hn : n ≤ 1099511627776) :
    Calls Tryz.prog 72 #[v, .int .i64 id, .slice a n c] w fun e w' => e = .returned (errno (eb id n)) ∧ Mod Nowhere w w' := by
  have hR := h.begun w (Mod.refl _ w) id a n c hn
  have hE := h.eb7 id n
  obtain ⟨q, hq⟩ : ∃ q, eb id n = q := ⟨_, rfl⟩
  rw [hq] at hR hE ⊢
  replace hq := Lib.hid hq
  replace hR := Lib.hid hR
  clear h
  rcases hE with rfl | rfl | rfl
  all_goals
    go_enter Tryz.func72, Tryz.ntmps72
    go_wp2_with fail
    refine hR.out.mono ?_
    rintro e w1 ⟨rfl, hm1⟩
    go_wp2
    go_ret
    exact ⟨rfl, hm1⟩

set_option maxRecDepth 100000 in
set_option maxHeartbeats 400000 in
theorem sNow_ok {w : World} {v : Value} {er : Nat} {eb : Int → Nat → Nat} (h : Shut w v er eb) (id : Int) (a : Option Addr) (n c : Nat) (hn : n ≤ 1099511627776) :
    Calls Tryz.prog 50 #[v, .int .i64 id, .slice a n c] w fun e w' => e = .returned (errno (eb id n)) ∧ Mod Nowhere w w' := by
  have hR := h.begun (w.alloc (.cells #[.int .i64 id] 3)) ((Mod.refl Nowhere w).alloc _) id a n c hn
  have hE := h.eb7 id n
  obtain ⟨q, hq⟩ : ∃ q, eb id n = q := ⟨_, rfl⟩
  rw [hq] at hR hE ⊢
  replace hq := Lib.hid hq
  replace hR := Lib.hid hR
  clear h
  rcases hE with rfl | rfl | rfl
  all_goals
    go_enter Tryz.func50, Tryz.ntmps50
    go_wp2_with fail
    refine hR.out.mono ?_
    rintro e w1 ⟨rfl, hm1⟩
    go_wp2
    go_ret
    exact ⟨rfl, ((Mod.refl Nowhere w).alloc _).trans hm1⟩

set_option maxRecDepth 100000 in
set_option maxHeartbeats 400000 in
theorem sDelete_ok {w : World} {v : Value} {er : Nat} {eb : Int → Nat → Nat} (h : Shut w v er eb) (id : Int) :
    Calls Tryz.prog 78 #[v, .int .i64 id] w fun e w' => e = .returned (errno (eb id 0)) ∧ Mod Nowhere w w' := by
  have hR := h.begun w (Mod.refl _ w) id none 0 0 (by omega)
  have hE := h.eb7 id 0
  obtain ⟨q, hq⟩ : ∃ q, eb id 0 = q := ⟨_, rfl⟩
  rw [hq] at hR hE ⊢
  replace hq := Lib.hid hq
  replace hR := Lib.hid hR
  clear h
  rcases hE with rfl | rfl | rfl
  all_goals
    go_enter Tryz.func78, Tryz.ntmps78
    go_wp2_with fail
    refine hR.out.mono ?_
    rintro e w1 ⟨rfl, hm1⟩
    go_wp2
    go_ret
    exact ⟨rfl, hm1⟩

theorem Shut.dead {w : World} {A : VAt} {m : Mem} {f : Items} (h : VDead w A m f) : Shut w (ptr A.vb) 7 (fun id n => if validB id n = true then 7 else 1) := by
  obtain ⟨P, p, hs, ha⟩ := h.stub
  refine ⟨fun W hm => ?_, fun W hm id a n c hn => ?_, fun W hm => ?_, .inl rfl, fun id n => ?_⟩
  · have hR := vReady_ok (hs.mod hm)
    rw [ha] at hR
    exact hR.mono fun e w' ⟨h1, k, h2⟩ => ⟨h1, by rw [h2]; exact (Mod.refl Nowhere W).drewN k⟩
  · have hR := vBegun_ok (hs.mod hm) id a n c hn
    rw [ha] at hR
    exact hR.mono fun e w' ⟨h1, k, h2⟩ => ⟨by rw [h1]; cases validB id n <;> rfl, by rw [h2]; exact (Mod.refl Nowhere W).drewN k⟩
  · have hR := vAlive_ok (hs.mod hm)
    rw [ha] at hR
    exact hR.mono fun e w' ⟨h1, k, h2⟩ => ⟨h1, by rw [h2]; exact (Mod.refl Nowhere W).drewN k⟩
  · cases validB id n <;> simp
end Go.Proofs.YtikkodanpbmmkaaGreat
/-
  Vaults that cannot be used: getting an item, all calls; nothing is opened on nothing.
-/
namespace Go.Proofs.YtikkodanpbmmkaaGreat
open Go.RowKit
open Jn Vn
attribute [local go_sem] Oper.semAt_some

set_option maxRecDepth 100000 in
set_option maxHeartbeats 1000000 in
theorem sGet_ok {w : World} {v : Value} {er : Nat} {eb : Int → Nat → Nat} (h : Shut w v er eb) (id : Int) :
    Calls Tryz.prog 40 #[v, .int .i64 id] w fun e w' => e = .returned (.tuple #[.slice none 0 0, .bool false]) ∧ Mod Nowhere w w' := by
  obtain ⟨W0, hW0⟩ : ∃ W0, ((w.alloc (.cells #[.int .i64 id] 3)).alloc (.cells #[.slice none 0 0] 58)).alloc (.cells #[.bool false] 4) = W0 := ⟨_, rfl⟩
  have hm0 : Mod Nowhere w W0 := by rw [← hW0]; exact ((((Mod.refl _ w).alloc _).alloc _).alloc _)
  have x4 : Blk W0 (w.heap.size + 1) [.slice none 0 0] 58 := by
    rw [← hW0]
    have h := (Blk.new (w.alloc (.cells #[.int .i64 id] 3)) [.slice none 0 0] 58).alloc (.cells #[.bool false] 4)
    simpa using h
  have x5 : Blk W0 (w.heap.size + 1 + 1) [.bool false] 4 := by
    rw [← hW0]
    have h := Blk.new ((w.alloc (.cells #[.int .i64 id] 3)).alloc (.cells #[.slice none 0 0] 58)) [.bool false] 4
    simpa using h
  have hR := h.ready W0 hm0
  have hE := h.er7
  clear h
  replace hR := Lib.hid hR
  replace x4 := Lib.hid x4
  replace x5 := Lib.hid x5
  replace hm0 := Lib.hid hm0
  rcases hE with rfl | rfl
  all_goals
    go_enter Tryz.func40, Tryz.ntmps40
    go_wp2_with fail
    replace hW0 := Lib.hid hW0
    refine hR.out.mono ?_
    rintro e w1 ⟨rfl, hm1⟩
    have y4 := x4.out.mod hm1 (fun h => h)
    have y5 := x5.out.mod hm1 (fun h => h)
    have c4 := y4.cell 0
    have c5 := y5.cell 0
    simp only [List.getElem?_cons_zero] at c4 c5
    have l4 := y4.lt
    have l5 := y5.lt
    have f4 := y4.frozen
    have f5 := y5.frozen
    have hm01 := hm0.out.trans hm1
    have z4 : Blk ((w1.setCell ⟨w.heap.size + 1, 0, none⟩ (.slice none 0 0)).setCell ⟨w.heap.size + 1 + 1, 0, none⟩ (.bool false)) (w.heap.size + 1) [.slice none 0 0] 58 := (y4.setCell 0 _).setCell_other (by simp) _
    have z5 : Blk ((w1.setCell ⟨w.heap.size + 1, 0, none⟩ (.slice none 0 0)).setCell ⟨w.heap.size + 1 + 1, 0, none⟩ (.bool false)) (w.heap.size + 1 + 1) [.bool false] 4 := (y5.setCell_other (by simp) _).setCell 0 _
    have d4 := z4.cell 0
    have d5 := z5.cell 0
    simp only [List.getElem?_cons_zero] at d4 d5
    have hmf : Mod Nowhere w ((w1.setCell ⟨w.heap.size + 1, 0, none⟩ (.slice none 0 0)).setCell ⟨w.heap.size + 1 + 1, 0, none⟩ (.bool false)) := (hm01.setCell (p := ⟨w.heap.size + 1, 0, none⟩) (fun h => absurd h (by simp)) _).setCell (p := ⟨w.heap.size + 1 + 1, 0, none⟩) (fun h => absurd h (by simp; omega)) _
    replace y4 := Lib.hid y4
    replace y5 := Lib.hid y5
    replace hm1 := Lib.hid hm1
    replace hm01 := Lib.hid hm01
    replace z4 := Lib.hid z4
    replace z5 := Lib.hid z5
    replace hmf := Lib.hid hmf
    go_wp2
    exact bodyPost_ret (v := .tuple #[.slice none 0 0, .bool false]) (by simp [results, Tryz.results40, go_sem, d4, d5]) rfl ⟨rfl, hmf.out⟩
def sDoE (er : Nat) (eb : Int → Nat → Nat) (op nd : Int) (n : Nat) : Nat := if op = 0 ∨ op = 2 then eb nd n else if op = 1 then eb nd 0 else er
set_option maxRecDepth 100000 in
set_option maxHeartbeats 4000000 in
theorem sDo_ok {w : World} {v : Value} {er : Nat} {eb : Int → Nat → Nat} (h : Shut w v er eb) (op nd : Int) (a : Option Addr) (n c : Nat) (hn : n ≤ 1099511627776) :
    Calls Tryz.prog 38 #[v, .agg #[.int .i64 op, .int .i64 nd, .slice a n c]] w fun e w' => e = .returned (errno (sDoE er eb op nd n)) ∧ Mod Nowhere w w' := by
  obtain ⟨W0, hW0⟩ : ∃ W0, w.alloc (.cells #[.int .i64 op, .int .i64 nd, .slice a n c] 60) = W0 := ⟨_, rfl⟩
  have hm0 : Mod Nowhere w W0 := by rw [← hW0]; exact (Mod.refl _ w).alloc _
  have hbx : Blk W0 w.heap.size [.int .i64 op, .int .i64 nd, .slice a n c] 60 := by rw [← hW0]; exact Blk.new' rfl rfl
  have k0 : W0.cell? ⟨w.heap.size, 0, none⟩ = some (.int .i64 op) := hbx.cell 0
  have k1 : W0.cell? ⟨w.heap.size, 1, none⟩ = some (.int .i64 nd) := hbx.cell 1
  have k2 : W0.cell? ⟨w.heap.size, 2, none⟩ = some (.slice a n c) := hbx.cell 2
  have kl := hbx.lt
  have h' := h.fresh hm0
  have cPut := sPut_ok h' nd a n c hn
  have cNow := sNow_ok h' nd a n c hn
  have cDel := sDelete_ok h' nd
  have cBeg := sBegin_ok h'
  have cCom := sCommit_ok h'
  have cAbo := sAbort_ok h'
  have cBac := sBack_ok h' nd
  obtain ⟨q, hq⟩ : ∃ q, sDoE er eb op nd n = q := ⟨_, rfl⟩
  rw [hq]
  clear h h' hbx
  replace hq := Lib.hid hq
  replace cPut := Lib.hid cPut
  replace cNow := Lib.hid cNow
  replace cDel := Lib.hid cDel
  replace cBeg := Lib.hid cBeg
  replace cCom := Lib.hid cCom
  replace cAbo := Lib.hid cAbo
  replace cBac := Lib.hid cBac
  replace hm0 := Lib.hid hm0
  by_cases h0 : op = 0
  · obtain rfl : q = eb nd n := by rw [← hq.out]; unfold sDoE; rw [if_pos (.inl h0)]
    clear hq
    subst h0
    go_enter Tryz.func38, Tryz.ntmps38
    go_wp2_with fail
    replace hW0 := Lib.hid hW0
    refine cPut.out.mono ?_
    rintro e w5 ⟨rfl, hm5⟩
    go_wp2
    go_ret
    exact ⟨rfl, hm0.out.trans hm5⟩
  by_cases h1 : op = 1
  · obtain rfl : q = eb nd 0 := by rw [← hq.out]; unfold sDoE; rw [if_neg (by omega), if_pos h1]
    clear hq
    subst h1
    go_enter Tryz.func38, Tryz.ntmps38
    go_wp2_with fail
    replace hW0 := Lib.hid hW0
    refine cDel.out.mono ?_
    rintro e w5 ⟨rfl, hm5⟩
    go_wp2
    go_ret
    exact ⟨rfl, hm0.out.trans hm5⟩
  by_cases h2 : op = 2
  · obtain rfl : q = eb nd n := by rw [← hq.out]; unfold sDoE; rw [if_pos (.inr h2)]
    clear hq
    subst h2
    go_enter Tryz.func38, Tryz.ntmps38
    go_wp2_with fail
    replace hW0 := Lib.hid hW0
    refine cNow.out.mono ?_
    rintro e w5 ⟨rfl, hm5⟩
    go_wp2
    go_ret
    exact ⟨rfl, hm0.out.trans hm5⟩
  obtain rfl : q = er := by rw [← hq.out]; unfold sDoE; rw [if_neg (by omega), if_neg h1]
  clear hq
  by_cases h3 : op = 3
  · subst h3
    go_enter Tryz.func38, Tryz.ntmps38
    go_wp2_with fail
    replace hW0 := Lib.hid hW0
    refine cBeg.out.mono ?_
    rintro e w5 ⟨rfl, hm5⟩
    go_wp2
    go_ret
    exact ⟨rfl, hm0.out.trans hm5⟩
  by_cases h4 : op = 4
  · subst h4
    go_enter Tryz.func38, Tryz.ntmps38
    go_wp2_with fail
    replace hW0 := Lib.hid hW0
    refine cCom.out.mono ?_
    rintro e w5 ⟨rfl, hm5⟩
    go_wp2
    go_ret
    exact ⟨rfl, hm0.out.trans hm5⟩
  by_cases h5 : op = 5
  · subst h5
    go_enter Tryz.func38, Tryz.ntmps38
    go_wp2_with fail
    replace hW0 := Lib.hid hW0
    refine cAbo.out.mono ?_
    rintro e w5 ⟨rfl, hm5⟩
    go_wp2
    go_ret
    exact ⟨rfl, hm0.out.trans hm5⟩
  · go_enter Tryz.func38, Tryz.ntmps38
    go_wp2_with fail
    replace hW0 := Lib.hid hW0
    refine cBac.out.mono ?_
    rintro e w5 ⟨rfl, hm5⟩
    go_wp2
    go_ret
    exact ⟨rfl, hm0.out.trans hm5⟩
set_option maxRecDepth 100000 in
set_option maxHeartbeats 4000000 in
/-- Does a vault show that it is not alive? -/
theorem sDead_ok {w : World} {v : Value} {eb : Int → Nat → Nat} (h : Shut w v 7 eb) (hb1 : eb 1 0 = 7) :
    Calls Tryz.prog 65 #[v] w fun e w' => e = .returned (.bool true) ∧ Mod Nowhere w w' := by
  have c1 := sGet_ok h 1
  have c2 := fun W (hm : Mod Nowhere w W) => (h.fresh hm).alive W (Mod.refl _ _)
  have c3 := fun W (hm : Mod Nowhere w W) => sActive_ok (h.fresh hm)
  have c4 := fun W (hm : Mod Nowhere w W) => sSave_ok (h.fresh hm)
  have c5 := fun W (hm : Mod Nowhere w W) => sLeft_ok (h.fresh hm)
  have c6 := fun W (hm : Mod Nowhere w W) => sUsed_ok (h.fresh hm)
  have c7 := fun W (hm : Mod Nowhere w W) => sRoom_ok (h.fresh hm)
  have c8 := fun W (hm : Mod Nowhere w W) => sIDs_ok (h.fresh hm)
  have c9 := fun W (hm : Mod Nowhere w W) => sPut_ok (h.fresh hm) 1 none 0 0 (by omega)
  have c10 := fun W (hm : Mod Nowhere w W) => sDelete_ok (h.fresh hm) 1
  have c11 := fun W (hm : Mod Nowhere w W) => sNow_ok (h.fresh hm) 1 none 0 0 (by omega)
  have c12 := fun W (hm : Mod Nowhere w W) => sBegin_ok (h.fresh hm)
  have c13 := fun W (hm : Mod Nowhere w W) => sCommit_ok (h.fresh hm)
  have c14 := fun W (hm : Mod Nowhere w W) => sAbort_ok (h.fresh hm)
  have c15 := fun W (hm : Mod Nowhere w W) => sBack_ok (h.fresh hm) 0
  simp only [hb1] at c9 c10 c11
  clear h hb1
  replace c1 := Lib.hid c1
  replace c2 := Lib.hid c2
  replace c3 := Lib.hid c3
  replace c4 := Lib.hid c4
  replace c5 := Lib.hid c5
  replace c6 := Lib.hid c6
  replace c7 := Lib.hid c7
  replace c8 := Lib.hid c8
  replace c9 := Lib.hid c9
  replace c10 := Lib.hid c10
  replace c11 := Lib.hid c11
  replace c12 := Lib.hid c12
  replace c13 := Lib.hid c13
  replace c14 := Lib.hid c14
  replace c15 := Lib.hid c15
  go_enter Tryz.func65, Tryz.ntmps65
  go_wp2_with fail
  refine (c1.out).mono ?_
  rintro e w1 ⟨rfl, hm1⟩
  replace hm1 := Lib.hid hm1
  go_wp2_with fail
  refine (c2.out _ hm1.out).mono ?_
  rintro e w2 ⟨rfl, hm2'⟩
  have hm2 := Lib.hid (hm1.out.trans hm2')
  clear hm1 hm2'
  go_wp2_with fail
  refine (c3.out _ hm2.out).mono ?_
  rintro e w3 ⟨rfl, hm3'⟩
  have hm3 := Lib.hid (hm2.out.trans hm3')
  clear hm2 hm3'
  go_wp2_with fail
  refine (c4.out _ hm3.out).mono ?_
  rintro e w4 ⟨rfl, hm4'⟩
  have hm4 := Lib.hid (hm3.out.trans hm4')
  clear hm3 hm4'
  go_wp2_with fail
  refine (c5.out _ hm4.out).mono ?_
  rintro e w5 ⟨rfl, hm5'⟩
  have hm5 := Lib.hid (hm4.out.trans hm5')
  clear hm4 hm5'
  go_wp2_with fail
  refine (c6.out _ hm5.out).mono ?_
  rintro e w6 ⟨rfl, hm6'⟩
  have hm6 := Lib.hid (hm5.out.trans hm6')
  clear hm5 hm6'
  go_wp2_with fail
  refine (c7.out _ hm6.out).mono ?_
  rintro e w7 ⟨rfl, hm7'⟩
  have hm7 := Lib.hid (hm6.out.trans hm7')
  clear hm6 hm7'
  go_wp2_with fail
  refine (c8.out _ hm7.out).mono ?_
  rintro e w8 ⟨rfl, hm8'⟩
  have hm8 := Lib.hid (hm7.out.trans hm8')
  clear hm7 hm8'
  go_wp2_with fail
  refine (c9.out _ hm8.out).mono ?_
  rintro e w9 ⟨rfl, hm9'⟩
  have hm9 := Lib.hid (hm8.out.trans hm9')
  clear hm8 hm9'
  go_wp2_with fail
  refine (c10.out _ hm9.out).mono ?_
  rintro e w10 ⟨rfl, hm10'⟩
  have hm10 := Lib.hid (hm9.out.trans hm10')
  clear hm9 hm10'
  go_wp2_with fail
  refine (c11.out _ hm10.out).mono ?_
  rintro e w11 ⟨rfl, hm11'⟩
  have hm11 := Lib.hid (hm10.out.trans hm11')
  clear hm10 hm11'
  go_wp2_with fail
  refine (c12.out _ hm11.out).mono ?_
  rintro e w12 ⟨rfl, hm12'⟩
  have hm12 := Lib.hid (hm11.out.trans hm12')
  clear hm11 hm12'
  go_wp2_with fail
  refine (c13.out _ hm12.out).mono ?_
  rintro e w13 ⟨rfl, hm13'⟩
  have hm13 := Lib.hid (hm12.out.trans hm13')
  clear hm12 hm13'
  go_wp2_with fail
  refine (c14.out _ hm13.out).mono ?_
  rintro e w14 ⟨rfl, hm14'⟩
  have hm14 := Lib.hid (hm13.out.trans hm14')
  clear hm13 hm14'
  go_wp2_with fail
  refine (c15.out _ hm14.out).mono ?_
  rintro e w15 ⟨rfl, hm15'⟩
  have hm15 := Lib.hid (hm14.out.trans hm15')
  clear hm14 hm15'
  go_wp2
  go_ret
  exact ⟨rfl, hm15.out⟩
set_option maxRecDepth 100000 in
set_option maxHeartbeats 1000000 in
theorem Shut.nil (w : World) : Shut w (.pointer none) 31 (fun _ _ => 31) := by
  have hok : ∀ W, Calls Tryz.prog 110 #[.pointer none] W fun e w' => e = .returned (.bool false) ∧ W = w' := fun W => by
    go_enter Tryz.func110, Tryz.ntmps110
    go_wp2
    go_ret
    exact ⟨rfl, rfl⟩
  refine ⟨fun W hm => ?_, fun W hm id a n c hn => ?_, fun W hm => ?_, .inr rfl, fun id n => .inr (.inr rfl)⟩
  · have hok1 := hok W
    replace hok := Lib.hid hok
    replace hok1 := Lib.hid hok1
    replace hm := Lib.hid hm
    go_enter Tryz.func86, Tryz.ntmps86
    go_wp2_with fail
    refine (hok1.out).mono ?_
    rintro e w1 ⟨rfl, rfl⟩
    go_wp2
    go_ret
    exact ⟨rfl, Mod.refl _ _⟩
  · have hok1 := hok W
    replace hok := Lib.hid hok
    replace hok1 := Lib.hid hok1
    replace hm := Lib.hid hm
    go_enter Tryz.func96, Tryz.ntmps96
    go_wp2_with fail
    refine (hok1.out).mono ?_
    rintro e w1 ⟨rfl, rfl⟩
    go_wp2
    go_ret
    exact ⟨rfl, Mod.refl _ _⟩
  · have hok1 := hok W
    replace hok := Lib.hid hok
    replace hok1 := Lib.hid hok1
    replace hm := Lib.hid hm
    go_enter Tryz.func56, Tryz.ntmps56
    go_wp2_with fail
    refine (hok1.out).mono ?_
    rintro e w1 ⟨rfl, rfl⟩
    go_wp2
    go_ret
    exact ⟨rfl, Mod.refl _ _⟩
set_option maxRecDepth 100000 in
set_option maxHeartbeats 1000000 in
/-- A vault that was not opened. -/
theorem Shut.zero {w : World} {b : Nat} {cs : List Value} (hb : Blk w b cs 80) (h0 : cs[0]? = some (.pointer none)) : Shut w (ptr b) 31 (fun _ _ => 31) := by
  have hok : ∀ W, Mod Nowhere w W → Calls Tryz.prog 110 #[ptr b] W fun e w' => e = .returned (.bool false) ∧ W = w' := fun W hm => by
    have c0 := (hb.mod hm id).cell 0
    have cl := (hb.mod hm id).lt
    rw [h0] at c0
    replace hm := Lib.hid hm
    go_enter Tryz.func110, Tryz.ntmps110
    go_wp2
    go_ret
    exact ⟨rfl, rfl⟩
  refine ⟨fun W hm => ?_, fun W hm id a n c hn => ?_, fun W hm => ?_, .inr rfl, fun id n => .inr (.inr rfl)⟩
  · have hok1 := hok W hm
    replace hok := Lib.hid hok
    replace hok1 := Lib.hid hok1
    replace hm := Lib.hid hm
    go_enter Tryz.func86, Tryz.ntmps86
    go_wp2_with fail
    refine (hok1.out).mono ?_
    rintro e w1 ⟨rfl, rfl⟩
    go_wp2
    go_ret
    exact ⟨rfl, Mod.refl _ _⟩
  · have hok1 := hok W hm
    replace hok := Lib.hid hok
    replace hok1 := Lib.hid hok1
    replace hm := Lib.hid hm
    go_enter Tryz.func96, Tryz.ntmps96
    go_wp2_with fail
    refine (hok1.out).mono ?_
    rintro e w1 ⟨rfl, rfl⟩
    go_wp2
    go_ret
    exact ⟨rfl, Mod.refl _ _⟩
  · have hok1 := hok W hm
    replace hok := Lib.hid hok
    replace hok1 := Lib.hid hok1
    replace hm := Lib.hid hm
    go_enter Tryz.func56, Tryz.ntmps56
    go_wp2_with fail
    refine (hok1.out).mono ?_
    rintro e w1 ⟨rfl, rfl⟩
    go_wp2
    go_ret
    exact ⟨rfl, Mod.refl _ _⟩
set_option maxRecDepth 100000 in
set_option maxHeartbeats 1000000 in
theorem pOpen_nil (w : World) : Calls Tryz.prog 61 #[.pointer none] w fun e w' => e = .returned (.tuple #[.pointer none, errno 31]) ∧ Mod Nowhere w w' := by
  have hmf : Mod Nowhere w ((w.alloc (.cells #[.pointer none] 85)).alloc (.cells #[errno 31] 22)) := ((Mod.refl _ w).alloc _).alloc _
  go_enter Tryz.func61, Tryz.ntmps61
  go_wp2
  exact bodyPost_ret (v := .tuple #[.pointer none, errno 31]) (by simp [results, Tryz.results61, go_sem]) rfl ⟨rfl, hmf⟩
set_option maxRecDepth 100000 in
set_option maxHeartbeats 1000000 in
theorem vMount_nil (w : World) : Calls Tryz.prog 34 #[.pointer none] w fun e w' => e = .returned (.tuple #[.pointer none, errno 31]) ∧ Mod Nowhere w w' := by
  have hP := pOpen_nil w
  replace hP := Lib.hid hP
  go_enter Tryz.func34, Tryz.ntmps34
  go_wp2_with fail
  refine (hP.out).mono ?_
  rintro e w1 ⟨rfl, hm1⟩
  go_wp2
  go_ret2
  exact ⟨rfl, hm1⟩
set_option maxRecDepth 100000 in
set_option maxHeartbeats 1000000 in
theorem vOpen_nil (w : World) : Calls Tryz.prog 60 #[.pointer none] w fun e w' => e = .returned (.tuple #[.pointer none, errno 31]) ∧ Mod Nowhere w w' := by
  go_enter Tryz.func60, Tryz.ntmps60
  go_wp2
  go_ret2
  exact ⟨rfl, Mod.refl _ _⟩
set_option maxRecDepth 100000 in
set_option maxHeartbeats 1000000 in
theorem cNew_none (w : World) : Calls Tryz.prog 70 #[.agg #[.int .i64 0, .int .i64 0]] w fun e w' => e = .returned (.tuple #[.pointer none, errno 1]) ∧ Mod Nowhere w w' := by
  go_enter Tryz.func70, Tryz.ntmps70
  go_wp2
  go_ret2
  exact ⟨rfl, (Mod.refl _ _).alloc _⟩
set_option maxRecDepth 100000 in
set_option maxHeartbeats 1000000 in
theorem vNew_none (w : World) : Calls Tryz.prog 21 #[.agg #[.int .i64 0, .int .i64 0]] w fun e w' => e = .returned (.tuple #[.pointer none, .pointer none, errno 1]) ∧ Mod Nowhere w w' := by
  have hC := fun W => cNew_none W
  replace hC := Lib.hid hC
  go_enter Tryz.func21, Tryz.ntmps21
  go_wp2_with fail
  refine (hC.out _).mono ?_
  rintro e w1 ⟨rfl, hm1⟩
  have hm01 := ((Mod.refl Nowhere w).alloc (.cells #[.int .i64 0, .int .i64 0] 33)).trans hm1
  replace hm01 := Lib.hid hm01
  clear hm1
  go_wp2
  go_ret3
  exact ⟨rfl, hm01.out⟩
end Go.Proofs.YtikkodanpbmmkaaGreat
