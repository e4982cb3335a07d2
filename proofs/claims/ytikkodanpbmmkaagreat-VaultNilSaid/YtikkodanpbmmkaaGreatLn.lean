/-
  The law VaultNil: the walk.
-/
import Derived.Test.YtikkodanpbmmkaaGreatG27
import Derived.Test.YtikkodanpbmmkaaGreatG28
import Derived.Test.YtikkodanpbmmkaaGreatInr
set_option linter.unusedVariables false
set_option linter.unusedSimpArgs false
namespace Go.Proofs.YtikkodanpbmmkaaGreat
open Go.RowKit
open Jn Vn
attribute [local go_sem] Oper.semAt_some

/-- What a vault that was not opened answers, in every world after w. -/
structure Dumb (w : World) (v : Value) : Prop where
  get : ∀ W, Mod Nowhere w W → ∀ nd, Calls Tryz.prog 40 #[v, .int .i64 nd] W fun e w' => e = .returned (.tuple #[.slice none 0 0, .bool false]) ∧ Mod Nowhere W w'
  do_ : ∀ W, Mod Nowhere w W → ∀ (op nd : Int) (a : Option Addr) (n c : Nat), n ≤ 1099511627776 → Calls Tryz.prog 38 #[v, .agg #[.int .i64 op, .int .i64 nd, .slice a n c]] W fun e w' => e = .returned (errno 31) ∧ Mod Nowhere W w'
  active : ∀ W, Mod Nowhere w W → Calls Tryz.prog 55 #[v] W fun e w' => e = .returned (.bool false) ∧ Mod Nowhere W w'
  alive : ∀ W, Mod Nowhere w W → Calls Tryz.prog 56 #[v] W fun e w' => e = .returned (.bool false) ∧ Mod Nowhere W w'
  save : ∀ W, Mod Nowhere w W → Calls Tryz.prog 43 #[v] W fun e w' => e = .returned (.int .i64 0) ∧ Mod Nowhere W w'
  left : ∀ W, Mod Nowhere w W → Calls Tryz.prog 45 #[v] W fun e w' => e = .returned (.int .i64 0) ∧ Mod Nowhere W w'
  used : ∀ W, Mod Nowhere w W → Calls Tryz.prog 57 #[v] W fun e w' => e = .returned (.int .i64 0) ∧ Mod Nowhere W w'
  room : ∀ W, Mod Nowhere w W → Calls Tryz.prog 58 #[v] W fun e w' => e = .returned (.int .i64 0) ∧ Mod Nowhere W w'
  ids : ∀ W, Mod Nowhere w W → Calls Tryz.prog 59 #[v] W fun e w' => e = .returned (.slice none 0 0) ∧ Mod Nowhere W w'
theorem Shut.dumb {w : World} {v : Value} (h : Shut w v 31 (fun _ _ => 31)) : Dumb w v :=
  ⟨fun W hm nd => sGet_ok (h.fresh hm) nd, fun W hm op nd a n c hn => (sDo_ok (h.fresh hm) op nd a n c hn).mono fun e w' ⟨h1, h2⟩ => ⟨by rw [h1]; rw [show sDoE 31 (fun _ _ => 31) op nd n = 31 by unfold sDoE; simp]; rfl, h2⟩, fun W hm => sActive_ok (h.fresh hm), fun W hm => (h.fresh hm).alive W (Mod.refl _ _), fun W hm => sSave_ok (h.fresh hm), fun W hm => sLeft_ok (h.fresh hm), fun W hm => sUsed_ok (h.fresh hm), fun W hm => sRoom_ok (h.fresh hm), fun W hm => sIDs_ok (h.fresh hm)⟩
set_option maxRecDepth 100000 in
set_option maxHeartbeats 16000000 in
theorem lawNil13_ok (x : Vop) (w : World) (hin : InOp w x) : Calls Tryz.prog 11 #[.agg #[.int .i64 x.op, .int .i64 x.id, x.dv]] w fun e w' => e = .returned (.bool true) ∧ Below w.heap.size w w' := by
  obtain ⟨op, nd, dv, d⟩ := x
  obtain ⟨da, dc, ed, -⟩ := hin.src
  dsimp only at ed ⊢
  subst ed
  have hE := fun W => example13_ok W
  have hM := fun W => vMount_nil W
  have hO := fun W => vOpen_nil W
  have hN := fun W => vNew_none W
  obtain ⟨dl, hdl⟩ : ∃ dl, d.length = dl := ⟨_, rfl⟩
  have hmB : Mod Nowhere w (w.alloc (.cells #[.int .i64 op, .int .i64 nd, .slice da d.length dc] 60)) := (Mod.refl _ w).alloc _
  rw [hdl] at hmB ⊢
  by_cases hq : 3000 < dl
  · have hqi : (3000 : Int) < (dl : Int) := by omega
    replace hE := Lib.hid hE
    replace hdl := Lib.hid hdl
    replace hmB := Lib.hid hmB
    go_enter Tryz.func11, Tryz.ntmps11
    go_wp2_with fail
    refine (hE.out _).mono ?_
    rintro e w1 ⟨rfl, hm1⟩
    have hfin := (hmB.out.trans hm1).below
    replace hfin := Lib.hid hfin
    go_wp2
    go_ret
    exact ⟨rfl, hfin.out⟩
  have hqi : ¬ (3000 : Int) < (dl : Int) := by omega
  obtain ⟨W, hW⟩ : ∃ W, ((w.alloc (.cells #[.int .i64 op, .int .i64 nd, .slice da dl dc] 60)).alloc (.cells #[.pointer none, .int .i64 0, .int .i64 0, .map none, .bool false, .slice none 0 0] 80)).alloc (.cells #[.pointer none, ptr (w.heap.size + 1)] 29) = W := ⟨_, rfl⟩
  have hmW : Mod Nowhere w W := by rw [← hW]; exact (hmB.alloc _).alloc _
  have b1 : Blk W w.heap.size [.int .i64 op, .int .i64 nd, .slice da dl dc] 60 := by rw [← hW]; exact ((Blk.new' rfl rfl).alloc _).alloc _
  have b2 : Blk W (w.heap.size + 1) [.pointer none, .int .i64 0, .int .i64 0, .map none, .bool false, .slice none 0 0] 80 := by rw [← hW]; exact (Blk.new' (by simp) rfl).alloc _
  have b3 : Blk W (w.heap.size + 1 + 1) [.pointer none, ptr (w.heap.size + 1)] 29 := by rw [← hW]; exact Blk.new' (by simp) rfl
  have D0 := (Shut.nil W).dumb
  have D1 := (Shut.zero b2 rfl).dumb
  have hcl : ∀ X, Mod Nowhere W X → (X.cell? ⟨w.heap.size, 0, none⟩ = some (.int .i64 op) ∧ X.cell? ⟨w.heap.size, 1, none⟩ = some (.int .i64 nd) ∧ X.cell? ⟨w.heap.size, 2, none⟩ = some (.slice da dl dc)) ∧ (X.cell? ⟨w.heap.size + 1 + 1, 0, none⟩ = some (.pointer none) ∧ X.cell? ⟨w.heap.size + 1 + 1, 1, none⟩ = some (ptr (w.heap.size + 1))) ∧ w.heap.size < X.heap.size ∧ w.heap.size + 1 + 1 < X.heap.size := fun X hm => by
    have g1 := b1.mod hm (fun e => e)
    have g3 := b3.mod hm (fun e => e)
    exact ⟨⟨g1.cell 0, g1.cell 1, g1.cell 2⟩, ⟨g3.cell 0, g3.cell 1⟩, g1.lt, g3.lt⟩
  have hdn : dl ≤ 1099511627776 := by omega
  clear hin b1 b2 b3 hmB
  replace hE := Lib.hid hE
  replace hM := Lib.hid hM
  replace hO := Lib.hid hO
  replace hN := Lib.hid hN
  replace hdl := Lib.hid hdl
  replace hmW := Lib.hid hmW
  replace D0 := Lib.hid D0
  replace D1 := Lib.hid D1
  replace hcl := Lib.hid hcl
  replace hdn := Lib.hid hdn
  go_enter Tryz.func11, Tryz.ntmps11
  go_wp2
  replace hW := Lib.hid hW
  go_loopw [4] (fun i wr => (i = .int .i64 0 ∨ i = .int .i64 1 ∨ i = .int .i64 2) ∧ Mod Nowhere W wr) (fun i _ => 2 - (RowKit.intOf i).toNat)
  case atStart => exact ⟨.inl rfl, Mod.refl _ _⟩
  case round =>
    obtain ⟨rfl | rfl | rfl, hmr⟩ := hrel
    · obtain ⟨⟨c0, c1, c2⟩, ⟨c3, c4⟩, l1, l2⟩ := hcl.out wr hmr
      replace hmr := Lib.hid hmr
      go_wp2_with fail
      refine (D0.out.get _ hmr.out nd).mono ?_
      rintro e w1 ⟨rfl, hm1'⟩
      have hm1 := hmr.out.trans hm1'
      obtain ⟨⟨c0, c1, c2⟩, -, -⟩ := hcl.out w1 hm1
      have l1 : w.heap.size < w1.heap.size := (hcl.out w1 hm1).2.2.1
      replace hm1 := Lib.hid hm1
      clear hm1'
      go_wp2_with fail
      refine (D0.out.do_ _ hm1.out op nd da dl dc hdn.out).mono ?_
      rintro e w2 ⟨rfl, hm2'⟩
      have hm2 := Lib.hid (hm1.out.trans hm2')
      clear hm2' hm1
      go_wp2_with fail
      refine (D0.out.active _ hm2.out).mono ?_
      rintro e w3 ⟨rfl, hm3'⟩
      have hm3 := Lib.hid (hm2.out.trans hm3')
      clear hm3' hm2
      go_wp2_with fail
      refine (D0.out.alive _ hm3.out).mono ?_
      rintro e w4 ⟨rfl, hm4'⟩
      have hm4 := Lib.hid (hm3.out.trans hm4')
      clear hm4' hm3
      go_wp2_with fail
      refine (D0.out.save _ hm4.out).mono ?_
      rintro e w5 ⟨rfl, hm5'⟩
      have hm5 := Lib.hid (hm4.out.trans hm5')
      clear hm5' hm4
      go_wp2_with fail
      refine (D0.out.left _ hm5.out).mono ?_
      rintro e w6 ⟨rfl, hm6'⟩
      have hm6 := Lib.hid (hm5.out.trans hm6')
      clear hm6' hm5
      go_wp2_with fail
      refine (D0.out.used _ hm6.out).mono ?_
      rintro e w7 ⟨rfl, hm7'⟩
      have hm7 := Lib.hid (hm6.out.trans hm7')
      clear hm7' hm6
      go_wp2_with fail
      refine (D0.out.room _ hm7.out).mono ?_
      rintro e w8 ⟨rfl, hm8'⟩
      have hm8 := Lib.hid (hm7.out.trans hm8')
      clear hm8' hm7
      go_wp2_with fail
      refine (D0.out.ids _ hm8.out).mono ?_
      rintro e w9 ⟨rfl, hm9'⟩
      have hm9 := Lib.hid (hm8.out.trans hm9')
      clear hm9' hm8
      go_wp2
      go_roundw
      case rel => exact ⟨.inr (.inl rfl), hm9.out⟩
      case measure => decide
    · obtain ⟨⟨c0, c1, c2⟩, ⟨c3, c4⟩, l1, l2⟩ := hcl.out wr hmr
      replace hmr := Lib.hid hmr
      go_wp2_with fail
      refine (D1.out.get _ hmr.out nd).mono ?_
      rintro e w1 ⟨rfl, hm1'⟩
      have hm1 := hmr.out.trans hm1'
      obtain ⟨⟨c0, c1, c2⟩, -, -⟩ := hcl.out w1 hm1
      have l1 : w.heap.size < w1.heap.size := (hcl.out w1 hm1).2.2.1
      replace hm1 := Lib.hid hm1
      clear hm1'
      go_wp2_with fail
      refine (D1.out.do_ _ hm1.out op nd da dl dc hdn.out).mono ?_
      rintro e w2 ⟨rfl, hm2'⟩
      have hm2 := Lib.hid (hm1.out.trans hm2')
      clear hm2' hm1
      go_wp2_with fail
      refine (D1.out.active _ hm2.out).mono ?_
      rintro e w3 ⟨rfl, hm3'⟩
      have hm3 := Lib.hid (hm2.out.trans hm3')
      clear hm3' hm2
      go_wp2_with fail
      refine (D1.out.alive _ hm3.out).mono ?_
      rintro e w4 ⟨rfl, hm4'⟩
      have hm4 := Lib.hid (hm3.out.trans hm4')
      clear hm4' hm3
      go_wp2_with fail
      refine (D1.out.save _ hm4.out).mono ?_
      rintro e w5 ⟨rfl, hm5'⟩
      have hm5 := Lib.hid (hm4.out.trans hm5')
      clear hm5' hm4
      go_wp2_with fail
      refine (D1.out.left _ hm5.out).mono ?_
      rintro e w6 ⟨rfl, hm6'⟩
      have hm6 := Lib.hid (hm5.out.trans hm6')
      clear hm6' hm5
      go_wp2_with fail
      refine (D1.out.used _ hm6.out).mono ?_
      rintro e w7 ⟨rfl, hm7'⟩
      have hm7 := Lib.hid (hm6.out.trans hm7')
      clear hm7' hm6
      go_wp2_with fail
      refine (D1.out.room _ hm7.out).mono ?_
      rintro e w8 ⟨rfl, hm8'⟩
      have hm8 := Lib.hid (hm7.out.trans hm8')
      clear hm8' hm7
      go_wp2_with fail
      refine (D1.out.ids _ hm8.out).mono ?_
      rintro e w9 ⟨rfl, hm9'⟩
      have hm9 := Lib.hid (hm8.out.trans hm9')
      clear hm9' hm8
      go_wp2
      go_roundw
      case rel => exact ⟨.inr (.inr rfl), hm9.out⟩
      case measure => decide
    · have hm0 := hmW.out.trans hmr
      clear hmr
      replace hm0 := Lib.hid hm0
      go_wp2_with fail
      refine (hM.out _).mono ?_
      rintro e w1 ⟨rfl, hm1'⟩
      have hm1 := Lib.hid (hm0.out.trans hm1')
      clear hm1' hm0
      go_wp2_with fail
      refine (hO.out _).mono ?_
      rintro e w2 ⟨rfl, hm2'⟩
      have hm2 := Lib.hid (hm1.out.trans hm2')
      clear hm2' hm1
      go_wp2_with fail
      refine (hN.out _).mono ?_
      rintro e w3 ⟨rfl, hm3'⟩
      have hm3 := Lib.hid (hm2.out.trans hm3')
      clear hm3' hm2
      go_wp2_with fail
      refine (hE.out _).mono ?_
      rintro e w4 ⟨rfl, hm4'⟩
      have hfin := Lib.hid (hm3.out.trans hm4').below
      clear hm4' hm3
      go_wp2
      go_ret
      exact ⟨rfl, hfin.out⟩
end Go.Proofs.YtikkodanpbmmkaaGreat
