/-
  The example of the laws of chapter 21: the walk.
-/
import Derived.Test.YtjanpegbemepgaaGreatPaw
import Derived.Lib.SlBytesConst
set_option linter.unusedVariables false
set_option linter.unusedSimpArgs false
namespace Go.Proofs.YtjanpegbemepgaaGreat
open Go.RowKit
open Jn Vn
attribute [local go_sem] Oper.semAt_some

theorem boxes4' (w : World) (l0 l1 l2 l3 : List Value) (T0 T1 T2 T3 : TypeId) :
    ∃ W, (((w.alloc (.cells l0.toArray T0)).alloc (.cells l1.toArray T1)).alloc (.cells l2.toArray T2)).alloc (.cells l3.toArray T3) = W ∧
    Blk W w.heap.size l0 T0 ∧ Blk W (w.heap.size + 1) l1 T1 ∧ Blk W (w.heap.size + 1 + 1) l2 T2 ∧ Blk W (w.heap.size + 1 + 1 + 1) l3 T3 ∧ Mod Nowhere w W ∧ W.heap.size = w.heap.size + 1 + 1 + 1 + 1 := by
  obtain ⟨b0, b1, b2, b3, hm⟩ := boxes4 w l0 l1 l2 l3 T0 T1 T2 T3
  exact ⟨_, rfl, b0, b1, b2, b3, hm, by simp⟩
/-- A block of bytes that were written into the text. -/
def KBlk (w : World) (b : Nat) (d : List Nat) : Prop := ∃ fz, w.heap[b]? = some (.cells (u8s d).toArray 5 fz)
theorem KBlk.lt {w : World} {b : Nat} {d : List Nat} (h : KBlk w b d) : b < w.heap.size := by
  obtain ⟨fz, h⟩ := h
  exact (Array.getElem?_eq_some_iff.1 h).1
theorem KBlk.mod {S : Nat → Prop} {w w' : World} {b : Nat} {d : List Nat} (h : KBlk w b d) (hm : Mod S w w') (hn : ¬ S b) : KBlk w' b d := by
  have hl := h.lt
  obtain ⟨fz, h⟩ := h
  exact ⟨fz, (hm.block b hl hn).trans h⟩
theorem KBlk.src {w : World} {b : Nat} {d : List Nat} (h : KBlk w b d) (hl : d.length ≤ 1000) : Src w (.slice (some ⟨b, 0, none⟩) d.length d.length) d := by
  have hlt := h.lt
  obtain ⟨fz, h⟩ := h
  refine ⟨_, _, rfl, Nat.le_refl _, by unfold maxLen; omega, fun h0 => ⟨b, 0, rfl, hlt, fun i hi => ?_⟩⟩
  rw [cell_of_row w b (0 + i) _ _ fz h, Nat.zero_add]
  simp [u8s, hi, List.getD_eq_getElem?_getD]
theorem KBlk.srcS {A : VAt} {w : World} {b : Nat} {d : List Nat} (h : KBlk w b d) (hl : d.length ≤ 1000) (hn : ¬ A.S b) : SrcS A w (.slice (some ⟨b, 0, none⟩) d.length d.length) d := fun W hm => (h.mod hm hn).src hl
theorem KBlk.new (w : World) (d : List Nat) (fz : Nat × Nat) : KBlk (w.alloc (.cells (u8s d).toArray 5 fz)) w.heap.size d := ⟨fz, heap_alloc_new w _⟩
theorem conv_at (w : World) {B : Nat} (hB : w.heap.size = B) (C : Array Value) (n c : Nat) : (convert 31 31 (.slice (some ⟨B, 0, none⟩) n c)).run Tryz.prog (w.alloc (.cells C 5)) = .ok (.slice (some ⟨B, 0, none⟩) n c) (w.alloc (.cells C 5 (C.size, C.size + 1))) := by
  subst hB
  exact Lib.run_convert_bytes_const w 31 5 C n c Tryz.underlying31 Tryz.underlying5
/-- One string of bytes that was written into the text. -/
theorem keep1 (w : World) (d : List Nat) : ∃ W, w.alloc (.cells (u8s d).toArray 5 (d.length, d.length + 1)) = W ∧ KBlk W w.heap.size d ∧ Mod Nowhere w W ∧ W.heap.size = w.heap.size + 1 ∧
    (convert 31 31 (.slice (some ⟨w.heap.size, 0, none⟩) d.length d.length)).run Tryz.prog (w.alloc (.cells (u8s d).toArray 5)) = .ok (.slice (some ⟨w.heap.size, 0, none⟩) d.length d.length) W := by
  refine ⟨_, rfl, KBlk.new _ _ _, (Mod.refl _ w).alloc _, by simp, ?_⟩
  have := conv_at w rfl (u8s d).toArray d.length d.length
  rw [this]
  simp [u8s]
set_option maxRecDepth 100000 in
set_option maxHeartbeats 16000000 in
theorem awake21_ok (w : World) : Calls Tryz.prog 17 #[] w fun e w' => e = .returned (.bool true) ∧ Mod Nowhere w w' := by
  have hB := begin21_ok w
  replace hB := Lib.hid hB
  go_enter Tryz.func17, Tryz.ntmps17
  go_wp2_with fail
  refine (hB.out).mono ?_
  rintro e w1 ⟨A, m, pb, rfl, hc, hp, hpb, hAS, hpd, hm1⟩
  unfold cardV
  have b0 := Blk.new w1 [ptr A.M.mb, ptr A.vb, ptr pb] 28
  have m0 : Mod Nowhere w1 (w1.alloc (.cells #[ptr A.M.mb, ptr A.vb, ptr pb] 28)) := (Mod.refl _ w1).alloc _
  have z0 : (w1.alloc (.cells #[ptr A.M.mb, ptr A.vb, ptr pb] 28)).heap.size = w1.heap.size + 1 := by simp
  obtain ⟨X0, hX0⟩ : ∃ X0, w1.alloc (.cells #[ptr A.M.mb, ptr A.vb, ptr pb] 28) = X0 := ⟨_, rfl⟩
  have b0 : Blk X0 w1.heap.size [ptr A.M.mb, ptr A.vb, ptr pb] 28 := hX0 ▸ b0
  rw [hX0] at m0 z0
  obtain ⟨X1, -, b1, m1, z1, hc1⟩ := keep1 X0 [49, 50, 51, 52]
  obtain ⟨X2, -, b2, m2', z2, hc2'⟩ := keep1 X1 [57, 57]
  rw [z0] at b1 hc1 z1
  rw [z1] at b2 hc2' z2
  have b3 := Blk.new X2 [.int .i64 1, .slice (some ⟨w1.heap.size + 1, 0, none⟩) 4 4, .int .i64 3, .int .i64 4, .int .i64 8, .slice (some ⟨w1.heap.size + 1 + 1, 0, none⟩) 2 2, .int .i64 2] 35
  have m3' : Mod Nowhere X2 (X2.alloc (.cells #[.int .i64 1, .slice (some ⟨w1.heap.size + 1, 0, none⟩) 4 4, .int .i64 3, .int .i64 4, .int .i64 8, .slice (some ⟨w1.heap.size + 1 + 1, 0, none⟩) 2 2, .int .i64 2] 35)) := (Mod.refl _ _).alloc _
  obtain ⟨W, hW⟩ : ∃ W, X2.alloc (.cells #[.int .i64 1, .slice (some ⟨w1.heap.size + 1, 0, none⟩) 4 4, .int .i64 3, .int .i64 4, .int .i64 8, .slice (some ⟨w1.heap.size + 1 + 1, 0, none⟩) 2 2, .int .i64 2] 35) = W := ⟨_, rfl⟩
  have b3 : Blk W X2.heap.size [.int .i64 1, .slice (some ⟨w1.heap.size + 1, 0, none⟩) 4 4, .int .i64 3, .int .i64 4, .int .i64 8, .slice (some ⟨w1.heap.size + 1 + 1, 0, none⟩) 2 2, .int .i64 2] 35 := hW ▸ b3
  rw [hW] at m3'
  rw [z2] at b3
  have hmW := ((m0.trans m1).trans m2').trans m3'
  have b0 := ((b0.mod m1 (fun e => e)).mod m2' (fun e => e)).mod m3' (fun e => e)
  have b1 := (b1.mod m2' (fun e => e)).mod m3' (fun e => e)
  have b2 := b2.mod m3' (fun e => e)
  have hc1 : (convert 31 31 (.slice (some ⟨w1.heap.size + 1, 0, none⟩) 4 4)).run Tryz.prog (X0.alloc (.cells #[.int .u8 49, .int .u8 50, .int .u8 51, .int .u8 52] 5)) = .ok (.slice (some ⟨w1.heap.size + 1, 0, none⟩) 4 4) X1 := hc1
  have hc2' : (convert 31 31 (.slice (some ⟨w1.heap.size + 1 + 1, 0, none⟩) 2 2)).run Tryz.prog (X1.alloc (.cells #[.int .u8 57, .int .u8 57] 5)) = .ok (.slice (some ⟨w1.heap.size + 1 + 1, 0, none⟩) 2 2) X2 := hc2'
  have hlt := hc.rep.lt
  have np := hp.notS hc.rep
  have hcW := (hc.fresh hmW).less (show 999000000 + 767088 ≤ 1000000000 by decide) (Nat.le_refl 0)
  have hpW : PnAt W pb A.vb := Blk.mod hp hmW (fun e => e)
  have hC := pinCreate_ok exD_ok (u1 := .slice (some ⟨w1.heap.size + 1, 0, none⟩) 4 4) (u2 := .slice (some ⟨w1.heap.size + 1 + 1, 0, none⟩) 2 2) (b1.srcS (by decide) (fun e => by have := hlt _ e; omega)) (b2.srcS (by decide) (fun e => by have := hlt _ e; omega)) hpW hcW.rep (show (0 : Nat) ≤ 90000 by omega) hcW.psp.ps (by rw [hcW.cost]; exact hcW.room (by omega) (by decide))
  rw [show vst0 none_ = ex0 from rfl, ex_create hcW.z, hcW.cost] at hC
  unfold pinV at hC
  have k0 := b0.cell 2
  have c0 := b3.cell 0
  have c1 := b3.cell 1
  have c2 := b3.cell 2
  have c3 := b3.cell 3
  have c4 := b3.cell 4
  have c5 := b3.cell 5
  have c6 := b3.cell 6
  simp only [List.getElem?_cons_zero, List.getElem?_cons_succ] at k0 c0 c1 c2 c3 c4 c5 c6
  have kl := b0.lt
  have cl := b3.lt
  clear m0 m1 m2' m3' 
  replace hcW := Lib.hid hcW
  replace hpW := Lib.hid hpW
  replace hC := Lib.hid hC
  replace hc := Lib.hid hc
  replace hp := Lib.hid hp
  replace hpd := Lib.hid hpd
  replace hAS := Lib.hid hAS
  replace hm1 := Lib.hid hm1
  replace hmW := Lib.hid hmW
  replace b0 := Lib.hid b0
  replace b1 := Lib.hid b1
  replace b2 := Lib.hid b2
  replace b3 := Lib.hid b3
  replace hlt := Lib.hid hlt
  replace np := Lib.hid np
  go_wp2_with fail
  refine hC.out.mono ?_
  rintro e w2 hr
  obtain ⟨rfl, m2, hc2, hpd2, hm2⟩ := hr.sure (n := 999000000) (c := 0) hcW.out hpd.out ex1_psp
  have d0 := b0.out.mod hm2 (fun e => by have := hlt.out _ e; omega)
  have hp2 : PnAt w2 pb A.vb := Blk.mod hpW.out hm2 np.out
  obtain ⟨W2, -, e1, hmW2, hzW2, hc3'⟩ := keep1 w2 [48]
  have hc3' : (convert 31 31 (.slice (some ⟨w2.heap.size, 0, none⟩) 1 1)).run Tryz.prog (w2.alloc (.cells #[.int .u8 48] 5)) = .ok (.slice (some ⟨w2.heap.size, 0, none⟩) 1 1) W2 := hc3'
  have hs12 : w1.heap.size ≤ w2.heap.size := Nat.le_trans hmW.out.size hm2.size
  have hcW2 := (hc2.fresh hmW2).less (show 998000000 + 511392 ≤ 999000000 by decide) (Nat.le_refl 0)
  have hpW2 : PnAt W2 pb A.vb := Blk.mod hp2 hmW2 (fun e => e)
  have hV := pinVerify_ok hpW2 hcW2.rep (show (0 : Nat) ≤ 90000 by omega) hcW2.psp.ps hcW2.z hcW2.two 1 (by decide) (by decide) (e1.srcS (by decide) (fun e => by have := hlt.out _ e; omega)) (bytesOf rfl) (by rw [hcW2.cost]; exact hcW2.room (by omega) (by decide))
  obtain ⟨l1, hl1⟩ := ex_verify hcW2.z
  rw [hl1, hcW2.cost] at hV
  clear k0 kl c0 c1 c2 c3 c4 c5 c6 cl
  have k0 := d0.cell 2
  simp only [List.getElem?_cons_zero, List.getElem?_cons_succ] at k0
  have kl := d0.lt
  clear hr
  replace hc2 := Lib.hid hc2
  replace hpd2 := Lib.hid hpd2
  replace hm2 := Lib.hid hm2
  replace d0 := Lib.hid d0
  replace hp2 := Lib.hid hp2
  replace e1 := Lib.hid e1
  replace hmW2 := Lib.hid hmW2
  replace hzW2 := Lib.hid hzW2
  replace hcW2 := Lib.hid hcW2
  replace hpW2 := Lib.hid hpW2
  replace hV := Lib.hid hV
  replace hl1 := Lib.hid hl1
  go_wp2_with fail
  refine hV.out.mono ?_
  rintro e w3 hr
  obtain ⟨rfl, m3, hc3, hpd3, hm3⟩ := hr.sure (n := 998000000) (c := 0) hcW2.out hpd2.out ex2_psp
  have d3 := (d0.out.mod hmW2.out (fun e => e)).mod hm3 (fun e => by have := hlt.out _ e; omega)
  have hp3 : PnAt w3 pb A.vb := Blk.mod hpW2.out hm3 np.out
  obtain ⟨Y3, -, g1, hmY3, hzY3, hc4'⟩ := keep1 w3 [57, 57]
  obtain ⟨W3, -, g2, hmW3', hzW3, hc5'⟩ := keep1 Y3 [53, 53, 53, 53]
  rw [hzY3] at g2 hc5'
  have hc4' : (convert 31 31 (.slice (some ⟨w3.heap.size, 0, none⟩) 2 2)).run Tryz.prog (w3.alloc (.cells #[.int .u8 57, .int .u8 57] 5)) = .ok (.slice (some ⟨w3.heap.size, 0, none⟩) 2 2) Y3 := hc4'
  have hc5' : (convert 31 31 (.slice (some ⟨w3.heap.size + 1, 0, none⟩) 4 4)).run Tryz.prog (Y3.alloc (.cells #[.int .u8 53, .int .u8 53, .int .u8 53, .int .u8 53] 5)) = .ok (.slice (some ⟨w3.heap.size + 1, 0, none⟩) 4 4) W3 := hc5'
  have g1 := g1.mod hmW3' (fun e => e)
  have hmW3 := hmY3.trans hmW3'
  have hs13 : w1.heap.size ≤ w3.heap.size := Nat.le_trans (Nat.le_trans hs12 hmW2.out.size) hm3.size
  have hcW3 := (hc3.fresh hmW3).less (show 996000000 + 1278480 ≤ 998000000 by decide) (Nat.le_refl 0)
  have hpW3 : PnAt W3 pb A.vb := Blk.mod hp3 hmW3 (fun e => e)
  have hU := pinUnblock_ok hpW3 hcW3.rep (show (0 : Nat) ≤ 90000 by omega) hcW3.psp.ps hcW3.z hcW3.two 1 (by decide) (by decide) (g1.srcS (by decide) (fun e => by have := hlt.out _ e; omega)) (g2.srcS (by decide) (fun e => by have := hlt.out _ e; omega)) (bytesOf rfl) (bytesOf rfl) (by rw [hcW3.cost]; exact hcW3.room (by omega) (by decide))
  obtain ⟨l2, hl2⟩ := ex_unblock hcW3.z
  rw [hl2, hcW3.cost] at hU
  clear k0 kl
  have k0 := d3.cell 2
  simp only [List.getElem?_cons_zero, List.getElem?_cons_succ] at k0
  have kl := d3.lt
  clear hr
  replace hc3 := Lib.hid hc3
  replace hpd3 := Lib.hid hpd3
  replace hm3 := Lib.hid hm3
  replace d3 := Lib.hid d3
  replace hp3 := Lib.hid hp3
  replace g1 := Lib.hid g1
  replace g2 := Lib.hid g2
  replace hmW3 := Lib.hid hmW3
  replace hcW3 := Lib.hid hcW3
  replace hpW3 := Lib.hid hpW3
  replace hU := Lib.hid hU
  replace hl2 := Lib.hid hl2
  go_wp2_with fail
  refine hU.out.mono ?_
  rintro e w4 hr
  obtain ⟨rfl, m4, hc4, hpd4, hm4⟩ := hr.sure (n := 996000000) (c := 0) hcW3.out hpd3.out ex3_psp
  have d4 := (d3.out.mod hmW3.out (fun e => e)).mod hm4 (fun e => by have := hlt.out _ e; omega)
  have hp4 : PnAt w4 pb A.vb := Blk.mod hpW3.out hm4 np.out
  have hI := pinInfo_ok hp4 hc4.rep (show (0 : Nat) ≤ 1000000 by omega) hc4.psp.ps.view 1 (by decide) (by decide)
  rw [ex_info] at hI
  clear k0 kl
  have k0 := d4.cell 2
  simp only [List.getElem?_cons_zero, List.getElem?_cons_succ] at k0
  have kl := d4.lt
  clear hr
  have hmA : Mod A.S w w4 := ((((((hm1.out.trans hmW.out).nowhere.trans hm2.out).trans hmW2.out.nowhere).trans hm3.out).trans hmW3.out.nowhere).trans hm4)
  replace hc4 := Lib.hid hc4
  replace hpd4 := Lib.hid hpd4
  replace hm4 := Lib.hid hm4
  replace d4 := Lib.hid d4
  replace hp4 := Lib.hid hp4
  replace hI := Lib.hid hI
  replace hmA := Lib.hid hmA
  go_wp2_with fail
  refine hI.out.mono ?_
  rintro e w5 ⟨rfl, hm5⟩
  have hfin : ∀ W, Mod Nowhere w5 W → Mod Nowhere w W := fun W hm => (hmA.out.mono (fun i hi e => absurd hi (by have := hAS.out i e; omega))).trans (hm5.trans hm)
  replace hm5 := Lib.hid hm5
  replace hfin := Lib.hid hfin
  go_wp2
  go_ret
  exact ⟨rfl, hfin.out _ ((Mod.refl _ _).alloc _)⟩
end Go.Proofs.YtjanpegbemepgaaGreat
