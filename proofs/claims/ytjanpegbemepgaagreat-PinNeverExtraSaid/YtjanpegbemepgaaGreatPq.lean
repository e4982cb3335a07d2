/-
  The PINs: put, and Delete.
-/
import Derived.Test.YtjanpegbemepgaaGreatPo
set_option linter.unusedVariables false
set_option linter.unusedSimpArgs false
namespace Go.Proofs.YtjanpegbemepgaaGreat
open Go.RowKit
open Jn Vn
attribute [local go_sem] Oper.semAt_some

/-- A source that the vault's writes leave alone. -/
def SrcS (A : VAt) (w : World) (v : Value) (d : List Nat) : Prop := ∀ W, Mod A.S w W → Src W v d
theorem SrcS.mod {A : VAt} {w w' : World} {v : Value} {d : List Nat} (h : SrcS A w v d) (hm : Mod A.S w w') : SrcS A w' v d := fun W h1 => h W (hm.trans h1)
theorem SrcS.src {A : VAt} {w : World} {v : Value} {d : List Nat} (h : SrcS A w v d) : Src w v d := h w (Mod.refl _ _)
theorem VRep.shunS {w : World} {A : VAt} {m : Mem} {s : VSt} (h : VRep w A m s) {T : TypeId} (hT : T ≠ 167 ∧ T ≠ 3 ∧ T ≠ 85 ∧ T ≠ 208) (hV : T ≠ 90) : Shun A.S w T := by
  obtain ⟨P, p, pc, J, bank, end_, ib, lv, xs, hv⟩ := h.ex
  exact hv.shunS hT hV
theorem VRep.lt {w : World} {A : VAt} {m : Mem} {s : VSt} (h : VRep w A m s) : ∀ k, A.S k → k < w.heap.size := by
  obtain ⟨P, p, pc, J, bank, end_, ib, lv, xs, hv⟩ := h.ex
  exact hv.ltS
theorem DSl.srcS {w : World} {A : VAt} {m : Mem} {s : VSt} (h : VRep w A m s) {v : Value} {d : List Nat} (hd : DSl w v d) : SrcS A w v d := fun W hm => (hd.mod hm (h.shunS (by decide) (by decide))).src
theorem PnAt.notS {w : World} {pb vb : Nat} (hp : PnAt w pb vb) {A : VAt} {m : Mem} {s : VSt} (h : VRep w A m s) : ¬ A.S pb := fun e => h.shunS (T := 69) (by decide) (by decide) pb e _ hp
theorem vChange_act {Z : Nat} {s : VSt} {r : Rec} (ha : s.act = true) : (vChange Z s r).1.f = s.f ∧ (vChange Z s r).1.act = true := by
  unfold vChange
  split
  · exact ⟨rfl, ha⟩
  · split
    · exact ⟨rfl, ha⟩
    · first | exact ⟨rfl, ha⟩ | (rw [if_pos ha]; exact ⟨rfl, ha⟩)
theorem vPut_act {Z : Nat} {s : VSt} {id : Int} {d : List Nat} (ha : s.act = true) : (vPut Z s id d).1.f = s.f ∧ (vPut Z s id d).1.act = true := by
  unfold vPut
  split
  · exact vChange_act ha
  · exact ⟨rfl, ha⟩
theorem vDel_act {Z : Nat} {s : VSt} {id : Int} (ha : s.act = true) : (vDel Z s id).1.f = s.f ∧ (vDel Z s id).1.act = true := by
  unfold vDel
  split
  · split
    · exact vChange_act ha
    · exact ⟨rfl, ha⟩
  · exact ⟨rfl, ha⟩
theorem pPutIn_act {Z : Nat} {d : PinD} {t u : Nat} {s : VSt} (ha : s.act = true) : (pPutIn Z d t u s).1.f = s.f := by
  unfold pPutIn
  split
  · exact (vPut_act (vPut_act ha).2).1.trans (vPut_act ha).1
  · exact (vPut_act ha).1
theorem pDelIn_act {Z : Nat} {id : Nat} {s : VSt} (ha : s.act = true) : (pDelIn Z id s).1.f = s.f := by
  unfold pDelIn
  split
  · exact (vDel_act (vDel_act ha).2).1.trans (vDel_act ha).1
  · exact (vDel_act ha).1
theorem putD_act {Z : Nat} {d : PinD} {t u : Nat} {s : VSt} (ha : s.act = true) {f : Items} (h : putD Z d t u s f) : f = s.f := by
  rcases h with h | h | h
  · exact h
  · rw [h]; exact (vPut_act ha).1
  · rw [h]; exact pPutIn_act ha
theorem delD_act {Z : Nat} {id : Nat} {s : VSt} (ha : s.act = true) {f : Items} (h : delD Z id s f) : f = s.f := by
  rcases h with h | h | h
  · exact h
  · rw [h]; exact (vDel_act ha).1
  · rw [h]; exact pDelIn_act ha
theorem pPutIn_len (Z : Nat) (d : PinD) (t u : Nat) (s : VSt) : (pPutIn Z d t u s).1.l.length ≤ s.l.length + 10 := by
  have h1 := vPut_len Z s (16 + d.id : Nat) (pinB d)
  have h2 := vPut_len Z (vPut Z s (16 + d.id : Nat) (pinB d)).1 (24 + d.id : Nat) [t, u]
  unfold pPutIn
  split <;> omega
theorem pDelIn_len (Z : Nat) (id : Nat) (s : VSt) : (pDelIn Z id s).1.l.length ≤ s.l.length + 10 := by
  have h1 := vDel_len Z s (16 + id : Nat)
  have h2 := vDel_len Z (vDel Z s (16 + id : Nat)).1 (24 + id : Nat)
  unfold pDelIn
  split <;> omega
/-- Four boxes. -/
theorem boxes4 (w : World) (l0 l1 l2 l3 : List Value) (T0 T1 T2 T3 : TypeId) :
    Blk ((((w.alloc (.cells l0.toArray T0)).alloc (.cells l1.toArray T1)).alloc (.cells l2.toArray T2)).alloc (.cells l3.toArray T3)) w.heap.size l0 T0 ∧
    Blk ((((w.alloc (.cells l0.toArray T0)).alloc (.cells l1.toArray T1)).alloc (.cells l2.toArray T2)).alloc (.cells l3.toArray T3)) (w.heap.size + 1) l1 T1 ∧
    Blk ((((w.alloc (.cells l0.toArray T0)).alloc (.cells l1.toArray T1)).alloc (.cells l2.toArray T2)).alloc (.cells l3.toArray T3)) (w.heap.size + 1 + 1) l2 T2 ∧
    Blk ((((w.alloc (.cells l0.toArray T0)).alloc (.cells l1.toArray T1)).alloc (.cells l2.toArray T2)).alloc (.cells l3.toArray T3)) (w.heap.size + 1 + 1 + 1) l3 T3 ∧
    Mod Nowhere w ((((w.alloc (.cells l0.toArray T0)).alloc (.cells l1.toArray T1)).alloc (.cells l2.toArray T2)).alloc (.cells l3.toArray T3)) := by
  have b0 := Blk.new w l0 T0
  have z0 : (w.alloc (.cells l0.toArray T0)).heap.size = w.heap.size + 1 := by simp
  generalize hw1 : w.alloc (.cells l0.toArray T0) = w1 at *
  have b1 := Blk.new w1 l1 T1
  have z1 : (w1.alloc (.cells l1.toArray T1)).heap.size = w1.heap.size + 1 := by simp
  have m1 : Mod Nowhere w1 (w1.alloc (.cells l1.toArray T1)) := (Mod.refl _ w1).alloc _
  generalize hw2 : w1.alloc (.cells l1.toArray T1) = w2 at *
  have b2 := Blk.new w2 l2 T2
  have z2 : (w2.alloc (.cells l2.toArray T2)).heap.size = w2.heap.size + 1 := by simp
  have m2 : Mod Nowhere w2 (w2.alloc (.cells l2.toArray T2)) := (Mod.refl _ w2).alloc _
  generalize hw3 : w2.alloc (.cells l2.toArray T2) = w3 at *
  have b3 := Blk.new w3 l3 T3
  have m3 : Mod Nowhere w3 (w3.alloc (.cells l3.toArray T3)) := (Mod.refl _ w3).alloc _
  rw [z2, z1, z0] at b3
  rw [z1, z0] at b2
  rw [z0] at b1
  refine ⟨((b0.mod m1 (fun e => e)).mod m2 (fun e => e)).mod m3 (fun e => e), (b1.mod m2 (fun e => e)).mod m3 (fun e => e), b2.mod m3 (fun e => e), b3, ?_⟩
  have m0 : Mod Nowhere w w1 := by rw [← hw1]; exact (Mod.refl _ w).alloc _
  exact ((m0.trans m1).trans m2).trans m3
set_option maxRecDepth 100000 in
set_option maxHeartbeats 8000000 in
theorem pinPut_ok {w : World} {pb : Nat} {A : VAt} {m : Mem} {s : VSt} {d : PinD} (hd : POk d) {u1 u2 : Value} (hs1 : SrcS A w u1 d.value) (hs2 : SrcS A w u2 d.code) {t u : Nat} (ht : t ≤ 15) (hu : u ≤ 15) (hp : PnAt w pb A.vb) (h : VRep w A m s) (hxn : s.l.length ≤ 90000) (hrm : Room m (vcost A + vcost A + vcost A)) :
    Calls Tryz.prog 35 #[ptr pb, pinV d u1 u2, .int .i64 t, .int .i64 u] w (PC (fun f => f = s.f ∨ f = (pPut A.Z s d t u).1.f) w A m (pPut A.Z s d t u).1 (pPut A.Z s d t u).2 (vcost A + vcost A + vcost A)) := by
  have np := hp.notS h
  have hlt := h.lt
  obtain ⟨B, hB⟩ : ∃ B, w.heap.size = B := ⟨_, rfl⟩
  have hA : ∀ W, Mod Nowhere w W → {T0 : TypeId} → Blk W B [ptr pb] T0 → Blk W (B + 1) (pinCells d u1 u2) 35 → Blk W (B + 2) [.int .i64 t] 3 → Blk W (B + 3) [.int .i64 u] 3 →
      Calls Tryz.prog 63 #[ptr pb, .func (.func 69) #[] #[ptr B, ptr (B + 1), ptr (B + 2), ptr (B + 3)]] W (PC (fun f => f = s.f ∨ f = (pPut A.Z s d t u).1.f) w A m (pPut A.Z s d t u).1 (pPut A.Z s d t u).2 (vcost A + vcost A + vcost A)) := by
    intro W hm T0 b0 b1 b2 b3
    have nB : ∀ k, B ≤ k → ¬ A.S k := fun k hk e => by have := hlt k e; omega
    have := pinAtomic_ok (hp.fresh hm) (h.fresh hm) hxn (K := vcost A + vcost A) hrm np 69 #[ptr B, ptr (B + 1), ptr (B + 2), ptr (B + 3)] (fun _ _ => rfl) (pPutIn A.Z d t u) (pPutIn_len _ _ _ _) (pPutIn_act rfl)
      (fun W2 s1 hm2 hv2 ha hfe hor => by
        have hl : s1.l.length ≤ 100000 := by rcases hor with rfl | rfl; omega; exact Nat.zero_le _
        have := pinPut1_ok hd (hs1 W2 (hm.nowhere.trans hm2)) (hs2 W2 (hm.nowhere.trans hm2)) ht hu (Blk.mod (hp.fresh hm) hm2 np) hv2 hl (hrm.mono (Nat.le_add_right _ _)) (b0.mod hm2 (nB _ (by omega))) (b1.mod hm2 (nB _ (by omega))) (b2.mod hm2 (nB _ (by omega))) (b3.mod hm2 (nB _ (by omega))) (nB _ (by omega)) (nB _ (by omega)) (nB _ (by omega)) (nB _ (by omega)) np
        exact this.mono fun e w' hc => hc.mono (fun f hf => (putD_act ha hf).trans hfe) (Nat.le_refl _))
    exact this.mono fun e w' hc => hc.from hm.nowhere
  unfold pinV
  unfold pinCells at hA
  obtain ⟨xa, xc, rfl, -, -, -⟩ := hs1.src
  obtain ⟨ya, yc, rfl, -, -, -⟩ := hs2.src
  subst hB
  replace hA := Lib.hid hA
  replace h := Lib.hid h
  replace hp := Lib.hid hp
  replace hs1 := Lib.hid hs1
  replace hs2 := Lib.hid hs2
  replace hd := Lib.hid hd
  replace hlt := Lib.hid hlt
  go_enter Tryz.func35, Tryz.ntmps35
  obtain ⟨b0, b1, b2, b3, hmB⟩ := boxes4 w [ptr pb] [.int .i64 d.id, .slice xa d.value.length xc, .int .i64 d.limit, .int .i64 d.lo, .int .i64 d.hi, .slice ya d.code.length yc, .int .i64 d.cl] [.int .i64 t] [.int .i64 u] 26 35 3 3
  have hA1 := hA.out _ hmB b0 b1 b2 b3
  replace hA1 := Lib.hid hA1
  replace b0 := Lib.hid b0
  replace b1 := Lib.hid b1
  replace b2 := Lib.hid b2
  replace b3 := Lib.hid b3
  replace hmB := Lib.hid hmB
  go_wp2_with fail
  refine hA1.out.mono ?_
  rintro e w3 hc
  obtain ⟨ne, rfl⟩ := hc.no
  replace hc := Lib.hid hc
  go_wp2
  go_ret
  exact hc.out
/-- Two boxes. -/
theorem boxes2 (w : World) (l0 l1 : List Value) (T0 T1 : TypeId) :
    Blk ((w.alloc (.cells l0.toArray T0)).alloc (.cells l1.toArray T1)) w.heap.size l0 T0 ∧
    Blk ((w.alloc (.cells l0.toArray T0)).alloc (.cells l1.toArray T1)) (w.heap.size + 1) l1 T1 ∧
    Mod Nowhere w ((w.alloc (.cells l0.toArray T0)).alloc (.cells l1.toArray T1)) := by
  have b0 := Blk.new w l0 T0
  have z0 : (w.alloc (.cells l0.toArray T0)).heap.size = w.heap.size + 1 := by simp
  have m0 : Mod Nowhere w (w.alloc (.cells l0.toArray T0)) := (Mod.refl _ w).alloc _
  generalize w.alloc (.cells l0.toArray T0) = w1 at *
  have b1 := Blk.new w1 l1 T1
  have m1 : Mod Nowhere w1 (w1.alloc (.cells l1.toArray T1)) := (Mod.refl _ w1).alloc _
  rw [z0] at b1
  exact ⟨b0.mod m1 (fun e => e), b1, m0.trans m1⟩
end Go.Proofs.YtjanpegbemepgaaGreat
