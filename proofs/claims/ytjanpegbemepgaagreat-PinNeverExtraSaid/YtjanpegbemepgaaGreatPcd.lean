/-
  The cards of chapter 21: a memory, a vault that has nothing but PINs, and its PINs.
-/
import Derived.Test.YtjanpegbemepgaaGreatPd
import Derived.Test.YtjanpegbemepgaaGreatPnl
import Derived.Test.YtjanpegbemepgaaGreatG30
set_option linter.unusedVariables false
set_option linter.unusedSimpArgs false
namespace Go.Proofs.YtjanpegbemepgaaGreat
open Go.RowKit
open Jn Vn
attribute [local go_sem] Oper.semAt_some

theorem pRepl_is {Z : Nat} {s : VSt} (h : PS s) {d : PinD} (hd : POk d) {v : List Nat} (hdv : POk { d with value := v }) (hZ : 1800 ≤ Z / 2) : pRepl Z s d v = (putS s { d with value := v } d.limit (ptry (view s) d.id).2, 0) :=
  pPut_is h hdv hd.l15 (h.view.tries hd.i1 hd.i8).2 hZ
theorem VRep.vmem {w : World} {A : VAt} {m : Mem} {s : VSt} (h : VRep w A m s) : VMem m A.count A.frames s.f := by
  obtain ⟨P, p, pc, J, bank, end_, ib, lv, xs, h⟩ := h.ex
  have hh := h.jr.pg.inv.h
  rw [h.of.count, h.of.frames] at hh
  exact ⟨pc, J, bank, end_, hh, .inl h.st, h.bk⟩
/-- A card whose vault is alive, with room for n writes; the power was cut c times at most. -/
structure Card (w : World) (A : VAt) (m : Mem) (s : VSt) (n c : Nat) : Prop where
  rep : VRep w A m s
  psp : PSP s
  clean : m.Clean
  size : m.size = 4096
  cnt : A.count = 170
  frm : A.frames = 204
  wr : m.writes + n ≤ m.endu
  cu : m.cuts ≤ c
/-- A memory that holds the items f. -/
structure MCard (w : World) (M : MemAt) (m : Mem) (f : Items) (n c : Nat) : Prop where
  rep : MemRep w M m
  clean : m.Clean
  good : m.Good
  size : m.size = 4096
  vm : VMem m 170 204 f
  wr : m.writes + n ≤ m.endu
  cu : m.cuts ≤ c
section
variable {w w' : World} {A : VAt} {m m' : Mem} {s s' : VSt} {n k c c' : Nat} {f : Items} {M : MemAt}
theorem Card.fresh (h : Card w A m s n c) (hm : Mod Nowhere w w') : Card w' A m s n c := { h with rep := h.rep.fresh hm }
theorem Card.less (h : Card w A m s n c) (hk : k ≤ n) (hc : c ≤ c') : Card w A m s k c' := { h with wr := Nat.le_trans (Nat.add_le_add_left hk _) h.wr, cu := Nat.le_trans h.cu hc }
theorem Card.room (h : Card w A m s n c) (hc : c ≤ 1000) (hk : k ≤ n) : Room m k := ⟨Nat.le_trans (Nat.add_le_add_left hk _) h.wr, Nat.lt_of_le_of_lt h.cu (by omega)⟩
theorem Card.z (h : Card w A m s n c) : 1800 ≤ A.Z / 2 := by unfold VAt.Z; rw [h.cnt]; decide
theorem Card.two (h : Card w A m s n c) : A.count + 2 ≤ A.frames := by rw [h.cnt, h.frm]; decide
theorem vcost_170 (h : A.count = 170) : vcost A = 255696 := by
  unfold vcost VAt.Z
  rw [h]
  rfl
theorem Card.cost (h : Card w A m s n c) : vcost A = 255696 := vcost_170 h.cnt
theorem Card.off (h : Card w A m s n c) : m.off = false := h.rep.mem.2.1
theorem Card.mcard (h : Card w A m s n c) : MCard w A.M m s.f n c :=
  ⟨h.rep.mem.1, h.clean, h.rep.mem.2.2.1, h.size, by have := h.rep.vmem; rw [h.cnt, h.frm] at this; exact this, h.wr, h.cu⟩
/-- After writes. -/
theorem Card.after {j : Nat} (h : Card w A m s (n + j) c) (hr : Runs m m' k) (hk : k ≤ j) (hv : VRep w' A m' s') (hp : PSP s') : Card w' A m' s' n c :=
  ⟨hv, hp, hr.clean h.clean, hr.size.trans h.size, h.cnt, h.frm, by have := h.wr; rw [hr.writes, hr.endu]; omega, by rw [hr.cuts]; exact h.cu⟩
theorem Card.gone {j : Nat} (h : Card w A m s (n + j) c) (hs : Stopped m m' j) (hg : PGone w' A m' f) : MCard w' A.M m' f n (c + 1) := by
  obtain ⟨P, p, hst, -, -⟩ := hg.ex
  exact ⟨hst.mem, hs.clean h.clean, hs.good, hs.size.trans h.size, by have := hg.vm; rw [h.cnt, h.frm] at this; exact this, by have := h.wr; have := hs.hi; rw [hs.endu]; omega, by rw [hs.cuts]; have := h.cu; omega⟩
/-- A cut is planned. -/
theorem Card.plan (h : Card w A m s n c) {q : Nat} (hm : Mod A.M.S w w') (hR : MemRep w' A.M (m.cut q)) : Card w' A (m.cut q) s n c :=
  ⟨h.rep.replan hm hR rfl rfl rfl rfl, h.psp, h.clean.of rfl, h.size, h.cnt, h.frm, h.wr, h.cu⟩
theorem MCard.less (h : MCard w M m f n c) (hk : k ≤ n) (hc : c ≤ c') : MCard w M m f k c' := { h with wr := Nat.le_trans (Nat.add_le_add_left hk _) h.wr, cu := Nat.le_trans h.cu hc }
theorem MCard.fresh (h : MCard w M m f n c) (hm : Mod Nowhere w w') : MCard w' M m f n c := { h with rep := h.rep.mod hm (fun _ _ => id) }
theorem MCard.set (h : MCard w M m f n c) (hr : MemRep w' M m') (e1 : m'.words = m.words) (e2 : m'.writes = m.writes) (e3 : m'.cuts = m.cuts) (e4 : m'.endu = m.endu) : MCard w' M m' f n c :=
  ⟨hr, h.clean.of e1, h.good.of e1, by show m'.words.length = 4096; rw [e1]; exact h.size, h.vm.of e1 e2, by rw [e2, e4]; exact h.wr, by rw [e3]; exact h.cu⟩
end
/-- Where no cut is planned. -/
theorem PGe.sure {D : Items → Prop} {w w' : World} {A : VAt} {m : Mem} {s s' : VSt} {er j n c : Nat} {e : Ending} (h : PGe D w A m s' er j e w') (hc : Card w A m s (n + j) c) (hpd : m.pending = false) (hp : PSP s') :
    e = .returned (errno er) ∧ ∃ m', Card w' A m' s' n c ∧ m'.pending = false ∧ Mod A.S w w' := by
  rcases h with ⟨m', k, a1, b1, hk, d, g⟩ | ⟨m', f, a1, b1, hg, d, g⟩
  · exact ⟨a1, m', hc.after d hk b1 hp, d.pend.trans hpd, g⟩
  · rw [d.pend] at hpd; cases hpd
theorem PGd.sure {D : Items → Prop} {w w' : World} {A : VAt} {m : Mem} {s s' : VSt} {left er j n c : Nat} {e : Ending} (h : PGd D w A m s' left er j e w') (hc : Card w A m s (n + j) c) (hpd : m.pending = false) (hp : PSP s') :
    e = .returned (.tuple #[.int .i64 left, errno er]) ∧ ∃ m', Card w' A m' s' n c ∧ m'.pending = false ∧ Mod A.S w w' := by
  rcases h with ⟨m', k, a1, b1, hk, d, g⟩ | ⟨m', f, a1, b1, hg, d, g⟩
  · exact ⟨a1, m', hc.after d hk b1 hp, d.pend.trans hpd, g⟩
  · rw [d.pend] at hpd; cases hpd
/-- The blocks of a card: a value as the laws hold it. -/
def cardV (A : VAt) (pb : Nat) : Value := .agg #[ptr A.M.mb, ptr A.vb, ptr pb]
/-- After begin: an empty card, all of its blocks new. -/
def Begun (w : World) (e : Ending) (w' : World) : Prop :=
  ∃ A m pb, e = .returned (.tuple #[cardV A pb, .bool true]) ∧ Card w' A m (vst0 none_) 1000000000 0 ∧ PnAt w' pb A.vb ∧ w.heap.size ≤ pb ∧ (∀ k, A.S k → w.heap.size ≤ k) ∧ m.pending = false ∧ Mod Nowhere w w'
theorem VNew.card {w w' : World} {v : Ending} (h : VNew 4096 1073741824 w v w') : ∃ A m, v = .returned (.tuple #[ptr A.M.mb, ptr A.vb, errno 0]) ∧ Card w' A m (vst0 none_) 1000000000 0 ∧ (∀ k, A.S k → w.heap.size ≤ k) ∧ m.pending = false ∧ Mod Nowhere w w' := by
  obtain ⟨A, m, k, a, b, c, d, e, f, g, i, j⟩ := h
  exact ⟨A, m, a, ⟨e, .idle0 .none .none, g.clean (Mem.new_clean _ _), g.size.trans (Mem.new_size _ _), b, c, by rw [g.writes, g.endu]; show 0 + k + 1000000000 ≤ 1073741824; omega, by rw [g.cuts]; exact Nat.le_refl _⟩, i, g.pend, j⟩
theorem ret_card {fn : Func} {p u : Tmp} (h : fn.results = #[.cell p 28, .tmp u]) (tmps : Array Value) (w : World) (b : Nat) (c0 c1 c2 : Value) (hp : tmps.getD p undef = ptr b) (hb : Blk w b [c0, c1, c2] 28) :
    (results fn tmps).run Tryz.prog w = .ok (.tuple #[.agg #[c0, c1, c2], tmps.getD u undef]) w := by
  rw [results_cell_tmp h, hp]
  have k0 := hb.cell 0
  have k1 := hb.cell 1
  have k2 := hb.cell 2
  simp only [List.getElem?_cons_zero, List.getElem?_cons_succ] at k0 k1 k2
  go_simp
theorem set3 {w2 : World} {B : Nat} {T : TypeId} {c0 c1 c2 : Value} (hb : Blk w2 B [c0, c1, c2] T) (v0 v1 v2 : Value) :
    Blk (((w2.setCell ⟨B, 0, none⟩ v0).setCell ⟨B, 1, none⟩ v1).setCell ⟨B, 2, none⟩ v2) B [v0, v1, v2] T ∧
    Mod (fun j => j = B) w2 (((w2.setCell ⟨B, 0, none⟩ v0).setCell ⟨B, 1, none⟩ v1).setCell ⟨B, 2, none⟩ v2) :=
  ⟨((hb.setCell 0 v0).setCell 1 v1).setCell 2 v2, (((Mod.refl (fun j => j = B) w2).setCell (p := ⟨B, 0, none⟩) (fun _ => rfl) v0).setCell (p := ⟨B, 1, none⟩) (fun _ => rfl) v1).setCell (p := ⟨B, 2, none⟩) (fun _ => rfl) v2⟩
set_option maxRecDepth 100000 in
set_option maxHeartbeats 8000000 in
theorem begin21_ok (w : World) : Calls Tryz.prog 7 #[] w (Begun w) := by
  have hN := fun W => vNew_ok (w := W) (n := 4096) (e := 1073741824) (by omega) (by omega) (by omega) (by omega)
  replace hN := Lib.hid hN
  go_enter Tryz.func7, Tryz.ntmps7
  go_wp2_with fail
  refine (hN.out _).mono ?_
  rintro e w1 hv
  obtain ⟨A, m, rfl, hc, hAS, hpd, hm1⟩ := hv.card
  clear hv
  have hO := pinOpen_ok hc.rep.says
  have hsz := hm1.size
  have bR : Blk w1 w.heap.size [.pointer none, .pointer none, .pointer none] 28 := (Blk.new w [.pointer none, .pointer none, .pointer none] 28).mod hm1 (fun e => e)
  replace hO := Lib.hid hO
  replace hc := Lib.hid hc
  replace hAS := Lib.hid hAS
  replace hpd := Lib.hid hpd
  replace hm1 := Lib.hid hm1
  replace bR := Lib.hid bR
  go_wp2_with fail
  refine hO.out.mono ?_
  rintro e w2 ⟨pb, rfl, hp, hpb, hm2⟩
  have b2 := bR.out.mod hm2 (fun e => e)
  have k0 := b2.cell 0
  have k1 := b2.cell 1
  have k2 := b2.cell 2
  simp only [List.getElem?_cons_zero, List.getElem?_cons_succ] at k0 k1 k2
  have kf := b2.frozen
  have kl := b2.lt
  have hm02 : Mod Nowhere w w2 := (((Mod.refl _ w).alloc _).trans hm1.out).trans hm2
  obtain ⟨b3, m3⟩ := set3 b2 (ptr A.M.mb) (ptr A.vb) (ptr pb)
  replace hp := Lib.hid hp
  replace hm2 := Lib.hid hm2
  replace b2 := Lib.hid b2
  replace hm02 := Lib.hid hm02
  replace b3 := Lib.hid b3
  replace m3 := Lib.hid m3
  have hpb' : w.heap.size + 1 ≤ pb := by have := hm1.out.size; simp at this; omega
  go_wp2
  have hAS' : ∀ k, A.S k → w.heap.size + 1 ≤ k := fun k hk => by have := hAS.out k hk; simpa using this
  refine bodyPost_ret (ret_card rfl _ _ w.heap.size _ _ _ rfl b3.out) rfl ⟨A, m, pb, rfl, ?_, ?_, by omega, fun k hk => by have := hAS' k hk; omega, hpd.out, hm02.out.newb m3.out (Nat.le_refl _)⟩
  · exact { hc.out with rep := (hc.out.rep.fresh hm2.out).keepB m3.out b2.out (by decide) }
  · exact Blk.mod hp.out m3.out (fun e => by have e : pb = w.heap.size := e; omega)
/-- The power is restored, and everything is opened again. -/
def Again (w : World) (M : MemAt) (f : Items) (n c : Nat) (e : Ending) (w' : World) : Prop :=
  ∃ A m pb, e = .returned (.tuple #[cardV A pb, .bool true]) ∧ A.M = M ∧ Card w' A m (vst0 f) n c ∧ PnAt w' pb A.vb ∧ w.heap.size ≤ pb ∧ (∀ k, A.S k → M.S k ∨ w.heap.size ≤ k) ∧ m.pending = false ∧ Mod M.S w w'
set_option maxRecDepth 100000 in
set_option maxHeartbeats 8000000 in
theorem again21_ok {w : World} {M : MemAt} {m : Mem} {f : Items} {n c : Nat} (h : MCard w M m f (n + 62580) c) (hc : c ≤ 1000) (hf : PInvF f) (hpr : Pairs f) (v p : Value) :
    Calls Tryz.prog 16 #[.agg #[ptr M.mb, v, p]] w (Again w M f n c) := by
  obtain ⟨b1, b2, mB⟩ := boxes2 w [ptr M.mb, v, p] [.pointer none, .pointer none, .pointer none] 28 28
  have hlM : ∀ k, M.S k → k < w.heap.size := fun k hk => by
    rcases hk with e | e | e
    · rw [e]; exact h.rep.bm.lt
    · rw [e]; exact h.rep.bw.lt
    · rw [e]; exact h.rep.br.lt
  obtain ⟨W, hW⟩ : ∃ W, (w.alloc (.cells #[ptr M.mb, v, p] 28)).alloc (.cells #[.pointer none, .pointer none, .pointer none] 28) = W := ⟨_, rfl⟩
  have hzW : W.heap.size = w.heap.size + 1 + 1 := by rw [← hW]; simp
  rw [hW] at b1 b2 mB
  have hR := Restore_ok (h.fresh mB).rep
  have k0 := b1.cell 0
  simp only [List.getElem?_cons_zero] at k0
  have l1 := b1.lt
  replace hR := Lib.hid hR
  replace h := Lib.hid h
  replace hf := Lib.hid hf
  replace hpr := Lib.hid hpr
  replace mB := Lib.hid mB
  replace b1 := Lib.hid b1
  replace b2 := Lib.hid b2
  replace hlM := Lib.hid hlM
  replace hzW := Lib.hid hzW
  go_enter Tryz.func16, Tryz.ntmps16
  go_wp2_with fail
  refine hR.out.mono ?_
  rintro e w1 ⟨rfl, hr1, hm1⟩
  have hmc := (h.out.fresh mB.out).set hr1 rfl rfl rfl rfl
  have c1 := b1.out.mod hm1 (fun e => by have := hlM.out _ e; omega)
  have c2 := b2.out.mod hm1 (fun e => by have := hlM.out _ e; omega)
  have hwr := hmc.wr
  have hwr2 : m.restore.writes + 62580 ≤ m.restore.endu := Nat.le_trans (Nat.add_le_add_left (Nat.le_add_left 62580 n) _) hwr
  have hM := vMount_ok hr1 rfl hmc.clean hmc.good (by rw [hmc.size]; decide) (by rw [hmc.size]) (by rw [hmc.size]) (by decide) hmc.vm ⟨hwr2, Nat.lt_of_le_of_lt hmc.cu (by omega)⟩
  have k0 := c1.cell 0
  simp only [List.getElem?_cons_zero] at k0
  have l1 := c1.lt
  replace hM := Lib.hid hM
  replace hmc := Lib.hid hmc
  replace c1 := Lib.hid c1
  replace c2 := Lib.hid c2
  replace hm1 := Lib.hid hm1
  replace hwr := Lib.hid hwr
  replace hwr2 := Lib.hid hwr2
  replace hr1 := Lib.hid hr1
  go_wp2_with fail
  refine hM.out.mono ?_
  rintro e w2 (⟨A, m', k, rfl, a1, a2, a3, a4, a5, a6, a7, a8, a9⟩ | ⟨m', rfl, d1, d2, d3, d4⟩)
  · have hO := pinOpen_ok a5.says
    have e1 := c1.out.mod a9 (fun e => by have := hlM.out _ e; omega)
    have e2 := c2.out.mod a9 (fun e => by have := hlM.out _ e; omega)
    have hcd : Card w2 A m' (vst0 f) n c := ⟨a5, .idle0 hf.out hpr.out, a7.clean hmc.out.clean, a7.size.trans hmc.out.size, a2, a3, by
      have := hwr.out
      rw [a7.writes, a7.endu]
      obtain ⟨q, hq⟩ : ∃ q, 62580 = q := ⟨_, rfl⟩
      rw [hq] at this a6
      omega, by rw [a7.cuts]; exact hmc.out.cu⟩
    have hpd : m'.pending = false := a7.pend
    replace hO := Lib.hid hO
    replace e1 := Lib.hid e1
    replace e2 := Lib.hid e2
    replace hcd := Lib.hid hcd
    replace a8 := Lib.hid a8
    replace a9 := Lib.hid a9
    replace hpd := Lib.hid hpd
    replace a5 := Lib.hid a5
    replace a7 := Lib.hid a7
    go_wp2_with fail
    refine hO.out.mono ?_
    rintro e w3 ⟨pb, rfl, hp, hpb, hm3⟩
    have g1 := e1.out.mod hm3 (fun e => e)
    have g2 := e2.out.mod hm3 (fun e => e)
    have k0 := g1.cell 0
    have l1 := g1.lt
    have j0 := g2.cell 0
    have j1 := g2.cell 1
    have j2 := g2.cell 2
    simp only [List.getElem?_cons_zero, List.getElem?_cons_succ] at k0 j0 j1 j2
    have jf := g2.frozen
    have jl := g2.lt
    obtain ⟨b3, m3⟩ := set3 g2 (ptr M.mb) (ptr A.vb) (ptr pb)
    have hmA : Mod M.S w w3 := ((mB.out.nowhere.trans hm1.out).trans a9.out).trans hm3.nowhere
    replace g1 := Lib.hid g1
    replace g2 := Lib.hid g2
    replace hp := Lib.hid hp
    replace hm3 := Lib.hid hm3
    replace b3 := Lib.hid b3
    replace m3 := Lib.hid m3
    replace hmA := Lib.hid hmA
    go_wp2
    subst a1
    have hs := Nat.le_trans (Nat.le_trans mB.out.size hm1.out.size) a9.out.size
    refine bodyPost_ret (ret_card rfl _ _ (w.heap.size + 1) _ _ _ rfl b3.out) rfl ⟨A, m', pb, rfl, rfl, ?_, ?_, by omega, fun k hk => ?_, hpd.out, ?_⟩
    · exact { hcd.out with rep := (hcd.out.rep.fresh hm3.out).keepB m3.out g2.out (by decide) }
    · exact Blk.mod hp.out m3.out (fun e => by
        have e : pb = w.heap.size + 1 := e
        have := hzW.out; have := hm1.out.size; have := a9.out.size
        omega)
    · rcases a8.out k hk with h1 | h1
      · exact .inl h1
      · right; have := hm1.out.size; have := mB.out.size; omega
    · exact hmA.out.step m3.out fun i hi e => by
        have e : i = w.heap.size + 1 := e
        omega
  · exact absurd d2.pend (by show ¬ (false = true); decide)
end Go.Proofs.YtjanpegbemepgaaGreat
