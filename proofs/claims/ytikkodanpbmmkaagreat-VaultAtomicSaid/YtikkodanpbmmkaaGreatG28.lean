/-
  The laws of chapter 13: the vaults that they are about, and their inputs.
-/
import Derived.Test.YtikkodanpbmmkaaGreatVe
import Derived.Test.YtikkodanpbmmkaaGreatG26
import Derived.Test.YtikkodanpbmmkaaGreatG25
import Derived.Test.YtikkodanpbmmkaaGreatG18
import Derived.Test.YtikkodanpbmmkaaGreatInq
set_option linter.unusedVariables false
set_option linter.unusedSimpArgs false
namespace Go.Proofs.YtikkodanpbmmkaaGreat
open Go.RowKit
open Jn Vn
attribute [local go_sem] Oper.semAt_some

/-- A vault of the laws that is alive and has room for n writes. -/
structure Vl (w : World) (A : VAt) (m : Mem) (s : VSt) (n : Nat) : Prop where
  rep : VRep w A m s
  len : s.l.length ≤ 1000
  room : Room m n
  cost : vcost A ≤ 1022784
  clean : m.Clean
  c240 : 240 ≤ m.size
  cC : m.size / 24 = A.count
  cN : m.size / 20 = A.frames
  c33 : 33 ≤ A.count
theorem Vl.fresh {w w' : World} {A : VAt} {m : Mem} {s : VSt} {n : Nat} (h : Vl w A m s n) (hm : Mod Nowhere w w') : Vl w' A m s n := { h with rep := h.rep.fresh hm }
theorem Vl.less {w : World} {A : VAt} {m : Mem} {s : VSt} {n k : Nat} (h : Vl w A m s n) (hk : k ≤ n) : Vl w A m s k := { h with room := h.room.mono hk }
theorem VCall.vl {w w' : World} {A : VAt} {m : Mem} {s s' : VSt} {er n k : Nat} {e : Ending} (hc : VCall w A m s s' er k e w') (h : Vl w A m s (n + k)) (hl : s'.l.length ≤ 1000) :
    (∃ m', e = .returned (Go.Proofs.YtikkodanpbmmkaaGreat.errno er) ∧ Vl w' A m' s' n ∧ m'.pending = m.pending ∧ m'.cuts = m.cuts ∧ m'.off = false ∧ Mod A.S w w') ∨ (∃ m' f, e = .returned (Go.Proofs.YtikkodanpbmmkaaGreat.errno 7) ∧ (f = s.f ∨ f = s'.f) ∧ VDead w' A m' f ∧ Stopped m m' k ∧ Mod A.S w w') := by
  rcases hc with ⟨m', j, a, b, c, d, g⟩ | ⟨m', f, a, b, c, d, g⟩
  · exact .inl ⟨m', a, ⟨b, hl, h.room.runs d (by omega), h.cost, d.clean h.clean, by rw [d.size]; exact h.c240, by rw [d.size]; exact h.cC, by rw [d.size]; exact h.cN, h.c33⟩, d.pend, d.cuts, d.off, g⟩
  · exact .inr ⟨m', f, a, b, c, d, g⟩
theorem VCall.sure {w w' : World} {A : VAt} {m : Mem} {s s' : VSt} {er n k : Nat} {e : Ending} (hc : VCall w A m s s' er k e w') (h : Vl w A m s (n + k)) (hl : s'.l.length ≤ 1000) (hp : m.pending = false) :
    ∃ m', e = .returned (Go.Proofs.YtikkodanpbmmkaaGreat.errno er) ∧ Vl w' A m' s' n ∧ m'.pending = false ∧ Mod A.S w w' := by
  rcases hc.vl h hl with ⟨m', a, b, c, -, -, d⟩ | ⟨m', f, -, -, -, d, -⟩
  · exact ⟨m', a, b, c.trans hp, d⟩
  · have := d.pend; rw [hp] at this; cases this
/-- The reference's state stays where the vault is called. -/
theorem RRep.keepA {w w' : World} {v : Value} {R : Nat} {s s' : VSt} {A : VAt} {m : Mem} (h : RRep w v R s) (hv : VRep w A m s') (hm : Mod A.S w w') : RRep w' v R s := by
  obtain ⟨P, p, pc, J, bank, end_, ib, lv, xs, hV⟩ := hv.ex
  obtain ⟨iv, ev, ys, es, rfl, hs⟩ := h.ex
  exact ⟨_, _, _, _, rfl, ⟨hs.it.mod hm (hV.shunS (by decide) (by decide)) (hV.shunS (by decide) (by decide)), hs.its, hs.ed.mod hm (hV.shunS (by decide) (by decide)) (hV.shunS (by decide) (by decide)), hs.eds, hs.ok, hs.iok, hs.len, hs.room, hs.idle⟩⟩
theorem RSt.keepA {w w' : World} {R : Nat} {iv ev : Value} {ys : List Ix} {es : List Vx} {s s' : VSt} {A : VAt} {m : Mem} (hs : RSt w R iv ev ys es s) (hv : VRep w A m s') (hm : Mod A.S w w') : RSt w' R iv ev ys es s := by
  obtain ⟨P, p, pc, J, bank, end_, ib, lv, xs, hV⟩ := hv.ex
  exact ⟨hs.it.mod hm (hV.shunS (by decide) (by decide)) (hV.shunS (by decide) (by decide)), hs.its, hs.ed.mod hm (hV.shunS (by decide) (by decide)) (hV.shunS (by decide) (by decide)), hs.eds, hs.ok, hs.iok, hs.len, hs.room, hs.idle⟩
theorem VRep.iok {w : World} {A : VAt} {m : Mem} {s : VSt} (h : VRep w A m s) : IOk s.f ∧ (∀ r ∈ s.l, ROk r) ∧ (s.act = false → s.l = []) := by
  obtain ⟨P, p, pc, J, bank, end_, ib, lv, xs, hV⟩ := h.ex
  exact ⟨hV.bk.iok, hV.ok, hV.idle⟩

/-- A vault stays where a block of another type is written. -/
theorem VRep.keepB {w w' : World} {A : VAt} {m : Mem} {s : VSt} {b : Nat} {cs : List Value} {T : TypeId} (h : VRep w A m s) (hm : Mod (fun k => k = b) w w') (hb : Blk w b cs T) (hT : T ≠ 142 ∧ T ≠ 3 ∧ T ≠ 108 ∧ T ≠ 151 ∧ T ≠ 80 ∧ T ≠ 153 ∧ T ≠ 5 ∧ T ≠ 117) : VRep w' A m s := by
  obtain ⟨P, p, pc, J, bank, end_, ib, lv, xs, h⟩ := h.ex
  have hsh : ∀ U, T ≠ U → Shun (fun k => k = b) w U := fun U hU k e cs' hb' => hU (by rw [e] at hb'; exact (hb.inj hb').2)
  have hj : ∀ k, (k = A.jb ∨ P.S k ∨ A.M.S k) → ¬ k = b := by
    rintro k (e | e) ev
    · rw [ev] at e
      have hbj := h.jr.bj
      rw [← e] at hbj
      exact hT.2.2.2.2.2.1 (hb.inj hbj).2
    · have hJ : A.J k := by rw [← h.of.J]; exact e
      rw [ev] at hJ
      exact h.shunJ ⟨hT.1, hT.2.1, hT.2.2.1, hT.2.2.2.1⟩ b hJ cs hb
  have hbv : ¬ A.vb = b := fun e => by
    have := h.bv
    rw [e] at this
    exact hT.2.2.2.2.1 (hb.inj this).2
  exact ⟨⟨P, p, pc, J, bank, end_, ib, lv, xs, ⟨h.jr.keep hm hj (h.jr.pg.rep.bf.off (hsh _ hT.2.1)), h.of, h.st, h.bk, h.bv.mod hm hbv, h.im.mod hm (fun e => by
    rw [← e] at hb
    exact h.im.noCells hb) (hsh _ hT.2.2.2.2.2.2.1), h.ls.mod hm (hsh _ hT.2.2.2.2.2.2.1) (hsh _ hT.2.2.2.2.2.2.2), h.xl, h.ok, h.idle⟩⟩⟩
theorem vAlive_rep {w : World} {A : VAt} {m : Mem} {s : VSt} (h : VRep w A m s) : Calls Tryz.prog 56 #[ptr A.vb] w fun e w' => e = .returned (.bool true) ∧ Mod Nowhere w w' := by
  obtain ⟨P, p, pc, J, bank, end_, ib, lv, xs, h⟩ := h.ex
  have hA := vAlive_ok h.stub
  rw [h.jr.pg.alive_true] at hA
  exact hA.mono fun e w' ⟨a, n, b⟩ => ⟨a, by rw [b]; exact (Mod.refl Nowhere w).drewN n⟩
theorem vActive_rep {w : World} {A : VAt} {m : Mem} {s : VSt} (h : VRep w A m s) : Calls Tryz.prog 55 #[ptr A.vb] w fun e w' => e = .returned (.bool s.act) ∧ Mod Nowhere w w' := by
  obtain ⟨P, p, pc, J, bank, end_, ib, lv, xs, h⟩ := h.ex
  have hA := vActive_ok h.stub (show w.cell? ⟨A.vb, 4, none⟩ = some (.bool s.act) from h.bv.cell 4)
  rw [h.jr.pg.alive_true, Bool.true_and] at hA
  exact hA.mono fun e w' ⟨a, n, b⟩ => ⟨a, by rw [b]; exact (Mod.refl Nowhere w).drewN n⟩
/-- Getting an item from a vault that is alive. -/
theorem vGet_rep {w : World} {A : VAt} {m : Mem} {s : VSt} (h : VRep w A m s) (hxn : s.l.length ≤ 1000000) (nd : Int) (h1 : -9223372036854775808 ≤ nd) (h2 : nd ≤ 9223372036854775807) :
    Calls Tryz.prog 40 #[ptr A.vb, .int .i64 nd] w (GetPost w (at_ (sets s.f s.l) nd)) := by
  obtain ⟨P, p, pc, J, bank, end_, ib, lv, xs, h⟩ := h.ex
  have hxl : xs.length = s.l.length := by rw [← h.xl, recs_len]
  exact vGet_ok h (by omega) nd h1 h2

/-! ### Are calls few and short? -/
def lightB (l : List Vop) : Bool := decide (l.length ≤ 60) && l.all fun x => decide (x.d.length ≤ 3000)
theorem lightB_ok {l : List Vop} (h : lightB l = true) : l.length ≤ 60 ∧ ∀ x ∈ l, x.d.length ≤ 3000 := by
  unfold lightB at h
  simp only [Bool.and_eq_true, decide_eq_true_eq, List.all_eq_true] at h
  exact h
set_option maxRecDepth 100000 in
set_option maxHeartbeats 1000000 in
theorem light_ok {w : World} {v : Value} {l : List Vop} (h : InOps w v l) : Calls Tryz.prog 35 #[v] w fun e w' => e = .returned (.bool (lightB l)) ∧ w = w' := by
  obtain ⟨a, cap, rfl, h1, h2, h3⟩ := h
  unfold lightB
  by_cases hn : 60 < l.length
  · have hni : (60 : Int) < (l.length : Int) := by omega
    replace h3 := Lib.hid h3
    go_enter Tryz.func35, Tryz.ntmps35
    go_wp2
    go_ret
    exact ⟨ret_bool (by simp; omega), rfl⟩
  · have hni : ¬ (60 : Int) < (l.length : Int) := by omega
    rw [show decide (l.length ≤ 60) = true by simp; omega, Bool.true_and]
    replace h3 := Lib.hid h3
    go_enter Tryz.func35, Tryz.ntmps35
    go_wp2
    go_loopw [3] (fun i wr => ∃ k : Nat, k ≤ l.length ∧ i = .int .i64 k ∧ ((l.take k).all fun x => decide (x.d.length ≤ 3000)) = true ∧ w = wr) (fun i _ => l.length - (RowKit.intOf i).toNat)
    case atStart => exact ⟨0, by omega, rfl, rfl, rfl⟩
    case round =>
      obtain ⟨k, hk, rfl, hall, rfl⟩ := hrel
      by_cases hlt : k < l.length
      · obtain ⟨b, off, rfl, hc⟩ := h3.out (by omega)
        have hx := hc k hlt
        obtain ⟨hl, c0, c1, c2, hs, -, -, -⟩ := hx
        obtain ⟨da, dc, ed, -⟩ := hs
        rw [ed] at c2
        have htk : ((l.take (k + 1)).all fun x => decide (x.d.length ≤ 3000)) = (((l.take k).all fun x => decide (x.d.length ≤ 3000)) && decide (l[k].d.length ≤ 3000)) := by
          rw [List.take_succ_eq_append_getElem hlt, List.all_append]; simp only [List.all_cons, List.all_nil, Bool.and_true]
        have hno : ¬ l[k].d.length ≤ 3000 → (l.all fun x => decide (x.d.length ≤ 3000)) = false := fun h => by
          rw [List.all_eq_false]; exact ⟨l[k], List.getElem_mem hlt, by simpa using h⟩
        generalize l[k].d.length = q at *
        replace htk := Lib.hid htk
        replace hall := Lib.hid hall
        replace hno := Lib.hid hno
        clear hc ed
        by_cases hq : 3000 < q
        · have hqi : (3000 : Int) < (q : Int) := by omega
          go_wp2
          go_ret
          exact ⟨ret_bool (hno.out (by omega)).symm, rfl⟩
        · have hqi : ¬ (3000 : Int) < (q : Int) := by omega
          go_wp2
          go_roundw
          case rel => exact ⟨k + 1, by omega, by go_num, by rw [htk.out, hall.out]; simp; omega, by first | rfl | trivial⟩
          case measure => simp [RowKit.intOf]; omega
      · obtain rfl : k = l.length := by omega
        rw [List.take_length] at hall
        replace hall := Lib.hid hall
        go_wp2
        go_ret
        exact ⟨ret_bool hall.out.symm, rfl⟩

/-! ### Opening -/
def wordsN (large : Bool) : Nat := if large = true then 16384 else 1536
set_option maxRecDepth 100000 in
set_option maxHeartbeats 1000000 in
theorem words_ok (w : World) (large : Bool) : Calls Tryz.prog 80 #[.bool large] w fun e w' => e = .returned (.agg #[.int .i64 (wordsN large : Nat), .int .i64 1073741824]) ∧ Mod Nowhere w w' := by
  cases large
  · go_enter Tryz.func80, Tryz.ntmps80
    go_wp2
    exact bodyPost_ret (results_cell_row rfl _ _ w.heap.size 33 _ (0, 0) _ rfl (heap_alloc_new w _) Tryz.underlying33 rfl (by kernel_rfl)) rfl ⟨rfl, (Mod.refl _ w).alloc _⟩
  · go_enter Tryz.func80, Tryz.ntmps80
    go_wp2
    exact bodyPost_ret (results_cell_row rfl _ _ w.heap.size 33 _ (0, 0) _ rfl (heap_alloc_new w _) Tryz.underlying33 rfl (by kernel_rfl)) rfl ⟨rfl, (Mod.refl _ w).alloc _⟩
theorem RRep.first {w : World} {R : Nat} (hR : R ≤ 2000000) : RRep w (.agg #[.int .i64 R, .slice none 0 0, .bool false, .slice none 0 0]) R (vst0 none_) :=
  RRep.mk' (s := vst0 none_) (xs := []) (es := []) ⟨⟨Sl.nil _ _ _, fun x hx => (List.not_mem_nil hx).elim⟩, by rw [show (vst0 none_).f = none_ from rfl, itemsOf_none]; rfl, ⟨Sl.nil _ _ _, fun x hx => (List.not_mem_nil hx).elim⟩, rfl, fun r hr => (List.not_mem_nil hr).elim, IOk.none, Nat.zero_le _, hR, fun _ => rfl⟩ rfl
set_option maxRecDepth 100000 in
set_option maxHeartbeats 1000000 in
theorem first_ok (w : World) (R : Nat) : Calls Tryz.prog 81 #[.int .i64 R] w fun e w' => e = .returned (.agg #[.int .i64 R, .slice none 0 0, .bool false, .slice none 0 0]) ∧ Mod Nowhere w w' := by
  go_enter Tryz.func81, Tryz.ntmps81
  go_wp2
  exact bodyPost_ret (results_cell_row rfl _ _ w.heap.size 54 _ (0, 0) _ rfl (heap_alloc_new w _) Tryz.underlying54 rfl (by kernel_rfl)) rfl ⟨rfl, (Mod.refl _ w).alloc _⟩
theorem ret_open {fn : Func} {a b p u : Tmp} (h : fn.results = #[.tmp a, .tmp b, .cell p 54, .tmp u]) (tmps : Array Value) (w : World) (B : Nat) (c0 c1 c2 c3 : Value) (hp : tmps.getD p undef = ptr B) (hb : Blk w B [c0, c1, c2, c3] 54) :
    (results fn tmps).run Tryz.prog w = .ok (.tuple #[tmps.getD a undef, tmps.getD b undef, .agg #[c0, c1, c2, c3], tmps.getD u undef]) w := by
  have e : (results fn tmps).run Tryz.prog w = ((asAddr (tmps.getD p undef)).run Tryz.prog w).andThen fun a' w₁ => ((loadVar 54 a').run Tryz.prog w₁).andThen fun v w₂ => .ok (.tuple #[tmps.getD a undef, tmps.getD b undef, v, tmps.getD u undef]) w₂ := by
    simp only [results, h]
    simp [Sem.run_bind, Result.andThen]
  rw [e, hp]
  have k0 := hb.cell 0
  have k1 := hb.cell 1
  have k2 := hb.cell 2
  have k3 := hb.cell 3
  simp only [List.getElem?_cons_zero, List.getElem?_cons_succ] at k0 k1 k2 k3
  go_simp
theorem VNew.vl {n : Nat} {w w' : World} {v : Ending} (h : VNew n 1073741824 w v w') (hn : n = 16384 ∨ n = 1536) : ∃ A m, v = .returned (.tuple #[ptr A.M.mb, ptr A.vb, errno 0]) ∧ Vl w' A m (vst0 none_) 1000000000 ∧ m.pending = false ∧ A.cuts = 0 ∧ m.cuts = 0 ∧ A.Z / 2 ≤ 2000000 ∧ (n = 1536 → A.Z / 2 = 768) ∧ (∀ k, A.S k → w.heap.size ≤ k) ∧ Mod Nowhere w w' := by
  obtain ⟨A, m, k, a, b, c, d, e, f, g, i, j⟩ := h
  have hcost : vcost A ≤ 1022784 ∧ A.Z / 2 ≤ 2000000 ∧ (n = 1536 → A.Z / 2 = 768) ∧ 33 ≤ A.count := by
    unfold vcost VAt.Z
    rw [b]
    rcases hn with rfl | rfl <;> decide
  refine ⟨A, m, a, ⟨e, by show 0 ≤ 1000; omega, ⟨?_, ?_⟩, hcost.1, g.clean (Mem.new_clean _ _), ?_, ?_, ?_, hcost.2.2.2⟩, g.pend, d, by rw [g.cuts]; rfl, hcost.2.1, hcost.2.2.1, i, j⟩
  · rw [g.writes, g.endu]; show 0 + k + 1000000000 ≤ 1073741824; omega
  · rw [g.cuts]; show 0 < 1099511627776; omega
  · rw [g.size, Mem.new_size]; omega
  · rw [g.size, Mem.new_size, b]
  · rw [g.size, Mem.new_size, c]
def OpenPost (w : World) (large : Bool) (e : Ending) (w' : World) : Prop :=
  ∃ A m, e = .returned (.tuple #[ptr A.M.mb, ptr A.vb, .agg #[.int .i64 (A.Z / 2 : Nat), .slice none 0 0, .bool false, .slice none 0 0], .bool true]) ∧ Vl w' A m (vst0 none_) 1000000000 ∧ m.pending = false ∧ A.cuts = 0 ∧ m.cuts = 0 ∧ A.Z / 2 ≤ 2000000 ∧ (large = false → A.Z / 2 = 768) ∧ (∀ k, A.S k → w.heap.size ≤ k) ∧ Mod Nowhere w w'
set_option maxRecDepth 100000 in
set_option maxHeartbeats 2000000 in
theorem open_ok (w : World) (large : Bool) : Calls Tryz.prog 37 #[.bool large] w (OpenPost w large) := by
  have hM := fun W => words_ok W large
  have hn : wordsN large = 16384 ∨ wordsN large = 1536 := by unfold wordsN; cases large <;> simp
  have hl : large = false → wordsN large = 1536 := fun h => by rw [h]; rfl
  have hN := fun W => vNew_ok (w := W) (n := wordsN large) (e := 1073741824) (by omega) (by omega) (by omega) (by omega)
  obtain ⟨n, hnn⟩ : ∃ n, wordsN large = n := ⟨_, rfl⟩
  rw [hnn] at hM hN hn
  replace hM := Lib.hid hM
  replace hN := Lib.hid hN
  replace hnn := Lib.hid hnn
  replace hl := Lib.hid hl
  replace hn := Lib.hid hn
  go_enter Tryz.func37, Tryz.ntmps37
  go_wp2_with fail
  have hmA : Mod Nowhere w (w.alloc (.cells #[.int .i64 0, .slice none 0 0, .bool false, .slice none 0 0] 54)) := (Mod.refl _ w).alloc _
  have hbA : Blk (w.alloc (.cells #[.int .i64 0, .slice none 0 0, .bool false, .slice none 0 0] 54)) w.heap.size [.int .i64 0, .slice none 0 0, .bool false, .slice none 0 0] 54 := Blk.new' rfl rfl
  generalize w.alloc (.cells #[.int .i64 0, .slice none 0 0, .bool false, .slice none 0 0] 54) = W0 at *
  refine (hM.out _).mono ?_
  rintro e w1 ⟨rfl, hm1⟩
  have hm01 := hmA.trans hm1
  have hmw1 : w.heap.size ≤ w1.heap.size := hm01.size
  have hb1 := hbA.mod hm1 (fun e => e)
  replace hm01 := Lib.hid hm01
  replace hb1 := Lib.hid hb1
  clear hmA hbA hm1
  go_wp2_with fail
  refine (hN.out _).mono ?_
  rintro e w2 hv
  obtain ⟨A, m, rfl, hup, hpd, hc0, hmc, hz1, hz2, hAS, hm2⟩ := hv.vl hn.out
  clear hv
  have hm02 := hm01.out.trans hm2
  have hb2 := hb1.out.mod hm2 (fun e => e)
  have hbn : ¬ A.S w.heap.size := fun e => by have := hAS _ e; have := hb1.out.lt; omega
  have hAl := vAlive_rep hup.rep
  replace hm02 := Lib.hid hm02
  replace hb2 := Lib.hid hb2
  replace hup := Lib.hid hup
  replace hAl := Lib.hid hAl
  replace hAS := Lib.hid hAS
  replace hz2 := Lib.hid hz2
  clear hm2 hb1
  go_wp2_with fail
  refine hAl.out.mono ?_
  rintro e w3 ⟨rfl, hm3⟩
  have hup3 := hup.out.fresh hm3
  have hRm := vRoomP_ok hup3.rep
  have hm03 := hm02.out.trans hm3
  have hb3 := hb2.out.mod hm3 (fun e => e)
  replace hRm := Lib.hid hRm
  replace hm03 := Lib.hid hm03
  replace hb3 := Lib.hid hb3
  replace hup3 := Lib.hid hup3
  clear hm3 hb2 hup hm02
  go_wp2_with fail
  refine hRm.out.mono ?_
  rintro e w4 ⟨rfl, hm4⟩
  have hF := first_ok w4 (A.Z / 2)
  replace hF := Lib.hid hF
  replace hm4 := Lib.hid hm4
  go_wp2_with fail
  refine hF.out.mono ?_
  rintro e w5 ⟨rfl, hm5⟩
  have hm35 := hm4.out.trans hm5
  have hup5 := hup3.out.fresh hm35
  have hb5 := hb3.out.mod hm35 (fun e => e)
  have hm05 := hm03.out.trans hm35
  have k0 := hb5.cell 0
  have k1 := hb5.cell 1
  have k2 := hb5.cell 2
  have k3 := hb5.cell 3
  have kz := hb5.frozen
  have kl := hb5.lt
  simp only [List.getElem?_cons_zero, List.getElem?_cons_succ] at k0 k1 k2 k3
  replace hup5 := Lib.hid hup5
  replace hb5 := Lib.hid hb5
  replace hm05 := Lib.hid hm05
  clear hm5 hm35 hm4 hm03 hb3 hup3
  go_wp2
  have hmo := outW_mod w5 w.heap.size (.int .i64 (A.Z / 2 : Nat)) (.slice none 0 0) (.bool false) (.slice none 0 0)
  have hmN : Mod Nowhere w (outW w5 w.heap.size (.int .i64 (A.Z / 2 : Nat)) (.slice none 0 0) (.bool false) (.slice none 0 0)) := hm05.out.step hmo fun i hi e => by omega
  have hupO : Vl (outW w5 w.heap.size (.int .i64 (A.Z / 2 : Nat)) (.slice none 0 0) (.bool false) (.slice none 0 0)) A m (vst0 none_) 1000000000 := { hup5.out with rep := hup5.out.rep.keepB hmo hb5.out (by decide) }
  exact bodyPost_ret (ret_open rfl _ _ w.heap.size _ _ _ _ rfl (hb5.out.outW _ _ _ _)) rfl ⟨A, m, rfl, hupO, hpd, hc0, hmc, hz1, fun h => hz2.out (hnn.out.symm.trans (hl.out h)), fun k hk => Nat.le_trans hmw1 (hAS.out k hk), hmN⟩
end Go.Proofs.YtikkodanpbmmkaaGreat
/-
  The laws of chapter 13: the example.
-/
namespace Go.Proofs.YtikkodanpbmmkaaGreat
open Go.RowKit
open Jn Vn
attribute [local go_sem] Oper.semAt_some

/-! ### Calls of a vault for which no cut is planned -/
def Sure (w : World) (A : VAt) (n : Nat) (q : VSt × Nat) (e : Ending) (w' : World) : Prop := ∃ m', e = .returned (errno q.2) ∧ Vl w' A m' q.1 n ∧ m'.pending = false ∧ Mod A.S w w'
theorem sure_of {w : World} {A : VAt} {m : Mem} {s : VSt} {n k : Nat} {q : VSt × Nat} {f : FuncId} {args : Array Value} (hc : Calls Tryz.prog f args w (VCall w A m s q.1 q.2 k)) (hk : k ≤ 1022784) (h : Vl w A m s (n + 1022784)) (hp : m.pending = false) (hl : q.1.l.length ≤ 1000) : Calls Tryz.prog f args w (Sure w A n q) :=
  hc.mono fun e w' hv => by
    obtain ⟨m', a, b, c, d⟩ := (hv.more hk).sure h hl hp
    exact ⟨m', a, b, c, d⟩
section
variable {w : World} {A : VAt} {m : Mem} {s : VSt} {n : Nat} {q : VSt × Nat}
theorem Vl.roomc (h : Vl w A m s (n + 1022784)) : Room m (vcost A) := h.room.mono (by have := h.cost; omega)
theorem Vl.long (h : Vl w A m s n) : s.l.length ≤ 1000000 := by have := h.len; omega
theorem Vl.put (h : Vl w A m s (n + 1022784)) (hp : m.pending = false) (nd : Int) {v : Value} {d : List Nat} (hd : Src w v d) (hb : Bytes d) (hdn : d.length ≤ 1099511627776) (hq : vPut A.Z s nd d = q) (hl : q.1.l.length ≤ 1000) : Calls Tryz.prog 72 #[ptr A.vb, .int .i64 nd, v] w (Sure w A n q) :=
  sure_of (by rw [← hq]; exact vPutS_ok h.rep h.long nd hd hb hdn h.roomc) h.cost h hp hl
theorem Vl.del (h : Vl w A m s (n + 1022784)) (hp : m.pending = false) (nd : Int) (hq : vDel A.Z s nd = q) (hl : q.1.l.length ≤ 1000) : Calls Tryz.prog 78 #[ptr A.vb, .int .i64 nd] w (Sure w A n q) :=
  sure_of (by rw [← hq]; exact vDelete_ok h.rep h.long nd h.roomc) h.cost h hp hl
theorem Vl.now (h : Vl w A m s (n + 1022784)) (hp : m.pending = false) (nd : Int) {v : Value} {d : List Nat} (hd : Src w v d) (hb : Bytes d) (hdn : d.length ≤ 1099511627776) (hq : vNow A.Z s nd d = q) (hl : q.1.l.length ≤ 1000) : Calls Tryz.prog 50 #[ptr A.vb, .int .i64 nd, v] w (Sure w A n q) :=
  sure_of (by rw [← hq]; exact vNow_ok h.rep h.long nd hd hb hdn h.roomc) h.cost h hp hl
theorem Vl.begin (h : Vl w A m s (n + 1022784)) (hp : m.pending = false) (hq : vBegin s = q) (hl : q.1.l.length ≤ 1000) : Calls Tryz.prog 48 #[ptr A.vb] w (Sure w A n q) :=
  sure_of (by rw [← hq]; exact vBegin_ok h.rep) (Nat.zero_le _) h hp hl
theorem Vl.commit (h : Vl w A m s (n + 1022784)) (hp : m.pending = false) (hq : vCommit A.Z s = q) (hl : q.1.l.length ≤ 1000) : Calls Tryz.prog 66 #[ptr A.vb] w (Sure w A n q) :=
  sure_of (by rw [← hq]; exact vCommit_ok h.rep h.long h.roomc) h.cost h hp hl
theorem Vl.abort (h : Vl w A m s (n + 1022784)) (hp : m.pending = false) (hq : vAbort s = q) (hl : q.1.l.length ≤ 1000) : Calls Tryz.prog 52 #[ptr A.vb] w (Sure w A n q) :=
  sure_of (by rw [← hq]; exact vAbort_ok h.rep) (Nat.zero_le _) h hp hl
theorem Vl.back (h : Vl w A m s (n + 1022784)) (hp : m.pending = false) (k : Int) (hq : vBack s k = q) (hl : q.1.l.length ≤ 1000) : Calls Tryz.prog 54 #[ptr A.vb, .int .i64 k] w (Sure w A n q) :=
  sure_of (by rw [← hq]; exact vBack_ok h.rep h.long k) (Nat.zero_le _) h hp hl
theorem Vl.do_ (h : Vl w A m s (n + 1022784)) (hp : m.pending = false) (op nd : Int) {v : Value} {d : List Nat} (hd : Src w v d) (hb : Bytes d) (hdn : d.length ≤ 1099511627776) (hq : vDo A.Z s op nd d = q) (hl : q.1.l.length ≤ 1000) : Calls Tryz.prog 38 #[ptr A.vb, .agg #[.int .i64 op, .int .i64 nd, v]] w (Sure w A n q) :=
  sure_of (by rw [← hq]; exact vDo_ok h.rep h.long op nd hd hb hdn h.roomc) h.cost h hp hl
end

/-! ### The example's states -/
namespace Ex
def f1 : Items := set1 none_ (5, some [1, 2])
def f2 : Items := set1 f1 (8, some [4])
def l1 : List Rec := [(7, some [3])]
def l2 : List Rec := [(7, some [3]), (5, none)]
theorem i1 : itemsOf f1 = [(5, [1, 2])] := by unfold f1; rw [itemsOf_set (by omega), itemsOf_none]; rfl
theorem i2 : itemsOf f2 = [(5, [1, 2]), (8, [4])] := by unfold f2; rw [itemsOf_set (by omega), i1]; rfl
theorem i3 : itemsOf (sets f1 l1) = [(5, [1, 2]), (7, [3])] := by
  rw [show sets f1 l1 = set1 f1 (7, some [3]) from rfl, itemsOf_set (by omega), i1]; rfl
theorem i4 : itemsOf (sets f1 l2) = [(7, [3])] := by
  rw [show sets f1 l2 = set1 (sets f1 l1) (5, none) from rfl, itemsOf_drop, i3]; rfl
theorem i5 : itemsOf (sets f2 l1) = [(5, [1, 2]), (7, [3]), (8, [4])] := by
  rw [show sets f2 l1 = set1 f2 (7, some [3]) from rfl, itemsOf_set (by omega), i2]; rfl
theorem w1 : wt f1 = 18 := by rw [← wt_itemsOf, i1]; rfl
theorem w2 : wt f2 = 35 := by rw [← wt_itemsOf, i2]; rfl
theorem w3 : wt (sets f1 l1) = 35 := by rw [← wt_itemsOf, i3]; rfl
theorem w5 : wt (sets f2 l1) = 52 := by rw [← wt_itemsOf, i5]; rfl
theorem n1 : Vn.need l1 = 9 := by rw [← needR_eq (by decide)]; rfl
theorem n2 : Vn.need l2 = 17 := by rw [← needR_eq (by decide)]; rfl
theorem d2 : dom (sets f1 l2) = [7] := by rw [← dom_itemsOf, i4]; rfl
theorem d3 : dom (sets f1 l1) = [5, 7] := by rw [← dom_itemsOf, i3]; rfl
theorem d4 : dom (sets f2 []) = [5, 8] := by rw [show sets f2 [] = f2 from rfl, ← dom_itemsOf, i2]; rfl
variable {Z : Nat} (hZ : Z / 2 = 768)
include hZ
theorem p1 : vPut Z (vst0 none_) 5 [1, 2] = (⟨f1, false, []⟩, 0) := by
  unfold vPut
  rw [if_pos (by decide)]
  unfold vChange
  rw [if_neg (by simp [vst0]), if_neg (by rw [show sets (vst0 none_).f ((vst0 none_).l ++ [((5 : Int).toNat, some [1, 2])]) = f1 from rfl, w1, hZ]; omega), if_neg (by simp [vst0])]
  rfl
theorem p3 : vPut Z ⟨f1, true, []⟩ 7 [3] = (⟨f1, true, l1⟩, 0) := by
  unfold vPut
  rw [if_pos (by decide)]
  unfold vChange
  rw [if_neg (by rw [show ([] : List Rec) ++ [((7 : Int).toNat, some [3])] = l1 from rfl, n1]; omega), if_neg (by rw [show ([] : List Rec) ++ [((7 : Int).toNat, some [3])] = l1 from rfl, w3, hZ]; omega), if_pos rfl]
  rfl
omit hZ in
theorem p4 : vDel Z ⟨f1, true, l1⟩ 5 = (⟨f1, true, l2⟩, 0) := by
  unfold vDel
  rw [if_pos (by decide), if_pos (by decide)]
  unfold vChange
  rw [if_neg (by rw [show l1 ++ [((5 : Int).toNat, none)] = l2 from rfl, n2]; omega), if_neg (by simp), if_pos rfl]
  rfl
omit hZ in
theorem p6 : vNow Z ⟨f1, true, l1⟩ 7 [4] = (⟨f1, true, l1⟩, 14) := by
  unfold vNow
  rw [if_pos (by decide), if_pos (by decide)]
theorem p7 : vNow Z ⟨f1, true, l1⟩ 8 [4] = (⟨f2, true, l1⟩, 0) := by
  unfold vNow
  rw [if_pos (by decide), if_neg (by decide), if_neg (by rw [show set1 f1 ((8 : Int).toNat, some [4]) = f2 from rfl, w2, w5, hZ]; omega)]
  rfl
omit hZ in
theorem p2 : vBegin ⟨f1, false, []⟩ = (⟨f1, true, []⟩, 0) := rfl
omit hZ in
theorem p5 : vBack ⟨f1, true, l2⟩ 1 = (⟨f1, true, l1⟩, 0) := by unfold vBack; rw [if_pos rfl, if_neg (by decide)]; rfl
omit hZ in
theorem p8 : vAbort ⟨f2, true, l1⟩ = (⟨f2, false, []⟩, 0) := rfl
omit hZ in
theorem p9 : vPut Z ⟨f2, false, []⟩ 0 [] = (⟨f2, false, []⟩, 1) := rfl
omit hZ in
theorem p10 : vDel Z ⟨f2, false, []⟩ 9 = (⟨f2, false, []⟩, 12) := by
  unfold vDel
  rw [if_pos (by decide), if_neg (by decide)]
omit hZ in
theorem p11 : vCommit Z ⟨f2, false, []⟩ = (⟨f2, false, []⟩, 14) := rfl
end Ex
theorem src_blk {w : World} {b n : Nat} {d : List Nat} (h : Blk w b (u8s d) 5) (hn : n = d.length) (hl : d.length ≤ 1000) : Src w (.slice (some ⟨b, 0, none⟩) n n) d := by
  subst hn
  have hul : (u8s d).length = d.length := by simp [u8s]
  exact DSl.src (Sl.whole h (by omega) (by unfold maxLen; omega))
theorem src_nil (w : World) : Src w (.slice none 0 0) [] := ⟨none, 0, rfl, Nat.le_refl _, by decide, fun h => by simp at h⟩
theorem row_blk {w : World} {b n : Nat} {zs : List Int} (h : Blk w b (zs.map fun z => Value.int .i64 z) 3) (hn : n = zs.length) (hl : zs.length ≤ 1000) : InRow w (.slice (some ⟨b, 0, none⟩) n n) zs := by
  subst hn
  refine ⟨_, _, rfl, Nat.le_refl _, by unfold maxLen; omega, fun h0 => ⟨b, 0, rfl, h.lt, fun i hi => ?_⟩⟩
  have := h.cell i
  rw [Nat.zero_add, this, List.getElem?_map, List.getElem?_eq_getElem hi]
  simp [List.getD_eq_getElem?_getD, List.getElem?_eq_getElem hi]
theorem bytes_lit {d : List Nat} (h : ∀ x ∈ d, x < 256) : Bytes d := fun k => by
  by_cases hk : k < d.length
  · rw [List.getD_eq_getElem?_getD, List.getElem?_eq_getElem hk]; exact h _ (List.getElem_mem hk)
  · rw [List.getD_eq_getElem?_getD, List.getElem?_eq_none (by omega)]; decide
set_option maxRecDepth 100000 in
set_option maxHeartbeats 16000000 in
theorem example13_ok (w : World) : Calls Tryz.prog 36 #[] w fun e w' => e = .returned (.bool true) ∧ Mod Nowhere w w' := by
  have hO := fun W => open_ok W false
  replace hO := Lib.hid hO
  go_enter Tryz.func36, Tryz.ntmps36
  go_wp2_with fail
  refine (hO.out _).mono ?_
  rintro e w1 ⟨A, m, rfl, hu, hp, -, -, -, hz, hAS, hm1⟩
  have hZ := hz rfl
  have hbA : Mod (fun k => k = w1.heap.size) w1 w1 := Mod.refl _ _
  clear hz
  have hAn : ∀ k, A.S k → w.heap.size ≤ k := hAS
  replace hAn := Lib.hid hAn
  replace hu := Lib.hid hu
  replace hZ := Lib.hid hZ
  replace hm1 := Lib.hid hm1
  clear hAS hbA
  replace hu := Lib.hid (hu.out.less (show 900000000 ≤ 1000000000 by omega))
  have hE2 : Mod Nowhere w1 ((w1.alloc (.cells #[.int .i64 (A.Z / 2 : Nat), .slice none 0 0, .bool false, .slice none 0 0] 54)).alloc (.cells #[.int .u8 1, .int .u8 2] 5)) := ((Mod.refl _ _).alloc _).alloc _
  have huE2 : Vl ((w1.alloc (.cells #[.int .i64 (A.Z / 2 : Nat), .slice none 0 0, .bool false, .slice none 0 0] 54)).alloc (.cells #[.int .u8 1, .int .u8 2] 5)) A m (vst0 none_) 900000000 := hu.out.fresh hE2
  have hmE2 := hm1.out.trans hE2
  have hb2 : Blk ((w1.alloc (.cells #[.int .i64 (A.Z / 2 : Nat), .slice none 0 0, .bool false, .slice none 0 0] 54)).alloc (.cells #[.int .u8 1, .int .u8 2] 5)) (w1.heap.size + 1) (u8s [1, 2]) 5 := Blk.new' (by simp) rfl
  have hc2 := (huE2.less (show 898000000 + 1022784 ≤ 900000000 by omega)).put hp 5 (src_blk (n := 2) hb2 rfl (by decide)) (bytes_lit (by decide)) (by decide) (Ex.p1 hZ.out) (by decide)
  replace hc2 := Lib.hid hc2
  replace hmE2 := Lib.hid hmE2
  clear hu
  try clear huE2
  go_wp2_with fail
  refine hc2.out.mono ?_
  rintro e w2 ⟨m2, rfl, hu2', hp2, hM2⟩
  have hu2 : Vl w2 A m2 (⟨Ex.f1, false, []⟩) 898000000 := hu2'
  have hm2 := hmE2.out.step hM2 fun i hi e => absurd hi (by have := hAn.out i e; omega)
  replace hu2 := Lib.hid hu2
  replace hm2 := Lib.hid hm2
  clear hu2' hM2 hc2
  have hc3 := vUsed_ok (show VRep w2 A m2 (⟨Ex.f1, false, []⟩) from hu2.out.rep)
  rw [show wt (VSt.f (⟨Ex.f1, false, []⟩)) = 18 from Ex.w1] at hc3
  replace hc3 := Lib.hid hc3
  go_wp2_with fail
  refine hc3.out.mono ?_
  rintro e w3 ⟨rfl, hM3⟩
  have hu3 := hu2.out.fresh hM3
  have hm3 := hm2.out.trans hM3
  replace hu3 := Lib.hid hu3
  replace hm3 := Lib.hid hm3
  clear hu2 hM3 hc3
  have huE4 : Vl w3 A m2 (⟨Ex.f1, false, []⟩) 898000000 := hu3.out
  have hmE4 := hm3.out
  have hc4 := (huE4.less (show 896000000 + 1022784 ≤ 898000000 by omega)).begin hp2 Ex.p2 (by decide)
  replace hc4 := Lib.hid hc4
  replace hmE4 := Lib.hid hmE4
  clear hu3
  try clear huE4
  go_wp2_with fail
  refine hc4.out.mono ?_
  rintro e w4 ⟨m4, rfl, hu4', hp4, hM4⟩
  have hu4 : Vl w4 A m4 (⟨Ex.f1, true, []⟩) 896000000 := hu4'
  have hm4 := hmE4.out.step hM4 fun i hi e => absurd hi (by have := hAn.out i e; omega)
  replace hu4 := Lib.hid hu4
  replace hm4 := Lib.hid hm4
  clear hu4' hM4 hc4
  have hE5 : Mod Nowhere w4 (w4.alloc (.cells #[.int .u8 3] 5)) := (Mod.refl _ _).alloc _
  have huE5 : Vl (w4.alloc (.cells #[.int .u8 3] 5)) A m4 (⟨Ex.f1, true, []⟩) 896000000 := hu4.out.fresh hE5
  have hmE5 := hm4.out.trans hE5
  have hb5 : Blk (w4.alloc (.cells #[.int .u8 3] 5)) (w4.heap.size) (u8s [3]) 5 := Blk.new' (by simp) rfl
  have hc5 := (huE5.less (show 894000000 + 1022784 ≤ 896000000 by omega)).put hp4 7 (src_blk (n := 1) hb5 rfl (by decide)) (bytes_lit (by decide)) (by decide) (Ex.p3 hZ.out) (by decide)
  replace hc5 := Lib.hid hc5
  replace hmE5 := Lib.hid hmE5
  clear hu4
  try clear huE5
  go_wp2_with fail
  refine hc5.out.mono ?_
  rintro e w5 ⟨m5, rfl, hu5', hp5, hM5⟩
  have hu5 : Vl w5 A m5 (⟨Ex.f1, true, Ex.l1⟩) 894000000 := hu5'
  have hm5 := hmE5.out.step hM5 fun i hi e => absurd hi (by have := hAn.out i e; omega)
  replace hu5 := Lib.hid hu5
  replace hm5 := Lib.hid hm5
  clear hu5' hM5 hc5
  have huE6 : Vl w5 A m5 (⟨Ex.f1, true, Ex.l1⟩) 894000000 := hu5.out
  have hmE6 := hm5.out
  have hc6 := (huE6.less (show 892000000 + 1022784 ≤ 894000000 by omega)).del hp5 5 Ex.p4 (by decide)
  replace hc6 := Lib.hid hc6
  replace hmE6 := Lib.hid hmE6
  clear hu5
  try clear huE6
  go_wp2_with fail
  refine hc6.out.mono ?_
  rintro e w6 ⟨m6, rfl, hu6', hp6, hM6⟩
  have hu6 : Vl w6 A m6 (⟨Ex.f1, true, Ex.l2⟩) 892000000 := hu6'
  have hm6 := hmE6.out.step hM6 fun i hi e => absurd hi (by have := hAn.out i e; omega)
  replace hu6 := Lib.hid hu6
  replace hm6 := Lib.hid hm6
  clear hu6' hM6 hc6
  have hc7 := vUsed_ok (show VRep w6 A m6 (⟨Ex.f1, true, Ex.l2⟩) from hu6.out.rep)
  rw [show wt (VSt.f (⟨Ex.f1, true, Ex.l2⟩)) = 18 from Ex.w1] at hc7
  replace hc7 := Lib.hid hc7
  go_wp2_with fail
  refine hc7.out.mono ?_
  rintro e w7 ⟨rfl, hM7⟩
  have hu7 := hu6.out.fresh hM7
  have hm7 := hm6.out.trans hM7
  replace hu7 := Lib.hid hu7
  replace hm7 := Lib.hid hm7
  clear hu6 hM7 hc7
  have hc8 := vSave_ok (show VRep w7 A m6 (⟨Ex.f1, true, Ex.l2⟩) from hu7.out.rep)
  rw [show (VSt.l (⟨Ex.f1, true, Ex.l2⟩)).length = 2 from rfl] at hc8
  replace hc8 := Lib.hid hc8
  go_wp2_with fail
  refine hc8.out.mono ?_
  rintro e w8 ⟨rfl, hM8⟩
  have hu8 := hu7.out.fresh hM8
  have hm8 := hm7.out.trans hM8
  replace hu8 := Lib.hid hu8
  replace hm8 := Lib.hid hm8
  clear hu7 hM8 hc8
  have hc9 := vLeft_ok (show VRep w8 A m6 (⟨Ex.f1, true, Ex.l2⟩) from hu8.out.rep) (show _ ≤ 1000000 by decide)
  rw [show Vn.need (VSt.l (⟨Ex.f1, true, Ex.l2⟩)) = 17 from Ex.n2] at hc9
  replace hc9 := Lib.hid hc9
  go_wp2_with fail
  refine hc9.out.mono ?_
  rintro e w9 ⟨rfl, hM9⟩
  have hu9 := hu8.out.fresh hM9
  have hm9 := hm8.out.trans hM9
  replace hu9 := Lib.hid hu9
  replace hm9 := Lib.hid hm9
  clear hu8 hM9 hc9
  have hc10 := vIDs_ok (show VRep w9 A m6 (⟨Ex.f1, true, Ex.l2⟩) from hu9.out.rep) (show _ ≤ 1000000 by decide)
  replace hc10 := Lib.hid hc10
  go_wp2_with fail
  refine hc10.out.mono ?_
  rintro e w10 ⟨v10, rfl, ho10, hM10⟩
  have hu10 := hu9.out.fresh hM10
  have hm10 := hm9.out.trans hM10
  have hr10 := inRow_owns ho10 rfl
  obtain ⟨a10, c10, rfl, -⟩ := owns_form ho10
  clear ho10
  have hl10 : (dom (sets Ex.f1 Ex.l2)).length = 1 := by rw [Ex.d2]; rfl
  rw [hl10] at hr10 ⊢
  rw [Ex.d2] at hr10
  clear hl10
  replace hr10 := Lib.hid hr10
  replace hu10 := Lib.hid hu10
  replace hm10 := Lib.hid hm10
  clear hu9 hM10 hc10
  have hE11 : Mod Nowhere w10 (w10.alloc (.cells #[.int .i64 7] 3)) := (Mod.refl _ _).alloc _
  have hb11 : Blk (w10.alloc (.cells #[.int .i64 7] 3)) w10.heap.size (([7] : List Int).map fun z => Value.int .i64 z) 3 := Blk.new' rfl rfl
  have hc11 := rInts_ok (hr10.out.fresh hE11) (row_blk (n := 1) hb11 rfl (by decide)) (by decide) (by decide)
  rw [show decide ((List.map (fun k : Nat => (k : Int)) [7]) = ([7] : List Int)) = true by decide] at hc11
  have hu11E := hu10.out.fresh hE11
  have hm11E := hm10.out.trans hE11
  replace hc11 := Lib.hid hc11
  replace hu11E := Lib.hid hu11E
  replace hm11E := Lib.hid hm11E
  clear hb11 hE11 hu10
  go_wp2_with fail
  refine hc11.out.mono ?_
  rintro e w11 ⟨rfl, hM11⟩
  have hu11 := hu11E.out.fresh hM11
  have hm11 := hm11E.out.trans hM11
  replace hu11 := Lib.hid hu11
  replace hm11 := Lib.hid hm11
  clear hM11 hc11 hu11E hm11E hr10
  have huE12 : Vl w11 A m6 (⟨Ex.f1, true, Ex.l2⟩) 892000000 := hu11.out
  have hmE12 := hm11.out
  have hc12 := (huE12.less (show 890000000 + 1022784 ≤ 892000000 by omega)).back hp6 1 Ex.p5 (by decide)
  replace hc12 := Lib.hid hc12
  replace hmE12 := Lib.hid hmE12
  clear hu11
  try clear huE12
  go_wp2_with fail
  refine hc12.out.mono ?_
  rintro e w12 ⟨m12, rfl, hu12', hp12, hM12⟩
  have hu12 : Vl w12 A m12 (⟨Ex.f1, true, Ex.l1⟩) 890000000 := hu12'
  have hm12 := hmE12.out.step hM12 fun i hi e => absurd hi (by have := hAn.out i e; omega)
  replace hu12 := Lib.hid hu12
  replace hm12 := Lib.hid hm12
  clear hu12' hM12 hc12
  have hE13 : Mod Nowhere w12 (w12.alloc (.cells #[.int .u8 4] 5)) := (Mod.refl _ _).alloc _
  have huE13 : Vl (w12.alloc (.cells #[.int .u8 4] 5)) A m12 (⟨Ex.f1, true, Ex.l1⟩) 890000000 := hu12.out.fresh hE13
  have hmE13 := hm12.out.trans hE13
  have hb13 : Blk (w12.alloc (.cells #[.int .u8 4] 5)) (w12.heap.size) (u8s [4]) 5 := Blk.new' (by simp) rfl
  have hc13 := (huE13.less (show 888000000 + 1022784 ≤ 890000000 by omega)).now hp12 7 (src_blk (n := 1) hb13 rfl (by decide)) (bytes_lit (by decide)) (by decide) Ex.p6 (by decide)
  replace hc13 := Lib.hid hc13
  replace hmE13 := Lib.hid hmE13
  clear hu12
  try clear huE13
  go_wp2_with fail
  refine hc13.out.mono ?_
  rintro e w13 ⟨m13, rfl, hu13', hp13, hM13⟩
  have hu13 : Vl w13 A m13 (⟨Ex.f1, true, Ex.l1⟩) 888000000 := hu13'
  have hm13 := hmE13.out.step hM13 fun i hi e => absurd hi (by have := hAn.out i e; omega)
  replace hu13 := Lib.hid hu13
  replace hm13 := Lib.hid hm13
  clear hu13' hM13 hc13
  have hc14 := vIDs_ok (show VRep w13 A m13 (⟨Ex.f1, true, Ex.l1⟩) from hu13.out.rep) (show _ ≤ 1000000 by decide)
  replace hc14 := Lib.hid hc14
  go_wp2_with fail
  refine hc14.out.mono ?_
  rintro e w14 ⟨v14, rfl, ho14, hM14⟩
  have hu14 := hu13.out.fresh hM14
  have hm14 := hm13.out.trans hM14
  have hr14 := inRow_owns ho14 rfl
  obtain ⟨a14, c14, rfl, -⟩ := owns_form ho14
  clear ho14
  have hl14 : (dom (sets Ex.f1 Ex.l1)).length = 2 := by rw [Ex.d3]; rfl
  rw [hl14] at hr14 ⊢
  rw [Ex.d3] at hr14
  clear hl14
  replace hr14 := Lib.hid hr14
  replace hu14 := Lib.hid hu14
  replace hm14 := Lib.hid hm14
  clear hu13 hM14 hc14
  have hE15 : Mod Nowhere w14 (w14.alloc (.cells #[.int .i64 5, .int .i64 7] 3)) := (Mod.refl _ _).alloc _
  have hb15 : Blk (w14.alloc (.cells #[.int .i64 5, .int .i64 7] 3)) w14.heap.size (([5, 7] : List Int).map fun z => Value.int .i64 z) 3 := Blk.new' rfl rfl
  have hc15 := rInts_ok (hr14.out.fresh hE15) (row_blk (n := 2) hb15 rfl (by decide)) (by decide) (by decide)
  rw [show decide ((List.map (fun k : Nat => (k : Int)) [5, 7]) = ([5, 7] : List Int)) = true by decide] at hc15
  have hu15E := hu14.out.fresh hE15
  have hm15E := hm14.out.trans hE15
  replace hc15 := Lib.hid hc15
  replace hu15E := Lib.hid hu15E
  replace hm15E := Lib.hid hm15E
  clear hb15 hE15 hu14
  go_wp2_with fail
  refine hc15.out.mono ?_
  rintro e w15 ⟨rfl, hM15⟩
  have hu15 := hu15E.out.fresh hM15
  have hm15 := hm15E.out.trans hM15
  replace hu15 := Lib.hid hu15
  replace hm15 := Lib.hid hm15
  clear hM15 hc15 hu15E hm15E hr14
  have hE16 : Mod Nowhere w15 (w15.alloc (.cells #[.int .u8 4] 5)) := (Mod.refl _ _).alloc _
  have huE16 : Vl (w15.alloc (.cells #[.int .u8 4] 5)) A m13 (⟨Ex.f1, true, Ex.l1⟩) 888000000 := hu15.out.fresh hE16
  have hmE16 := hm15.out.trans hE16
  have hb16 : Blk (w15.alloc (.cells #[.int .u8 4] 5)) (w15.heap.size) (u8s [4]) 5 := Blk.new' (by simp) rfl
  have hc16 := (huE16.less (show 886000000 + 1022784 ≤ 888000000 by omega)).now hp13 8 (src_blk (n := 1) hb16 rfl (by decide)) (bytes_lit (by decide)) (by decide) (Ex.p7 hZ.out) (by decide)
  replace hc16 := Lib.hid hc16
  replace hmE16 := Lib.hid hmE16
  clear hu15
  try clear huE16
  go_wp2_with fail
  refine hc16.out.mono ?_
  rintro e w16 ⟨m16, rfl, hu16', hp16, hM16⟩
  have hu16 : Vl w16 A m16 (⟨Ex.f2, true, Ex.l1⟩) 886000000 := hu16'
  have hm16 := hmE16.out.step hM16 fun i hi e => absurd hi (by have := hAn.out i e; omega)
  replace hu16 := Lib.hid hu16
  replace hm16 := Lib.hid hm16
  clear hu16' hM16 hc16
  have huE17 : Vl w16 A m16 (⟨Ex.f2, true, Ex.l1⟩) 886000000 := hu16.out
  have hmE17 := hm16.out
  have hc17 := (huE17.less (show 884000000 + 1022784 ≤ 886000000 by omega)).abort hp16 Ex.p8 (by decide)
  replace hc17 := Lib.hid hc17
  replace hmE17 := Lib.hid hmE17
  clear hu16
  try clear huE17
  go_wp2_with fail
  refine hc17.out.mono ?_
  rintro e w17 ⟨m17, rfl, hu17', hp17, hM17⟩
  have hu17 : Vl w17 A m17 (⟨Ex.f2, false, []⟩) 884000000 := hu17'
  have hm17 := hmE17.out.step hM17 fun i hi e => absurd hi (by have := hAn.out i e; omega)
  replace hu17 := Lib.hid hu17
  replace hm17 := Lib.hid hm17
  clear hu17' hM17 hc17
  have hc18 := vIDs_ok (show VRep w17 A m17 (⟨Ex.f2, false, []⟩) from hu17.out.rep) (show _ ≤ 1000000 by decide)
  replace hc18 := Lib.hid hc18
  go_wp2_with fail
  refine hc18.out.mono ?_
  rintro e w18 ⟨v18, rfl, ho18, hM18⟩
  have hu18 := hu17.out.fresh hM18
  have hm18 := hm17.out.trans hM18
  have hr18 := inRow_owns ho18 rfl
  obtain ⟨a18, c18, rfl, -⟩ := owns_form ho18
  clear ho18
  have hl18 : (dom (sets Ex.f2 [])).length = 2 := by rw [Ex.d4]; rfl
  rw [hl18] at hr18 ⊢
  rw [Ex.d4] at hr18
  clear hl18
  replace hr18 := Lib.hid hr18
  replace hu18 := Lib.hid hu18
  replace hm18 := Lib.hid hm18
  clear hu17 hM18 hc18
  have hE19 : Mod Nowhere w18 (w18.alloc (.cells #[.int .i64 5, .int .i64 8] 3)) := (Mod.refl _ _).alloc _
  have hb19 : Blk (w18.alloc (.cells #[.int .i64 5, .int .i64 8] 3)) w18.heap.size (([5, 8] : List Int).map fun z => Value.int .i64 z) 3 := Blk.new' rfl rfl
  have hc19 := rInts_ok (hr18.out.fresh hE19) (row_blk (n := 2) hb19 rfl (by decide)) (by decide) (by decide)
  rw [show decide ((List.map (fun k : Nat => (k : Int)) [5, 8]) = ([5, 8] : List Int)) = true by decide] at hc19
  have hu19E := hu18.out.fresh hE19
  have hm19E := hm18.out.trans hE19
  replace hc19 := Lib.hid hc19
  replace hu19E := Lib.hid hu19E
  replace hm19E := Lib.hid hm19E
  clear hb19 hE19 hu18
  go_wp2_with fail
  refine hc19.out.mono ?_
  rintro e w19 ⟨rfl, hM19⟩
  have hu19 := hu19E.out.fresh hM19
  have hm19 := hm19E.out.trans hM19
  replace hu19 := Lib.hid hu19
  replace hm19 := Lib.hid hm19
  clear hM19 hc19 hu19E hm19E hr18
  have huE20 : Vl w19 A m17 (⟨Ex.f2, false, []⟩) 884000000 := hu19.out
  have hmE20 := hm19.out
  have hc20 := (huE20.less (show 882000000 + 1022784 ≤ 884000000 by omega)).put hp17 0 (src_nil _) (bytes_lit (by decide)) (by decide) Ex.p9 (by decide)
  replace hc20 := Lib.hid hc20
  replace hmE20 := Lib.hid hmE20
  clear hu19
  try clear huE20
  go_wp2_with fail
  refine hc20.out.mono ?_
  rintro e w20 ⟨m20, rfl, hu20', hp20, hM20⟩
  have hu20 : Vl w20 A m20 (⟨Ex.f2, false, []⟩) 882000000 := hu20'
  have hm20 := hmE20.out.step hM20 fun i hi e => absurd hi (by have := hAn.out i e; omega)
  replace hu20 := Lib.hid hu20
  replace hm20 := Lib.hid hm20
  clear hu20' hM20 hc20
  have huE21 : Vl w20 A m20 (⟨Ex.f2, false, []⟩) 882000000 := hu20.out
  have hmE21 := hm20.out
  have hc21 := (huE21.less (show 880000000 + 1022784 ≤ 882000000 by omega)).del hp20 9 Ex.p10 (by decide)
  replace hc21 := Lib.hid hc21
  replace hmE21 := Lib.hid hmE21
  clear hu20
  try clear huE21
  go_wp2_with fail
  refine hc21.out.mono ?_
  rintro e w21 ⟨m21, rfl, hu21', hp21, hM21⟩
  have hu21 : Vl w21 A m21 (⟨Ex.f2, false, []⟩) 880000000 := hu21'
  have hm21 := hmE21.out.step hM21 fun i hi e => absurd hi (by have := hAn.out i e; omega)
  replace hu21 := Lib.hid hu21
  replace hm21 := Lib.hid hm21
  clear hu21' hM21 hc21
  have huE22 : Vl w21 A m21 (⟨Ex.f2, false, []⟩) 880000000 := hu21.out
  have hmE22 := hm21.out
  have hc22 := (huE22.less (show 878000000 + 1022784 ≤ 880000000 by omega)).commit hp21 Ex.p11 (by decide)
  replace hc22 := Lib.hid hc22
  replace hmE22 := Lib.hid hmE22
  clear hu21
  try clear huE22
  go_wp2_with fail
  refine hc22.out.mono ?_
  rintro e w22 ⟨m22, rfl, hu22', hp22, hM22⟩
  have hu22 : Vl w22 A m22 (⟨Ex.f2, false, []⟩) 878000000 := hu22'
  have hm22 := hmE22.out.step hM22 fun i hi e => absurd hi (by have := hAn.out i e; omega)
  replace hu22 := Lib.hid hu22
  replace hm22 := Lib.hid hm22
  clear hu22' hM22 hc22
  go_wp2
  go_ret
  exact ⟨rfl, hm22.out⟩
end Go.Proofs.YtikkodanpbmmkaaGreat
/-
  The laws of chapter 13: the reference's state in a variable.
-/
namespace Go.Proofs.YtikkodanpbmmkaaGreat
open Go.RowKit
open Jn Vn
attribute [local go_sem] Oper.semAt_some

/-- Block b has the reference's state. -/
structure RBox (w : World) (b R : Nat) (s : VSt) : Prop where
  ex : ∃ (ia : Option Addr) (ic : Nat) (ea : Option Addr) (ec : Nat) (xs : List Ix) (es : List Vx), Blk w b [.int .i64 R, .slice ia xs.length ic, .bool s.act, .slice ea es.length ec] 54 ∧ RSt w R (.slice ia xs.length ic) (.slice ea es.length ec) xs es s
theorem RBox.fresh {w w' : World} {b R : Nat} {s : VSt} (h : RBox w b R s) (hm : Mod Nowhere w w') : RBox w' b R s := by
  obtain ⟨ia, ic, ea, ec, xs, es, hb, hs⟩ := h.ex
  exact ⟨_, _, _, _, _, _, hb.mod hm (fun e => e), hs.fresh hm⟩
theorem RBox.keepA {w w' : World} {b R : Nat} {s s' : VSt} {A : VAt} {m : Mem} (h : RBox w b R s) (hv : VRep w A m s') (hm : Mod A.S w w') : RBox w' b R s := by
  obtain ⟨ia, ic, ea, ec, xs, es, hb, hs⟩ := h.ex
  exact ⟨_, _, _, _, _, _, hv.keeps hb hm (by decide) (by decide), hs.keepA hv hm⟩
theorem RBox.of {w : World} {b R : Nat} {ia ea : Option Addr} {n ic k ec : Nat} {s : VSt} {a : Bool} {xs : List Ix} {es : List Vx} (hb : Blk w b [.int .i64 R, .slice ia n ic, .bool a, .slice ea k ec] 54) (hs : RSt w R (.slice ia n ic) (.slice ea k ec) xs es s) (ha : s.act = a) : RBox w b R s := by
  subst ha
  obtain ⟨ia', ic', e1, -⟩ := hs.it.sl.gen
  obtain ⟨ea', ec', e2, -⟩ := hs.ed.sl.gen
  simp at e1 e2
  obtain ⟨rfl, rfl, rfl⟩ := e1
  obtain ⟨rfl, rfl, rfl⟩ := e2
  exact ⟨_, _, _, _, _, _, hb, hs⟩
theorem RBox.rep {w : World} {R : Nat} {iv ev : Value} {s : VSt} {xs : List Ix} {es : List Vx} (hs : RSt w R iv ev xs es s) : RRep w (.agg #[.int .i64 R, iv, .bool s.act, ev]) R s := ⟨_, _, _, _, rfl, hs⟩
theorem Vl.keepB {w w' : World} {A : VAt} {m : Mem} {s : VSt} {n b : Nat} {cs : List Value} (h : Vl w A m s n) (hm : Mod (fun k => k = b) w w') (hb : Blk w b cs 54) : Vl w' A m s n := { h with rep := h.rep.keepB hm hb (by decide) }
/-- A state is laid into a block of a state. -/
theorem RBox.put {w : World} {b R : Nat} {s : VSt} {ia ea : Option Addr} {n ic k ec : Nat} {a : Bool} {xs : List Ix} {es : List Vx} {o0 o1 o2 o3 : Value} (hs : RSt w R (.slice ia n ic) (.slice ea k ec) xs es s) (hb : Blk w b [o0, o1, o2, o3] 54) (ha : s.act = a) :
    RBox (outW w b (.int .i64 R) (.slice ia n ic) (.bool a) (.slice ea k ec)) b R s :=
  RBox.of (hb.outW _ _ _ _) (hs.keep (outW_mod w b _ _ _ _) (fun i e => by rw [e]; exact ⟨_, hb⟩)) ha
theorem RBox.get {w : World} {b R : Nat} {s : VSt} (h : RBox w b R s) : ∃ ia n ic ea k ec a xs es, s.act = a ∧ RSt w R (.slice ia n ic) (.slice ea k ec) xs es s ∧ Blk w b [.int .i64 R, .slice ia n ic, .bool a, .slice ea k ec] 54 := by
  obtain ⟨ia, ic, ea, ec, xs, es, hb, hs⟩ := h.ex
  exact ⟨_, _, _, _, _, _, _, _, _, rfl, hs, hb⟩
theorem RRep.get {w : World} {v : Value} {R : Nat} {s : VSt} (h : RRep w v R s) : ∃ ia n ic ea k ec a xs es, s.act = a ∧ v = .agg #[.int .i64 R, .slice ia n ic, .bool a, .slice ea k ec] ∧ RSt w R (.slice ia n ic) (.slice ea k ec) xs es s := by
  obtain ⟨iv, ev, xs, es, rfl, hs⟩ := h.ex
  obtain ⟨ia, ic, rfl, -⟩ := hs.it.sl.gen
  obtain ⟨ea, ec, rfl, -⟩ := hs.ed.sl.gen
  exact ⟨_, _, _, _, _, _, _, _, _, rfl, rfl, hs⟩
/-- The four cells of a state. -/
def Four (w : World) (b : Nat) (c0 c1 c2 c3 : Value) : Prop := w.cell? ⟨b, 0, none⟩ = some c0 ∧ w.cell? ⟨b, 1, none⟩ = some c1 ∧ w.cell? ⟨b, 2, none⟩ = some c2 ∧ w.cell? ⟨b, 3, none⟩ = some c3 ∧ (∀ o, w.frozen? ⟨b, o, none⟩ = false) ∧ b < w.heap.size
theorem Blk.four {w : World} {b : Nat} {c0 c1 c2 c3 : Value} {T : TypeId} (h : Blk w b [c0, c1, c2, c3] T) : Four w b c0 c1 c2 c3 := ⟨h.cell 0, h.cell 1, h.cell 2, h.cell 3, h.frozen, h.lt⟩
/-- A call among those that came in, in every world after. -/
structure OpAt (w : World) (b off : Nat) (op nd : Int) (da : Option Addr) (dl dc : Nat) (d : List Nat) : Prop where
  cells : ∀ W, Mod Nowhere w W → W.cell? ⟨b, off, none⟩ = some (.int .i64 op) ∧ W.cell? ⟨b, off + 1, none⟩ = some (.int .i64 nd) ∧ W.cell? ⟨b, off + 2, none⟩ = some (.slice da dl dc) ∧ b < W.heap.size
  src : ∀ W, Mod Nowhere w W → Src W (.slice da dl dc) d
  bytes : Bytes d
  short : d.length ≤ 1099511627776
  lo : -9223372036854775808 ≤ nd
  hi : nd ≤ 9223372036854775807
  old : b < w.heap.size
theorem OpAt.of {w : World} {b off : Nat} {x : Vop} (hx : VopIn w b off x) (h : x.d.length ≤ 3000) : ∃ op nd da dl dc d, OpAt w b off op nd da dl dc d ∧ op = x.op := by
  obtain ⟨op, nd, dv, d⟩ := x
  obtain ⟨da, dc, ed, -⟩ := hx.src
  dsimp only at ed h
  subst ed
  exact ⟨op, nd, da, d.length, dc, d, ⟨fun W hm => ⟨(hx.fresh hm).c0, (hx.fresh hm).c1, (hx.fresh hm).c2, (hx.fresh hm).lt⟩, fun W hm => (hx.fresh hm).src, hx.bytes, by omega, hx.lo, hx.hi, hx.lt⟩, rfl⟩
/-- The law's vault in the middle of its calls: the vault's state, the reference's state in a variable. -/
structure Both (w wr : World) (A : VAt) (m : Mem) (B R n : Nat) (st sr : VSt) : Prop where
  vl : Vl wr A m st n
  pend : m.pending = false
  box : RBox wr B R sr
  mod : Mod Nowhere w wr
  Bw : w.heap.size ≤ B
  An : ∀ k, A.S k → w.heap.size ≤ k
  hR : A.Z / 2 = R
theorem Both.fresh {w wr wr' : World} {A : VAt} {m : Mem} {B R n : Nat} {st sr : VSt} (h : Both w wr A m B R n st sr) (hm : Mod Nowhere wr wr') : Both w wr' A m B R n st sr :=
  ⟨h.vl.fresh hm, h.pend, h.box.fresh hm, h.mod.trans hm, h.Bw, h.An, h.hR⟩
/-- A call of the vault. -/
theorem Both.call {w wr w1 : World} {A : VAt} {m : Mem} {B R n n' : Nat} {st sr : VSt} {q : VSt × Nat} {e : Ending} (h : Both w wr A m B R n st sr) (hc : Sure wr A n' q e w1) : ∃ m', e = .returned (errno q.2) ∧ Both w w1 A m' B R n' q.1 sr := by
  obtain ⟨m', h1, h2, h3, h4⟩ := hc
  exact ⟨m', h1, h2, h3, h.box.keepA h.vl.rep h4, h.mod.step h4 fun i hi e => absurd hi (by have := h.An i e; omega), h.Bw, h.An, h.hR⟩
/-- A state of the reference is laid into the variable. -/
theorem Both.put {w wr : World} {A : VAt} {m : Mem} {B R n : Nat} {st sr s' : VSt} {ia ea : Option Addr} {k ic j ec : Nat} {a : Bool} {xs : List Ix} {es : List Vx} (h : Both w wr A m B R n st sr) (hs : RSt wr R (.slice ia k ic) (.slice ea j ec) xs es s') (ha : s'.act = a) :
    Both w (outW wr B (.int .i64 R) (.slice ia k ic) (.bool a) (.slice ea j ec)) A m B R n st s' := by
  obtain ⟨ia', n', ic', ea', k', ec', a', xs', es', -, hs', hb⟩ := h.box.get
  exact ⟨h.vl.keepB (outW_mod _ _ _ _ _ _) hb, h.pend, RBox.put hs hb ha, h.mod.step (outW_mod _ _ _ _ _ _) fun i hi e => absurd hi (by have := h.Bw; omega), h.Bw, h.An, h.hR⟩
/-- Another variable that has a state of the reference. -/
theorem RBox.other {w : World} {b d R : Nat} {s : VSt} {cs : List Value} {w' : World} (h : RBox w d R s) (hm : Mod (fun k => k = b) w w') (hb : Blk w b cs 54) (hd : d ≠ b) : RBox w' d R s := by
  obtain ⟨ia, ic, ea, ec, xs, es, hbk, hs⟩ := h.ex
  exact ⟨_, _, _, _, _, _, hbk.mod hm hd, hs.keep hm (fun i e => by rw [e]; exact ⟨_, hb⟩)⟩
theorem both_open {w w1 : World} {A : VAt} {m : Mem} {R : Nat} (hu : Vl w1 A m (vst0 none_) 1000000000) (hp : m.pending = false) (hR2 : A.Z / 2 ≤ 2000000) (hR : A.Z / 2 = R) (hAn : ∀ k, A.S k → w.heap.size ≤ k) (hm : Mod Nowhere w w1) :
    Both w (w1.alloc (.cells #[.int .i64 R, .slice none 0 0, .bool false, .slice none 0 0] 54)) A m w1.heap.size R 1000000000 (vst0 none_) (vst0 none_) := by
  have hmE : Mod Nowhere w1 (w1.alloc (.cells #[.int .i64 R, .slice none 0 0, .bool false, .slice none 0 0] 54)) := (Mod.refl _ w1).alloc _
  refine ⟨hu.fresh hmE, hp, ?_, hm.trans hmE, hm.size, hAn, hR⟩
  obtain ⟨iv, ev, xs, es, e, hs⟩ := (RRep.first (w := w1.alloc (.cells #[.int .i64 R, .slice none 0 0, .bool false, .slice none 0 0] 54)) (R := R) (by omega)).ex
  simp at e
  obtain ⟨rfl, -, rfl⟩ := e
  exact RBox.of (Blk.new' rfl rfl) hs rfl
end Go.Proofs.YtikkodanpbmmkaaGreat
