/-
  Keys, and actions on keys, that came in.
-/
import Derived.Test.YtoehlaeaafalmaaGreatAG36
import Derived.Test.YtoehlaeaafalmaaGreatAK5
import Derived.Test.YtoehlaeaafalmaaGreatAK6
import Derived.Test.YtoehlaeaafalmaaGreatAK7
set_option linter.unusedVariables false
set_option linter.unusedSimpArgs false
set_option maxRecDepth 100000
namespace Go.Proofs.YtoehlaeaafalmaaGreat
open Go.RowKit Go.ChangeShapes Go.WideShapes Go.ChangeAt
open Jn Vn Rg Ky
theorem wf_i64 {n : Int} (h : (Lit.int .i64 n).wf = true) : I64 n := by
 simp only [Lit.wf, Bool.and_eq_true, decide_eq_true_eq] at h;exact h
structure KeyI where
 x : RK
 v : Value
def KeyI.cells (k : KeyI) : List Value := [.int .i64 k.x.set, .int .i64 k.x.kind, k.v, .int .i64 k.x.lim]
structure KeyAt (w : World) (k : KeyI) : Prop where
 src : Src w k.v k.x.val
 by_ : Bytes k.x.val
 n1 : I64 k.x.set
 n2 : I64 k.x.kind
 n3 : I64 k.x.lim
theorem KeyAt.fresh {w w' : World} {k : KeyI} (h : KeyAt w k) (hm : Mod Nowhere w w') : KeyAt w' k := { h with src := h.src.fresh hm }
structure OpK where
 act : Int
 k : KeyI
def OpK.cells (o : OpK) : List Value := .int .i64 o.act :: o.k.cells
def OpKAt (w : World) (o : OpK) : Prop := KeyAt w o.k
theorem open_keyc {H : Type} {enc : TypeId × Value → H} {W : World} {fuel : Nat} {cs : List Value} {y : DataW H × List MemPlace} (h : DataW.trod enc Tryz.prog W 0 (fun _ => true) true fuel 39 cs = some y) : ∃ z : KeyI, cs = z.cells ∧ KeyAt W z := by
 obtain ⟨hlen, n, hfl⟩ := open_struct (l := [(3, 0), (3, 1), (37, 2), (3, 3)]) (by kernel_rfl) (by decide) h;obtain ⟨y0, g0⟩ := hfl 0 _ _ rfl;obtain ⟨y1, g1⟩ := hfl 1 _ _ rfl;obtain ⟨y2, g2⟩ := hfl 2 _ _ rfl;obtain ⟨y3, g3⟩ := hfl 3 _ _ rfl;have e1 : Tryz.prog.cellsOf 3 = 1 := by kernel_rfl
 have e2 : Tryz.prog.cellsOf 37 = 1 := by kernel_rfl
 have e3 : Tryz.prog.cellsOf 39 = 4 := by kernel_rfl
 rw [e1] at g0 g1 g3;rw [e2] at g2;rw [e3] at hlen
 match cs, hlen with
 | [v0, v1, v2, v3], _ =>
  simp only [List.drop_zero, List.take_succ_cons, List.take_zero, List.drop_succ_cons] at g0 g1 g2 g3;obtain ⟨n0, q0, _, w0⟩ := DataW.trod_int Tryz.underlying3 g0;obtain ⟨n1, q1, _, w1⟩ := DataW.trod_int Tryz.underlying3 g1;obtain ⟨n3, q3, _, w3⟩ := DataW.trod_int Tryz.underlying3 g3;obtain ⟨a2, d2, q2, s2, b2⟩ := open_src g2;simp only [List.cons.injEq, and_true] at q0 q1 q2 q3;subst q0 q1 q2 q3;exact ⟨⟨⟨n0, n1, n3, d2⟩, v2⟩, rfl, ⟨s2, b2, wf_i64 w0, wf_i64 w1, wf_i64 w3⟩⟩
theorem open_opkc {H : Type} {enc : TypeId × Value → H} {W : World} {fuel : Nat} {cs : List Value} {y : DataW H × List MemPlace} (h : DataW.trod enc Tryz.prog W 0 (fun _ => true) true fuel 41 cs = some y) : ∃ z : OpK, cs = z.cells ∧ OpKAt W z := by
 obtain ⟨hlen, n, hfl⟩ := open_struct (l := [(3, 0), (39, 1)]) (by kernel_rfl) (by decide) h;obtain ⟨y0, g0⟩ := hfl 0 _ _ rfl;obtain ⟨y1, g1⟩ := hfl 1 _ _ rfl;have e1 : Tryz.prog.cellsOf 3 = 1 := by kernel_rfl
 have e2 : Tryz.prog.cellsOf 39 = 4 := by kernel_rfl
 have e3 : Tryz.prog.cellsOf 41 = 5 := by kernel_rfl
 rw [e1] at g0;rw [e2] at g1;rw [e3] at hlen
 match cs, hlen with
 | [v0, v1, v2, v3, v4], _ =>
  simp only [List.drop_zero, List.take_succ_cons, List.take_zero, List.drop_succ_cons] at g0 g1;obtain ⟨n0, q0, _, w0⟩ := DataW.trod_int Tryz.underlying3 g0;obtain ⟨z, q1, hz⟩ := open_keyc g1;simp only [List.cons.injEq, and_true] at q0;subst q0;exact ⟨⟨n0, z⟩, by show _ = _ :: z.cells; rw [← q1], hz⟩
theorem open_row_opk {H : Type} {enc : TypeId × Value → H} {W : World} {v : Value} {d : DataW H} {p : List MemPlace} (hv : Value.okWide Tryz.prog W .any 0 41 v) (h : DataW.Trod enc Tryz.prog W 0 (fun _ => true) true 41 v d p) : ∃ z : OpK, v = .agg z.cells.toArray ∧ OpKAt W z := by
 have hu : ∃ fs, Tryz.prog.underlying 41 = some (.struct fs) := by
  have : (Tryz.prog.underlying 41).map (fun x => match x with | .struct fs => fs.size | _ => 0) = some 2 := by kernel_rfl
  cases hh : Tryz.prog.underlying 41 with
  | none => rw [hh] at this; cases this
  | some d =>
   rw [hh] at this
   cases d <;> simp at this
   exact ⟨_, rfl⟩
 obtain ⟨fs, hfs⟩ := hu;obtain ⟨cs, rfl, hcs⟩ := okWide_struct hfs hv;obtain ⟨fuel, hf⟩ := h;obtain ⟨z, e, hz⟩ := open_opkc hf;refine ⟨z, ?_, hz⟩;obtain ⟨l⟩ := cs;simp only [Value.cells] at e;rw [e]
structure OpKIn (w : World) (b off : Nat) (o : OpK) : Prop where
 lt : b < w.heap.size
 cell : ∀ j, j < 5 → w.cell? ⟨b, off + j, none⟩ = o.cells[j]?
 at_ : OpKAt w o
theorem OpKIn.fresh {w w' : World} {b off : Nat} {o : OpK} (h : OpKIn w b off o) (hm : Mod Nowhere w w') : OpKIn w' b off o :=
 ⟨Nat.lt_of_lt_of_le h.lt hm.size, fun j hj => (hm.cell (p := ⟨b, off + j, none⟩) h.lt (fun e => e)).trans (h.cell j hj), KeyAt.fresh h.at_ hm⟩
def InKOps (w : World) (v : Value) (l : List OpK) : Prop :=
 ∃ a cap, v = .slice a l.length cap ∧ l.length ≤ cap ∧ cap ≤ maxLen ∧ (0 < l.length → ∃ b off, a = some ⟨b, off, none⟩ ∧ ∀ i (hi : i < l.length), OpKIn w b (off + i * 5) l[i])
theorem InKOps.fresh {w w' : World} {v : Value} {l : List OpK} (h : InKOps w v l) (hm : Mod Nowhere w w') : InKOps w' v l := by
 obtain ⟨a, cap, e, h1, h2, h3⟩ := h
 exact ⟨a, cap, e, h1, h2, fun h0 => by
  obtain ⟨b, off, e, h4⟩ := h3 h0
  exact ⟨b, off, e, fun i hi => (h4 i hi).fresh hm⟩⟩
theorem InKOps.gen {w : World} {v : Value} {l : List OpK} (h : InKOps w v l) : ∃ a cap, v = .slice a l.length cap ∧ l.length ≤ cap ∧ cap ≤ maxLen := by
 obtain ⟨a, cap, e, h1, h2, -⟩ := h;exact ⟨a, cap, e, h1, h2⟩
theorem InKOps.at_ {w : World} {v : Value} {l : List OpK} (h : InKOps w v l) {i : Nat} (hi : i < l.length) : ∃ b off cap, v = .slice (some ⟨b, off, none⟩) l.length cap ∧ l.length ≤ cap ∧ cap ≤ maxLen ∧ OpKIn w b (off + i * 5) l[i] := by
 obtain ⟨a, cap, e, h1, h2, h3⟩ := h;obtain ⟨b, off, e2, h4⟩ := h3 (by omega);subst e2;exact ⟨b, off, cap, e, h1, h2, h4 i hi⟩
theorem InKOps.one {w : World} {g : Nat} {o : OpK} (hb : Blk w g o.cells 41) (hk : KeyAt w o.k) : InKOps w (.slice (some ⟨g, 0, none⟩) 1 1) [o] :=
 ⟨_, 1, rfl, Nat.le_refl _, by decide, fun _ => ⟨g, 0, rfl, fun i hi => by
  have hi : i < 1 := hi;obtain rfl : i = 0 := by omega
  exact ⟨hb.lt, fun j hj => by rw [hb.cell, Nat.zero_mul, Nat.zero_add]; rfl, hk⟩⟩⟩
end Go.Proofs.YtoehlaeaafalmaaGreat
namespace Go.Proofs.YtoehlaeaafalmaaGreat
open Go.RowKit
open Jn Vn Rg Ky
attribute [local go_sem] Oper.semAt_some
def lightB (l : List OpK) : Bool := decide (l.length ≤ 60) && l.all fun o => decide (o.k.x.val.length ≤ 100)
set_option maxHeartbeats 2000000 in
theorem light22_ok {w : World} {v : Value} {l : List OpK} (h : InKOps w v l) : Calls Tryz.prog 8 #[v] w fun e w' => e = .returned (.bool (lightB l)) ∧ Mod Nowhere w w' := by
 obtain ⟨a, cap, rfl, h1, h2⟩ := h.gen;by_cases hl : l.length ≤ 60
 ·have hB : lightB l = l.all fun o => decide (o.k.x.val.length ≤ 100) := by unfold lightB; rw [decide_eq_true hl, Bool.true_and]
  obtain ⟨n, hn⟩ : ∃ n, l.length = n := ⟨_, rfl⟩;have hn0 : ¬ (60 : Int) < (n : Int) := by omega
  obtain ⟨R, hR⟩ : ∃ R, lightB l = R := ⟨_, rfl⟩;rw [hn, hR];rw [hR] at hB
  have hc : ∀ W, Mod Nowhere w W → ∀ k (hk : k < l.length), ∃ b off a1 c1, a = some ⟨b, off, none⟩ ∧ W.cell? ⟨b, off + k * 5 + 3, none⟩ = some (.slice a1 l[k].k.x.val.length c1) ∧ b < W.heap.size := fun W hm k hk => by
   obtain ⟨b, off, cap', e, -, -, hi⟩ := (h.fresh hm).at_ hk;simp at e;obtain ⟨a1, c1, e1, -⟩ := hi.at_.src;have := hi.cell 3 (by omega);refine ⟨b, off, a1, c1, e.1, ?_, hi.lt⟩;rw [this]
   show some l[k].k.v = _
   rw [e1]
  clear h;refine hid4 ?_ hB hn hR hc; clear hB hn hR hc; intro hB hn hR hc;go_enter Tryz.func8, Tryz.ntmps8;go_wp2
  go_loop [3] (fun i => ∃ k : Nat, k ≤ n ∧ i = .int .i64 k ∧ ∀ j (hj : j < l.length), j < k → l[j].k.x.val.length ≤ 100) (fun i => n - (intOf i).toNat)
  case atStart => exact ⟨0, by omega, rfl, fun j hj h => by omega⟩
  case round =>
   obtain ⟨k, hk, rfl, hall⟩ := hrel;by_cases hlt : k < n
   ·have hkl : k < l.length := by have := hn.out; omega
    obtain ⟨b, off, a1, c1, e1, c3, cl⟩ := hc.out w (Mod.refl _ _) k hkl;have hki : (k : Int) < (n : Int) := by omega
    subst e1;obtain ⟨vn, hvn0⟩ : ∃ x, l[k].k.x.val.length = x := ⟨_, rfl⟩;rw [hvn0] at c3;have hvn : ∀ h : k < l.length, l[k].k.x.val.length = vn := fun _ => hvn0;clear hvn0;by_cases hv : vn ≤ 100
    ·have hv1 : ¬ (100 : Int) < (vn : Int) := by omega
     refine hid3 ?_ hall hvn hkl; clear hall hvn hkl; intro hall hvn hkl;go_wp2
     go_round
     case rel => exact ⟨k + 1, by omega, by go_num, fun j hj h => by
      by_cases e : j = k
      ·subst e
       have := hvn.out hj;omega
      ·exact hall.out j hj (by omega)⟩
     case measure => simp [intOf]; omega
    ·have hv1 : (100 : Int) < (vn : Int) := by omega
     have hf : R = false := by
      rw [hB.out];rw [List.all_eq_false];exact ⟨l[k], List.getElem_mem hkl, by rw [hvn hkl]; simp; omega⟩
     refine hid4 ?_ hall hvn hkl hf; clear hall hvn hkl hf; intro hall hvn hkl hf;go_wp2;go_ret;exact ⟨by rw [hf.out]; rfl, Mod.refl _ _⟩
   ·obtain rfl : k = n := by omega
    have hf : R = true := by
     rw [hB.out, List.all_eq_true];intro o ho;obtain ⟨j, hj, rfl⟩ := List.getElem_of_mem ho;have := hall j hj (by have := hn.out; omega);exact decide_eq_true this
    refine hid2 ?_ hall hf; clear hall hf; intro hall hf;go_wp2;go_ret;exact ⟨by rw [hf.out]; rfl, Mod.refl _ _⟩
 ·have hB : lightB l = false := by unfold lightB; rw [decide_eq_false hl, Bool.false_and]
  obtain ⟨n, hn⟩ : ∃ n, l.length = n := ⟨_, rfl⟩;have hn0 : (60 : Int) < (n : Int) := by omega
  rw [hB, hn];clear h hB hl;replace hn := Lib.hid hn;go_enter Tryz.func8, Tryz.ntmps8;go_wp2;go_ret;exact ⟨rfl, Mod.refl _ _⟩
set_option maxHeartbeats 4000000 in
theorem xDo_ok {w : World} {p : Option Addr} (h : KShut w (.pointer p) 31) (hP : ∀ W (st kd lm : Int) (a : Option Addr) (n c : Nat), Mod Nowhere w W → Calls Tryz.prog 17 #[.pointer p, .agg #[.int .i64 st, .int .i64 kd, .slice a n c, .int .i64 lm]] W fun e w' => e = .returned (errno 31) ∧ Mod Nowhere W w') (act st kd lm : Int) (a : Option Addr) (n c : Nat) :
  Calls Tryz.prog 12 #[.pointer p, .agg #[.int .i64 act, .int .i64 st, .int .i64 kd, .slice a n c, .int .i64 lm]] w fun e w' => e = .returned (.tuple #[.int .i64 0, errno 31]) ∧ Mod Nowhere w w' := by
 have hm0 : Mod Nowhere w (w.alloc (.cells #[.int .i64 act, .int .i64 st, .int .i64 kd, .slice a n c, .int .i64 lm] 41)) := (Mod.refl _ w).alloc _;have hb := Blk.new w [.int .i64 act, .int .i64 st, .int .i64 kd, .slice a n c, .int .i64 lm] 41;have h1 := hP _ st kd lm a n c hm0;have h2 := xDelete_ok (h.fresh hm0) st;have h3 := xSpend_ok (h.fresh hm0) st kd;have h4 := xRestore_ok (h.fresh hm0) st kd;have z0 := hb.cell 0; have z1 := hb.cell 1; have z2 := hb.cell 2; have z3 := hb.cell 3; have z4 := hb.cell 4; have zl := hb.lt;simp only [List.getElem?_cons_zero, List.getElem?_cons_succ] at z0 z1 z2 z3 z4
 clear h hP hb;refine hid5 ?_ hm0 h1 h2 h3 h4; clear hm0 h1 h2 h3 h4; intro hm0 h1 h2 h3 h4;have hc : act = 0 ∨ act = 1 ∨ act = 2 ∨ (¬ act = 0 ∧ ¬ act = 1 ∧ ¬ act = 2) := by omega
 rcases hc with rfl | rfl | rfl | ⟨g0, g1, g2⟩
 ·go_enter Tryz.func12, Tryz.ntmps12
  go_wp2_with fail;refine h1.out.mono ?_;rintro e w1 ⟨rfl, hm⟩;have hf := hm0.out.trans hm;refine hid2 ?_ hf hm; clear hf hm; intro hf hm;go_wp2
  go_ret2
  exact ⟨rfl, hf.out⟩
 ·go_enter Tryz.func12, Tryz.ntmps12
  go_wp2_with fail;refine h2.out.mono ?_;rintro e w1 ⟨rfl, hm⟩;have hf := hm0.out.trans hm;refine hid2 ?_ hf hm; clear hf hm; intro hf hm;go_wp2
  go_ret2
  exact ⟨rfl, hf.out⟩
 ·go_enter Tryz.func12, Tryz.ntmps12
  go_wp2_with fail;refine h3.out.mono ?_;rintro e w1 ⟨rfl, hm⟩;have hf := hm0.out.trans hm;refine hid2 ?_ hf hm; clear hf hm; intro hf hm;go_wp2
  go_ret2
  exact ⟨rfl, hf.out⟩
 ·go_enter Tryz.func12, Tryz.ntmps12
  go_wp2_with fail;refine h4.out.mono ?_;rintro e w1 ⟨rfl, hm⟩;have hf := hm0.out.trans hm;refine hid2 ?_ hf hm; clear hf hm; intro hf hm;go_wp2
  go_ret2
  exact ⟨rfl, hf.out⟩
set_option maxHeartbeats 1000000 in
theorem KShut.nil (w : World) : KShut w (.pointer none) 31 := by
 refine ⟨fun W hm => ?_, .inr rfl⟩;go_enter Tryz.func50, Tryz.ntmps50;go_wp2;go_ret;exact ⟨rfl, Mod.refl _ _⟩
set_option maxHeartbeats 1000000 in
theorem KShut.zero {w : World} {b : Nat} (hb : Blk w b [.pointer none, .map none] 55) : KShut w (ptr b) 31 := by
 refine ⟨fun W hm => ?_, .inr rfl⟩;have hb2 := hb.mod hm id;have z0 := hb2.cell 0; have zl := hb2.lt;simp only [List.getElem?_cons_zero] at z0;clear hb hb2;go_enter Tryz.func50, Tryz.ntmps50;go_wp2;go_ret;exact ⟨rfl, Mod.refl _ _⟩
set_option maxHeartbeats 1000000 in
theorem xPut_nil (W : World) (st kd lm : Int) (a : Option Addr) (n c : Nat) : Calls Tryz.prog 17 #[.pointer none, .agg #[.int .i64 st, .int .i64 kd, .slice a n c, .int .i64 lm]] W fun e w' => e = .returned (errno 31) ∧ Mod Nowhere W w' := by
 have hm : Mod Nowhere W ((W.alloc (.cells #[.int .i64 st, .int .i64 kd, .slice a n c, .int .i64 lm] 39)).alloc (.cells #[.int .i64 st, .int .i64 kd] 88)) := ((Mod.refl _ W).alloc _).alloc _;replace hm := Lib.hid hm;go_enter Tryz.func17, Tryz.ntmps17;go_wp2;go_ret;exact ⟨rfl, hm.out⟩
set_option maxHeartbeats 1000000 in
theorem xPut_zero {w : World} {b : Nat} (hb : Blk w b [.pointer none, .map none] 55) (W : World) (st kd lm : Int) (a : Option Addr) (n c : Nat) (hm : Mod Nowhere w W) : Calls Tryz.prog 17 #[ptr b, .agg #[.int .i64 st, .int .i64 kd, .slice a n c, .int .i64 lm]] W fun e w' => e = .returned (errno 31) ∧ Mod Nowhere W w' := by
 have hm2 : Mod Nowhere W ((W.alloc (.cells #[.int .i64 st, .int .i64 kd, .slice a n c, .int .i64 lm] 39)).alloc (.cells #[.int .i64 st, .int .i64 kd] 88)) := ((Mod.refl _ W).alloc _).alloc _;have hb2 := (hb.mod hm id).mod hm2 id;have z0 := hb2.cell 0; have zl := hb2.lt;simp only [List.getElem?_cons_zero] at z0;clear hb hb2;replace hm2 := Lib.hid hm2;go_enter Tryz.func17, Tryz.ntmps17;go_wp2;go_ret;exact ⟨rfl, hm2.out⟩
set_option maxHeartbeats 1000000 in
theorem kOpen_nil (w : World) : Calls Tryz.prog 14 #[.pointer none] w fun e w' => e = .returned (.tuple #[.pointer none, errno 31]) ∧ Mod Nowhere w w' := by
 go_enter Tryz.func14, Tryz.ntmps14;go_wp2
 go_ret2
 exact ⟨rfl, Mod.refl _ _⟩
set_option maxHeartbeats 8000000 in
theorem lawKeysNil (z : OpK) (w : World) (i0 : OpKAt w z) : Calls Tryz.prog 5 #[.agg z.cells.toArray] w fun e w' => e = .returned (.bool true) ∧ Below w.heap.size w w' := by
 suffices h : Calls Tryz.prog 5 #[.agg z.cells.toArray] w fun e w' => e = .returned (.bool true) ∧ Mod Nowhere w w' from h.mono fun e w' ⟨a, b⟩ => ⟨a, b.below⟩
 obtain ⟨va, vc, hv, -⟩ := id i0.src
 have hcells : z.cells = [.int .i64 z.act, .int .i64 z.k.x.set, .int .i64 z.k.x.kind, .slice va z.k.x.val.length vc, .int .i64 z.k.x.lim] := by
  unfold OpK.cells KeyI.cells;rw [hv]
 have hm1 : Mod Nowhere w ((w.alloc (.cells z.cells.toArray 41)).alloc (.cells z.cells.toArray 41)) := ((Mod.refl _ w).alloc _).alloc _;have hb1 : Blk ((w.alloc (.cells z.cells.toArray 41)).alloc (.cells z.cells.toArray 41)) w.heap.size z.cells 41 := (Blk.new w z.cells 41).mod ((Mod.refl Nowhere _).alloc _) id
 have hb2 : Blk ((w.alloc (.cells z.cells.toArray 41)).alloc (.cells z.cells.toArray 41)) (w.heap.size + 1) z.cells 41 := by
  have := Blk.new (w.alloc (.cells z.cells.toArray 41)) z.cells 41;simpa using this
 have hL := light22_ok (InKOps.one hb2 (KeyAt.fresh i0 hm1));have hb0 := Blk.new w z.cells 41;have hE := fun W => example22_ok W;rw [hcells] at hm1 hb1 hb2 hL hb0 ⊢;clear hcells hv hb2;generalize lightB [z] = lb at *;generalize z.k.x.val.length = vn at *;generalize z.act = act at *;generalize z.k.x.set = st at *;generalize z.k.x.kind = kd at *;generalize z.k.x.lim = lm at *;clear i0;have z0 := hb0.cell 0; have z1 := hb0.cell 1; have z2 := hb0.cell 2; have z3 := hb0.cell 3; have z4 := hb0.cell 4; have zl := hb0.lt;simp only [List.getElem?_cons_zero, List.getElem?_cons_succ] at z0 z1 z2 z3 z4;refine hid5 ?_ hm1 hb1 hL hb0 hE; clear hm1 hb1 hL hb0 hE; intro hm1 hb1 hL hb0 hE
 go_enter Tryz.func5, Tryz.ntmps5;go_wp2_with fail;refine (hL.out).mono ?_;rintro e w2 ⟨rfl, hm2⟩;have hm02 := hm1.out.trans hm2;have hb12 := hb1.out.mod hm2 id;clear z0 z1 z2 z3 z4 zl;generalize w.heap.size = ob at *;refine hid3 ?_ hm02 hb12 hm2; clear hm02 hb12 hm2; intro hm02 hb12 hm2
 cases lb with
 | false =>
  go_wp2_with fail;refine (hE.out w2).mono ?_;rintro e w3 ⟨rfl, hm3⟩;have hf := hm02.out.trans hm3;refine hid2 ?_ hf hm3; clear hf hm3; intro hf hm3;go_wp2;go_ret;exact ⟨rfl, hf.out⟩
 | true =>
  have hz3 := Blk.new w2 [.pointer none, .map none] 55;have hA3 : Mod Nowhere (w2.alloc (.cells #[.pointer none, .map none] 55)) ((w2.alloc (.cells #[.pointer none, .map none] 55)).alloc (.cells #[.pointer none, ptr w2.heap.size] 27)) := (Mod.refl _ _).alloc _
  have hs3 : Blk ((w2.alloc (.cells #[.pointer none, .map none] 55)).alloc (.cells #[.pointer none, ptr w2.heap.size] 27)) (w2.heap.size + 1) [.pointer none, ptr w2.heap.size] 27 := by
   have := Blk.new (w2.alloc (.cells #[.pointer none, .map none] 55)) [.pointer none, ptr w2.heap.size] 27;simpa using this
  have hz4 := hz3.mod hA3 id;have hA2 : Mod Nowhere w2 (w2.alloc (.cells #[.pointer none, .map none] 55)) := (Mod.refl _ _).alloc _;have hm03 := hm02.out.trans (hA2.trans hA3);have hb13 := hb12.out.mod (hA2.trans hA3) id;clear hz3 hA3 hA2;have hO := fun W => kOpen_nil W;refine hid5 ?_ hz4 hs3 hm03 hb13 hO; clear hz4 hs3 hm03 hb13 hO; intro hz4 hs3 hm03 hb13 hO;clear hm2 hb12 hm02 hb0 hb1 hm1 hL;go_wp2_with fail;obtain ⟨w3, hw3⟩ : ∃ W, ((w2.alloc (.cells #[.pointer none, .map none] 55)).alloc (.cells #[.pointer none, ptr w2.heap.size] 27)) = W := ⟨_, rfl⟩;replace hz4 := hz4.out;replace hs3 := hs3.out;replace hm03 := hm03.out
  replace hb13 := hb13.out;rw [hw3] at hz4 hs3 hm03 hb13 ⊢;clear hw3;generalize w2.heap.size = zb at *
  have hq : ∀ k, k < 2 → ∃ q : Option Addr, (∀ W, Mod Nowhere w3 W → W.cell? ⟨zb + 1, k, none⟩ = some (.pointer q) ∧ zb + 1 < W.heap.size) ∧ (∀ W, Mod Nowhere w3 W → KShut W (.pointer q) 31) ∧ (∀ W, Mod Nowhere w3 W → Calls Tryz.prog 12 #[.pointer q, .agg #[.int .i64 act, .int .i64 st, .int .i64 kd, .slice va vn vc, .int .i64 lm]] W fun e w' => e = .returned (.tuple #[.int .i64 0, errno 31]) ∧ Mod Nowhere W w') := fun k hk => by
   rcases (show k = 0 ∨ k = 1 by omega) with rfl | rfl
   ·refine ⟨none, fun W hm => ⟨(hs3.mod hm id).cell 0, (hs3.mod hm id).lt⟩, fun W hm => KShut.nil W, fun W hm => xDo_ok (KShut.nil W) (fun W' st kd lm a n c _ => xPut_nil W' st kd lm a n c) act st kd lm va vn vc⟩
   ·refine ⟨some ⟨zb, 0, none⟩, fun W hm => ⟨(hs3.mod hm id).cell 1, (hs3.mod hm id).lt⟩, fun W hm => KShut.zero (hz4.mod hm id), fun W hm => xDo_ok (KShut.zero (hz4.mod hm id)) (fun W' st kd lm a n c hm' => xPut_zero (hz4.mod hm id) W' st kd lm a n c hm') act st kd lm va vn vc⟩
  refine hid5 ?_ hz4 hs3 hm03 hb13 hq; clear hz4 hs3 hm03 hb13 hq; intro hz4 hs3 hm03 hb13 hq
  go_loopw [4] (fun i wr => ∃ k : Nat, k ≤ 2 ∧ i = .int .i64 k ∧ Mod Nowhere w3 wr) (fun i _ => 2 - (intOf i).toNat)
  case atStart => exact ⟨0, by omega, rfl, Mod.refl _ _⟩
  case round =>
   obtain ⟨k, hk, rfl, hm⟩ := hrel;by_cases hlt : k < 2
   ·have hki : (k : Int) < 2 := by omega
    obtain ⟨q, hqc, hqs, hqd⟩ := hq.out k hlt;refine hid4 ?_ hm hqc hqs hqd; clear hm hqc hqs hqd; intro hm hqc hqs hqd;go_wp2_with fail;refine wp_region_calm (fun i v w' => match i with | 0 => (v = .slice (some ⟨zb + 1, 0, none⟩) 2 2) | 1 => (v = .int .i64 (k : Int)) | 2 => (v = .pointer (some ⟨zb + 1, k, none⟩)) | 3 => (v = .pointer q) | 4 => (v = .agg #[.int .i64 act, .int .i64 st, .int .i64 kd, .slice va vn vc, .int .i64 lm]) | 5 => (v = .tuple #[.int .i64 0, errno 31]) | 6 => (v = .tuple #[.int .i64 0, errno 31]) | 7 => (v = .int .i64 0) | 8 => (v = errno 31) | 9 => (v = .int .i64 0) | 10 => (v = errno 31) | _ => True) ?A_ (by first | assumption | kernel_rfl) (by kernel_rfl) (by kernel_rfl) ?hA_ ?hS_ ?hE_
    case hA_ => intro xs; simp [putAll, List.range, List.range.loop, Act.put] <;> rfl
    case hS_ =>
     refine ⟨?_, ?_, ?_, ?_, ?_, ?_, ?_, ?_, ?_, ?_, ?_, trivial⟩
     ·-- 0: t26 := move(t3)
      intro yv w' hR hF K hK;clear hF
      go_simp
      exact hK _ _ (fun _ _ => by first | trivial | rfl | simp [*]) (Mod.refl _ _)
     ·-- 1: t27 := move(t4)
      intro yv w' hR hF K hK;clear hF
      go_simp
      exact hK _ _ (fun _ _ => by first | trivial | rfl | simp [*]) (Mod.refl _ _)
     ·-- 2: t28 := indexAddr(56, t26, t27)
      intro yv w' hR hF K hK;have f0 : (yv 0) = .slice (some ⟨zb + 1, 0, none⟩) 2 2 := hF 0 (by kernel_rfl) w' (Mod.refl _ _);have f1 : (yv 1) = .int .i64 (k : Int) := hF 1 (by kernel_rfl) w' (Mod.refl _ _);clear hF;generalize yv 0 = y0 at *;subst f0;generalize yv 1 = y1 at *;subst f1
      go_simp
      exact hK _ _ (fun _ _ => by first | trivial | rfl | simp [*]) (Mod.refl _ _)
     ·-- 3: t29 := load(27, t28)
      intro yv w' hR hF K hK;have f2 : (yv 2) = .pointer (some ⟨zb + 1, k, none⟩) := hF 2 (by kernel_rfl) w' (Mod.refl _ _);clear hF;generalize yv 2 = y2 at *;subst f2;obtain ⟨z0, zl⟩ := hqc.out w' (hm.out.drew.trans hR)
      go_simp
      exact hK _ _ (fun _ _ => rfl) (Mod.refl _ _)
     ·-- 4: t30 := load(41, t1)
      intro yv w' hR hF K hK;clear hF;have b2 := hb13.out.mod (hm.out.drew.trans hR) id;have z0 := b2.cell 0; have z1 := b2.cell 1; have z2 := b2.cell 2; have z3 := b2.cell 3; have z4 := b2.cell 4; have zl := b2.lt;simp only [List.getElem?_cons_zero, List.getElem?_cons_succ] at z0 z1 z2 z3 z4;clear b2
      go_simp
      exact hK _ _ (fun _ _ => rfl) (Mod.refl _ _)
     ·-- 5: t31 := CALL F12 (t29, t30)
      intro yv w' hR hF K hK;have f3 : (yv 3) = .pointer q := hF 3 (by kernel_rfl) w' (Mod.refl _ _);have f4 : (yv 4) = .agg #[.int .i64 act, .int .i64 st, .int .i64 kd, .slice va vn vc, .int .i64 lm] := hF 4 (by kernel_rfl) w' (Mod.refl _ _);clear hF;generalize yv 3 = y3 at *;subst f3;generalize yv 4 = y4 at *;subst f4;have hc := hqd.out w' (hm.out.drew.trans hR);replace hc := Lib.hid hc
      go_simp
      go_at_call 12
      refine hc.out.mono ?_;rintro e w9 ⟨rfl, hm9⟩;exact hK _ _ (fun _ _ => rfl) hm9
     ·-- 6: t25 := move(t31)
      intro yv w' hR hF K hK;have f5 : (yv 5) = .tuple #[.int .i64 0, errno 31] := hF 5 (by kernel_rfl) w' (Mod.refl _ _);clear hF;generalize yv 5 = y5 at *;subst f5
      go_simp
      exact hK _ _ (fun _ _ => by first | trivial | rfl | simp [*]) (Mod.refl _ _)
     ·-- 7: t32 := extract(t25, 0)
      intro yv w' hR hF K hK;have f6 : (yv 6) = .tuple #[.int .i64 0, errno 31] := hF 6 (by kernel_rfl) w' (Mod.refl _ _);clear hF;generalize yv 6 = y6 at *;subst f6
      go_simp
      exact hK _ _ (fun _ _ => by first | trivial | rfl | simp [*]) (Mod.refl _ _)
     ·-- 8: t33 := extract(t25, 1)
      intro yv w' hR hF K hK;have f6 : (yv 6) = .tuple #[.int .i64 0, errno 31] := hF 6 (by kernel_rfl) w' (Mod.refl _ _);clear hF;generalize yv 6 = y6 at *;subst f6
      go_simp
      exact hK _ _ (fun _ _ => by first | trivial | rfl | simp [*]) (Mod.refl _ _)
     ·-- 9: t5 := assign(t32)
      intro yv w' hR hF K hK;have f7 : (yv 7) = .int .i64 0 := hF 7 (by kernel_rfl) w' (Mod.refl _ _);have f5 : (yv 5) = .tuple #[.int .i64 0, errno 31] := hF 5 (by kernel_rfl) w' (Mod.refl _ _);have f0 : (yv 0) = .slice (some ⟨zb + 1, 0, none⟩) 2 2 := hF 0 (by kernel_rfl) w' (Mod.refl _ _);have f1 : (yv 1) = .int .i64 (k : Int) := hF 1 (by kernel_rfl) w' (Mod.refl _ _);have f2 : (yv 2) = .pointer (some ⟨zb + 1, k, none⟩) := hF 2 (by kernel_rfl) w' (Mod.refl _ _);have f3 : (yv 3) = .pointer q := hF 3 (by kernel_rfl) w' (Mod.refl _ _);have f4 : (yv 4) = .agg #[.int .i64 act, .int .i64 st, .int .i64 kd, .slice va vn vc, .int .i64 lm] := hF 4 (by kernel_rfl) w' (Mod.refl _ _);have f6 : (yv 6) = .tuple #[.int .i64 0, errno 31] := hF 6 (by kernel_rfl) w' (Mod.refl _ _)
      clear hF;generalize yv 7 = y7 at *;subst f7;generalize yv 5 = y5 at *;subst f5;generalize yv 0 = y0 at *;subst f0;generalize yv 1 = y1 at *;subst f1;generalize yv 2 = y2 at *;subst f2;generalize yv 3 = y3 at *;subst f3;generalize yv 4 = y4 at *;subst f4;generalize yv 6 = y6 at *;subst f6
      go_simp
      exact hK _ _ (fun _ _ => by first | trivial | rfl | simp [*]) (Mod.refl _ _)
     ·-- 10: t6 := assign(t33)
      intro yv w' hR hF K hK;have f8 : (yv 8) = errno 31 := hF 8 (by kernel_rfl) w' (Mod.refl _ _);have f9 : (yv 9) = .int .i64 0 := hF 9 (by kernel_rfl) w' (Mod.refl _ _);have f0 : (yv 0) = .slice (some ⟨zb + 1, 0, none⟩) 2 2 := hF 0 (by kernel_rfl) w' (Mod.refl _ _);have f1 : (yv 1) = .int .i64 (k : Int) := hF 1 (by kernel_rfl) w' (Mod.refl _ _);have f2 : (yv 2) = .pointer (some ⟨zb + 1, k, none⟩) := hF 2 (by kernel_rfl) w' (Mod.refl _ _);have f3 : (yv 3) = .pointer q := hF 3 (by kernel_rfl) w' (Mod.refl _ _);have f4 : (yv 4) = .agg #[.int .i64 act, .int .i64 st, .int .i64 kd, .slice va vn vc, .int .i64 lm] := hF 4 (by kernel_rfl) w' (Mod.refl _ _);have f5 : (yv 5) = .tuple #[.int .i64 0, errno 31] := hF 5 (by kernel_rfl) w' (Mod.refl _ _)
      have f6 : (yv 6) = .tuple #[.int .i64 0, errno 31] := hF 6 (by kernel_rfl) w' (Mod.refl _ _);have f7 : (yv 7) = .int .i64 0 := hF 7 (by kernel_rfl) w' (Mod.refl _ _);clear hF;generalize yv 8 = y8 at *;subst f8;generalize yv 9 = y9 at *;subst f9;generalize yv 0 = y0 at *;subst f0;generalize yv 1 = y1 at *;subst f1;generalize yv 2 = y2 at *;subst f2;generalize yv 3 = y3 at *;subst f3;generalize yv 4 = y4 at *;subst f4;generalize yv 5 = y5 at *;subst f5;generalize yv 6 = y6 at *;subst f6;generalize yv 7 = y7 at *;subst f7
      go_simp
      exact hK _ _ (fun _ _ => by first | trivial | rfl | simp [*]) (Mod.refl _ _)
    case hE_ =>
     intro yv w' hR hF;have f0 : (yv 0) = .slice (some ⟨zb + 1, 0, none⟩) 2 2 := hF 0 (by simp) w' (Mod.refl _ _);have f1 : (yv 1) = .int .i64 (k : Int) := hF 1 (by simp) w' (Mod.refl _ _);have f2 : (yv 2) = .pointer (some ⟨zb + 1, k, none⟩) := hF 2 (by simp) w' (Mod.refl _ _);have f3 : (yv 3) = .pointer q := hF 3 (by simp) w' (Mod.refl _ _);have f4 : (yv 4) = .agg #[.int .i64 act, .int .i64 st, .int .i64 kd, .slice va vn vc, .int .i64 lm] := hF 4 (by simp) w' (Mod.refl _ _);have f5 : (yv 5) = .tuple #[.int .i64 0, errno 31] := hF 5 (by simp) w' (Mod.refl _ _);have f6 : (yv 6) = .tuple #[.int .i64 0, errno 31] := hF 6 (by simp) w' (Mod.refl _ _);have f7 : (yv 7) = .int .i64 0 := hF 7 (by simp) w' (Mod.refl _ _)
     have f8 : (yv 8) = errno 31 := hF 8 (by simp) w' (Mod.refl _ _);have f9 : (yv 9) = .int .i64 0 := hF 9 (by simp) w' (Mod.refl _ _);have f10 : (yv 10) = errno 31 := hF 10 (by simp) w' (Mod.refl _ _);clear hF;generalize yv 0 = y0 at *;subst f0;generalize yv 1 = y1 at *;subst f1;generalize yv 2 = y2 at *;subst f2;generalize yv 3 = y3 at *;subst f3;generalize yv 4 = y4 at *;subst f4;generalize yv 5 = y5 at *;subst f5;generalize yv 6 = y6 at *;subst f6;generalize yv 7 = y7 at *;subst f7;generalize yv 8 = y8 at *;subst f8;generalize yv 9 = y9 at *;subst f9;generalize yv 10 = y10 at *;subst f10;have hm4 := hm.out.drew.trans hR;have hG := xGet_ok (hqs.out w' hm4) 1 1 (by unfold I64; omega) (by unfold I64; omega)
     obtain ⟨y0, yl⟩ := hqc.out w' hm4;clear hR hm;refine hid2 ?_ hm4 hG; clear hm4 hG; intro hm4 hG;go_wp2_with fail;refine hG.out.mono ?_;rintro e w5 ⟨rfl, hm5⟩;have hm6 : Mod Nowhere w5 (w5.alloc (.cells #[.int .i64 0, .int .i64 0, .slice none 0 0, .int .i64 0] 39)) := (Mod.refl _ w5).alloc _;have hm36 := (hm4.out.trans hm5).trans hm6;clear y0 yl;obtain ⟨y0, yl⟩ := hqc.out _ hm36;have hS := xSets_ok (hqs.out _ hm36);refine hid4 ?_ hm5 hm6 hm36 hS; clear hm5 hm6 hm36 hS; intro hm5 hm6 hm36 hS;go_wp2_with fail;refine hS.out.mono ?_;rintro e w7 ⟨rfl, hm7⟩;have hm37 := hm36.out.trans hm7;clear y0 yl;obtain ⟨y0, yl⟩ := hqc.out _ hm37
     have hI := xInfo_ok (hqs.out _ hm37) 1 (by unfold I64; omega);refine hid3 ?_ hm7 hm37 hI; clear hm7 hm37 hI; intro hm7 hm37 hI;go_wp2_with fail;refine hI.out.mono ?_;rintro e w8 ⟨rfl, hm8⟩;have hm38 := hm37.out.trans hm8;refine hid2 ?_ hm8 hm38; clear hm8 hm38; intro hm8 hm38;go_wp2;go_roundw
     case rel => exact ⟨k + 1, by omega, by go_num, hm38.out⟩
     case measure => simp [intOf]; omega
   ·obtain rfl : k = 2 := by omega
    have hm39 := hm03.out.trans hm;refine hid2 ?_ hm39 hm; clear hm39 hm; intro hm39 hm;go_wp2_with fail;refine (hO.out _).mono ?_;rintro e w9 ⟨rfl, hm9⟩;replace hm9 := Lib.hid hm9;go_wp2_with fail;refine (hE.out _).mono ?_;rintro e w10 ⟨rfl, hm10⟩;have hf := (hm39.out.trans hm9.out).trans hm10;refine hid2 ?_ hf hm10; clear hf hm10; intro hf hm10;go_wp2;go_ret;exact ⟨rfl, hf.out⟩
end Go.Proofs.YtoehlaeaafalmaaGreat
