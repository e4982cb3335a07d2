/-
  Structs and strings of bytes that came in by value.
-/
import Derived.Test.YtikkodanpbmmkaaGreatInq
set_option linter.unusedVariables false
set_option linter.unusedSimpArgs false
namespace Go.Proofs.YtikkodanpbmmkaaGreat
open Go.RowKit Go.ChangeShapes Go.WideShapes Go.ChangeAt
open Jn Vn

/- The fields of a struct, each with its own cells. -/
set_option maxRecDepth 100000 in
theorem open_struct {H : Type} {enc : TypeId × Value → H} {W : World} {fuel : Nat} {t : TypeId} {cs : List Value} {x : DataW H × List MemPlace} {l : List (TypeId × Nat)}
    (hl : (Tryz.prog.underlying t).map (fun x => match x with | .struct fs => fs.toList.map (fun f => (f.type, f.offset)) | _ => [(0, 9999999)]) = some l) (hne : l ≠ [(0, 9999999)])
    (h : DataW.trod enc Tryz.prog W 0 (fun _ => true) true fuel t cs = some x) :
    cs.length = Tryz.prog.cellsOf t ∧ ∃ n, ∀ (i : Nat) (ti : TypeId) (oi : Nat), l[i]? = some (ti, oi) → ∃ y, DataW.trod enc Tryz.prog W 0 (fun _ => true) true n ti ((cs.drop oi).take (Tryz.prog.cellsOf ti)) = some y := by
  have hu : ∃ fs, Tryz.prog.underlying t = some (.struct fs) ∧ fs.toList.map (fun f => (f.type, f.offset)) = l := by
    cases hh : Tryz.prog.underlying t with
    | none => rw [hh] at hl; cases hl
    | some d =>
      rw [hh] at hl
      cases d <;> simp at hl
      case struct => exact ⟨_, rfl, by simpa using hl⟩
      all_goals exact absurd hl.symm hne
  obtain ⟨fs, hfs, hfl⟩ := hu
  obtain ⟨xs, n, rfl, rfl, hlen, hxl, hf⟩ := DataW.trod_struct hfs h
  refine ⟨hlen, n, fun i ti oi hi => ?_⟩
  rw [← hfl, List.getElem?_map] at hi
  cases hfi : fs.toList[i]? with
  | none => rw [hfi] at hi; cases hi
  | some f =>
    rw [hfi] at hi
    simp only [Option.map_some, Option.some.injEq, Prod.mk.injEq] at hi
    obtain ⟨rfl, rfl⟩ := hi
    have hfi' : fs[i]? = some f := by simpa using hfi
    have g := hf i f hfi'
    have hil : i < fs.size := (Array.getElem?_eq_some_iff.1 hfi').1
    have hxi : i < xs.length := by rw [hxl]; exact hil
    rw [List.getElem?_eq_getElem hxi] at g
    exact ⟨_, g⟩
/-- A slice of bytes that came in. -/
def InBytes (w : World) (v : Value) (d : List Nat) : Prop := Src w v d ∧ Bytes d
theorem InBytes.fresh {w w' : World} {v : Value} {d : List Nat} (h : InBytes w v d) (hm : Mod Nowhere w w') : InBytes w' v d := ⟨h.1.fresh hm, h.2⟩
set_option maxRecDepth 100000 in
theorem open_row_bytes {H : Type} {enc : TypeId × Value → H} {W : World} {v : Value} {d : DataW H} {p : List MemPlace} (hv : Value.okWide Tryz.prog W .any 0 58 v) (h : DataW.Trod enc Tryz.prog W 0 (fun _ => true) true 58 v d p) : ∃ zs, InBytes W v zs := by
  obtain ⟨a, len, cap, rfl⟩ := okWide_slice Tryz.underlying58 hv
  obtain ⟨fuel, hf⟩ := h
  obtain ⟨v', d', e, h1, h2⟩ := open_src hf
  simp [Value.cells] at e
  subst e
  exact ⟨d', h1, h2⟩
/-- Numbers that came in, with their bounds. -/
def InRowB (w : World) (v : Value) (zs : List Int) : Prop := InRow w v zs ∧ ∀ z ∈ zs, -9223372036854775808 ≤ z ∧ z ≤ 9223372036854775807
set_option maxRecDepth 100000 in
theorem open_row_intb {H : Type} {enc : TypeId × Value → H} {W : World} {v : Value} {d : DataW H} {p : List MemPlace} (hv : Value.okWide Tryz.prog W .any 0 27 v) (h : DataW.Trod enc Tryz.prog W 0 (fun _ => true) true 27 v d p) : ∃ zs, InRowB W v zs := by
  obtain ⟨a, len, cap, rfl⟩ := okWide_slice Tryz.underlying27 hv
  obtain ⟨fuel, hf⟩ := h
  rcases open_ints Tryz.underlying27 Tryz.underlying3 (by kernel_rfl) hf with ⟨hcs, _⟩ | ⟨x, l, c, zs, hcs, _, hl, hm, hz, _, hcell, hwz⟩
  · simp [Value.cells] at hcs
    obtain ⟨rfl, rfl, rfl⟩ := hcs
    exact ⟨[], ⟨none, 0, rfl, by simp, by decide, fun h => by simp at h⟩, fun z hz => (List.not_mem_nil hz).elim⟩
  · simp [Value.cells] at hcs
    obtain ⟨rfl, rfl, rfl⟩ := hcs
    have hz' : zs.length = cap := by simpa using hz
    have hlt : (zs.take len).length = len := by rw [List.length_take]; omega
    refine ⟨zs.take len, ⟨some x, cap, by rw [hlt], by omega, hm, fun h0 => ?_⟩, fun z hz => by
      have := hwz z (List.mem_of_mem_take hz)
      simp only [Lit.wf, Bool.and_eq_true, decide_eq_true_eq] at this
      exact this⟩
    rw [hlt] at h0
    obtain ⟨b, off, spot⟩ := x
    have hc := hcell 0 (by omega)
    have hspot : spot = none := by simpa [Addr.add] using World.cell?_spot hc
    subst hspot
    have hadd : ∀ j, (⟨b, off, none⟩ : Addr).add j = ⟨b, off + j, none⟩ := fun j => by unfold Addr.add; split <;> simp_all
    refine ⟨b, off, rfl, ?_, fun i hi => ?_⟩
    · have := hcell 0 (by omega)
      exact cell_lt' this
    · rw [hlt] at hi
      have := hcell i (by omega)
      rw [hadd] at this
      rw [this]
      simp [List.getD_eq_getElem?_getD, List.getElem?_take, hi]
/-- A call of a vault that came in by value. -/
structure InOp (w : World) (x : Vop) : Prop where
  src : Src w x.dv x.d
  bytes : Bytes x.d
  lo : -9223372036854775808 ≤ x.id
  hi : x.id ≤ 9223372036854775807
theorem InOp.fresh {w w' : World} {x : Vop} (h : InOp w x) (hm : Mod Nowhere w w') : InOp w' x := ⟨h.src.fresh hm, h.bytes, h.lo, h.hi⟩
set_option maxRecDepth 100000 in
theorem open_row_op {H : Type} {enc : TypeId × Value → H} {W : World} {v : Value} {d : DataW H} {p : List MemPlace} (hv : Value.okWide Tryz.prog W .any 0 60 v) (h : DataW.Trod enc Tryz.prog W 0 (fun _ => true) true 60 v d p) : ∃ z : Vop, v = .agg #[.int .i64 z.op, .int .i64 z.id, z.dv] ∧ InOp W z := by
  have hu : ∃ fs, Tryz.prog.underlying 60 = some (.struct fs) := by
    have := fields_op
    cases hh : Tryz.prog.underlying 60 with
    | none => rw [hh] at this; cases this
    | some d =>
      rw [hh] at this
      cases d <;> simp at this
      exact ⟨_, rfl⟩
  obtain ⟨fs, hfs⟩ := hu
  obtain ⟨cs, rfl, hcs⟩ := okWide_struct hfs hv
  obtain ⟨fuel, hf⟩ := h
  obtain ⟨hlen, n, hfl⟩ := open_struct (l := [(3, 0), (3, 1), (58, 2)]) (by kernel_rfl) (by decide) hf
  obtain ⟨y0, g0⟩ := hfl 0 _ _ rfl
  obtain ⟨y1, g1⟩ := hfl 1 _ _ rfl
  obtain ⟨y2, g2⟩ := hfl 2 _ _ rfl
  have e1 : Tryz.prog.cellsOf 3 = 1 := by kernel_rfl
  have e2 : Tryz.prog.cellsOf 58 = 1 := by kernel_rfl
  have e3 : Tryz.prog.cellsOf 60 = 3 := by kernel_rfl
  rw [e1] at g0 g1
  rw [e2] at g2
  rw [e3] at hcs
  obtain ⟨l⟩ := cs
  match l, hcs with
  | [v0, v1, v2], _ =>
    simp only [Value.cells, List.drop_zero, List.take_succ_cons, List.take_zero, List.drop_succ_cons] at g0 g1 g2
    obtain ⟨n0, q0, _, w0⟩ := DataW.trod_int Tryz.underlying3 g0
    obtain ⟨n1, q1, _, w1⟩ := DataW.trod_int Tryz.underlying3 g1
    obtain ⟨dv, d, q2, hs, hb⟩ := open_src g2
    simp only [List.cons.injEq, and_true] at q0 q1 q2
    subst q0 q1 q2
    simp only [Lit.wf, Bool.and_eq_true, decide_eq_true_eq] at w1
    exact ⟨⟨n0, n1, v2, d⟩, rfl, hs, hb, w1.1, w1.2⟩
end Go.Proofs.YtikkodanpbmmkaaGreat
