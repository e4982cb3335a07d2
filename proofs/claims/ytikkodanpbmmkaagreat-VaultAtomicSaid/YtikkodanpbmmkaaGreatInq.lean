/-
  Calls of a vault that came in.
-/
import Derived.Test.YtikkodanpbmmkaaGreatPost
import Derived.Test.YtikkodanpbmmkaaGreatInp
import Derived.Test.YtikkodanpbmmkaaGreatG23
import Derived.ChangeArms
import Derived.ChangeSlices
set_option linter.unusedVariables false
set_option linter.unusedSimpArgs false
namespace Go.Proofs.YtikkodanpbmmkaaGreat
open Go.RowKit Go.ChangeShapes Go.WideShapes Go.ChangeAt
open Jn Vn

/-- A call of a vault, and the slice that has its data. -/
structure Vop where
  op : Int
  id : Int
  dv : Value
  d : List Nat
structure VopIn (w : World) (b off : Nat) (x : Vop) : Prop where
  lt : b < w.heap.size
  c0 : w.cell? ⟨b, off, none⟩ = some (.int .i64 x.op)
  c1 : w.cell? ⟨b, off + 1, none⟩ = some (.int .i64 x.id)
  c2 : w.cell? ⟨b, off + 2, none⟩ = some x.dv
  src : Src w x.dv x.d
  bytes : Bytes x.d
  lo : -9223372036854775808 ≤ x.id
  hi : x.id ≤ 9223372036854775807
theorem VopIn.fresh {w w' : World} {b off : Nat} {x : Vop} (h : VopIn w b off x) (hm : Mod Nowhere w w') : VopIn w' b off x :=
  ⟨Nat.lt_of_lt_of_le h.lt hm.size, (hm.cell (p := ⟨b, off, none⟩) h.lt id).trans h.c0, (hm.cell (p := ⟨b, off + 1, none⟩) h.lt id).trans h.c1, (hm.cell (p := ⟨b, off + 2, none⟩) h.lt id).trans h.c2, h.src.fresh hm, h.bytes, h.lo, h.hi⟩
/-- A slice of calls that came in. -/
def InOps (w : World) (v : Value) (l : List Vop) : Prop :=
  ∃ a cap, v = .slice a l.length cap ∧ l.length ≤ cap ∧ cap ≤ maxLen ∧ (0 < l.length → ∃ b off, a = some ⟨b, off, none⟩ ∧ ∀ i (hi : i < l.length), VopIn w b (off + i * 3) l[i])
theorem InOps.fresh {w w' : World} {v : Value} {l : List Vop} (h : InOps w v l) (hm : Mod Nowhere w w') : InOps w' v l := by
  obtain ⟨a, cap, e, h1, h2, h3⟩ := h
  refine ⟨a, cap, e, h1, h2, fun h0 => ?_⟩
  obtain ⟨b, off, e1, hc⟩ := h3 h0
  exact ⟨b, off, e1, fun i hi => (hc i hi).fresh hm⟩
theorem exists_list {α : Type} {p : Nat → α → Prop} : ∀ n, (∀ i, i < n → ∃ x, p i x) → ∃ l : List α, l.length = n ∧ ∀ i (hi : i < l.length), p i l[i]
  | 0, _ => ⟨[], rfl, fun i hi => absurd hi (Nat.not_lt_zero i)⟩
  | n + 1, h => by
    obtain ⟨l, h1, h2⟩ := exists_list n fun i hi => h i (by omega)
    obtain ⟨x, hx⟩ := h n (by omega)
    refine ⟨l ++ [x], by simp [h1], fun i hi => ?_⟩
    by_cases e : i < l.length
    · rw [List.getElem_append_left e]; exact h2 i e
    · have e2 : i = l.length := by simp at hi; omega
      subst e2
      simp only [List.getElem_append_right (Nat.le_refl _), Nat.sub_self, List.getElem_cons_zero]
      rw [h1]; exact hx
theorem addr_add (b off : Nat) (j : Nat) : (⟨b, off, none⟩ : Addr).add j = ⟨b, off + j, none⟩ := add_lit b off j
theorem add_zero_spot {a : Addr} {w : World} {v : Value} (h : w.cell? (a.add 0) = some v) : a.spot = none := by
  obtain ⟨b, off, spot⟩ := a
  simpa [Addr.add] using World.cell?_spot h
theorem add_same {a : Addr} {j : Nat} (h : (a.add j).spot = none) : a.add j = ⟨a.block, a.off + j, none⟩ ∧ (j = 0 → a.spot = none) := by
  obtain ⟨b, off, spot⟩ := a
  by_cases e : j = 0
  · subst e
    simp [Addr.add] at h ⊢
    exact h
  · simp [Addr.add, e]
theorem open_src {H : Type} {enc : TypeId × Value → H} {W : World} {fuel : Nat} {cs : List Value} {x : DataW H × List MemPlace} (h : DataW.trod enc Tryz.prog W 0 (fun _ => true) true fuel 58 cs = some x) : ∃ v d, cs = [v] ∧ Src W v d ∧ Bytes d := by
  rcases open_ints Tryz.underlying58 Tryz.underlying5 (by kernel_rfl) h with ⟨rfl, _⟩ | ⟨x, l, c, zs, rfl, _, hl, hm, hz, _, hcell, hwz⟩
  · exact ⟨_, [], rfl, ⟨none, 0, rfl, by simp, by decide, fun h => by simp at h⟩, fun k => by simp⟩
  · have hz' : zs.length = c := by simpa using hz
    have hlt : (zs.take l).length = l := by rw [List.length_take]; omega
    have hw : ∀ n ∈ zs, 0 ≤ n ∧ n ≤ 255 := fun n hn => by
      have := hwz n hn
      simp only [Lit.wf, Bool.and_eq_true, decide_eq_true_eq] at this
      exact this
    have hg : ∀ i, i < zs.length → 0 ≤ zs.getD i 0 ∧ zs.getD i 0 ≤ 255 := fun i hi => by
      rw [List.getD_eq_getElem?_getD, List.getElem?_eq_getElem hi]
      exact hw _ (List.getElem_mem hi)
    have hgd : ∀ i, i < l → ((zs.take l).map Int.toNat).getD i 0 = (zs.getD i 0).toNat := fun i hi => by
      rw [List.getD_eq_getElem?_getD, List.getElem?_map, List.getElem?_take, if_pos hi, List.getElem?_eq_getElem (by omega), List.getD_eq_getElem?_getD, List.getElem?_eq_getElem (by omega)]; rfl
    refine ⟨_, (zs.take l).map Int.toNat, rfl, ⟨some x, c, by rw [List.length_map, hlt], by rw [List.length_map, hlt]; exact hl, hm, fun h0 => ?_⟩, fun k => ?_⟩
    · rw [List.length_map, hlt] at h0
      obtain ⟨b, off, spot⟩ := x
      have hspot : spot = none := add_zero_spot (hcell 0 (by omega))
      subst hspot
      refine ⟨b, off, rfl, ?_, fun i hi => ?_⟩
      · have := hcell 0 (by omega)
        exact cell_lt' this
      · rw [List.length_map, hlt] at hi
        have h1 := hcell i (by omega)
        have h2 := hg i (by omega)
        rw [addr_add] at h1
        rw [h1, hgd i hi, Int.toNat_of_nonneg h2.1]
    · by_cases hk : k < l
      · rw [hgd k hk]
        have := hg k (by omega)
        omega
      · rw [List.getD_eq_getElem?_getD, List.getElem?_eq_none (by rw [List.length_map, hlt]; omega)]; decide
theorem fields_op : (Tryz.prog.underlying 60).map (fun x => match x with | .struct fs => fs.toList.map (fun f => (f.type, f.offset)) | _ => []) = some [(3, 0), (3, 1), (58, 2)] := by kernel_rfl
set_option maxRecDepth 100000 in
theorem open_vop {H : Type} {enc : TypeId × Value → H} {W : World} {fuel : Nat} {a : Addr} {i : Nat} {y : DataW H × List MemPlace} (h : (W.cells? 0 (a.add (i * 3)) 3).bind (DataW.trod enc Tryz.prog W 0 (fun _ => true) true fuel 60) = some y) :
    (i = 0 → a.spot = none) ∧ ∃ x, VopIn W a.block (a.off + i * 3) x := by
  obtain ⟨cs, hcs, ht⟩ := Option.bind_eq_some_iff.1 h
  have hu : ∃ fs, Tryz.prog.underlying 60 = some (.struct fs) ∧ fs.toList.map (fun f => (f.type, f.offset)) = [(3, 0), (3, 1), (58, 2)] := by
    have := fields_op
    cases hh : Tryz.prog.underlying 60 with
    | none => rw [hh] at this; cases this
    | some d =>
      rw [hh] at this
      cases d <;> simp at this
      exact ⟨_, rfl, by simpa using this⟩
  obtain ⟨fs, hfs, hfl⟩ := hu
  obtain ⟨xs, n, rfl, rfl, hlen, hxl, hf⟩ := DataW.trod_struct hfs ht
  obtain ⟨f0, f1, f2, rfl⟩ : ∃ f0 f1 f2, fs = #[f0, f1, f2] := by
    have h3 : fs.toList.length = 3 := by have := congrArg List.length hfl; simpa using this
    obtain ⟨l⟩ := fs
    match l, h3 with
    | [f0, f1, f2], _ => exact ⟨f0, f1, f2, rfl⟩
  simp only [List.map_cons, List.map_nil, List.cons.injEq, Prod.mk.injEq, and_true] at hfl
  obtain ⟨⟨t0, o0⟩, ⟨t1, o1⟩, t2, o2⟩ := hfl
  have g0 := hf 0 f0 rfl
  have g1 := hf 1 f1 rfl
  have g2 := hf 2 f2 rfl
  rw [t0, o0] at g0
  rw [t1, o1] at g1
  rw [t2, o2] at g2
  obtain ⟨x0, x1, x2, rfl⟩ : ∃ x0 x1 x2, xs = [x0, x1, x2] := by
    match xs, hxl with
    | [x0, x1, x2], _ => exact ⟨x0, x1, x2, rfl⟩
  have hc3 : cs.length = 3 := by rw [hlen]; kernel_rfl
  obtain ⟨v0, v1, v2, rfl⟩ : ∃ v0 v1 v2, cs = [v0, v1, v2] := by
    match cs, hc3 with
    | [v0, v1, v2], _ => exact ⟨v0, v1, v2, rfl⟩
  have e1 : Tryz.prog.cellsOf 3 = 1 := by kernel_rfl
  have e2 : Tryz.prog.cellsOf 58 = 1 := by kernel_rfl
  rw [e1] at g0 g1
  rw [e2] at g2
  simp only [List.drop_zero, List.take_succ_cons, List.take_zero, List.drop_succ_cons, List.getElem?_cons_zero, List.getElem?_cons_succ] at g0 g1 g2
  obtain ⟨n0, q0, _, w0⟩ := DataW.trod_int Tryz.underlying3 g0
  obtain ⟨n1, q1, _, w1⟩ := DataW.trod_int Tryz.underlying3 g1
  obtain ⟨dv, d, q2, hs, hb⟩ := open_src g2
  simp only [List.cons.injEq, and_true] at q0 q1 q2
  subst q0 q1 q2
  have hcell : ∀ j, j < 3 → W.cell? ((a.add (i * 3)).add j) = [Value.int .i64 n0, .int .i64 n1, v2][j]? := fun j hj => by
    unfold World.cells? at hcs
    rw [if_pos (Nat.zero_le _)] at hcs
    have := mapM_some_get hcs j j (by simp [hj])
    rw [← this]
  have k0 := hcell 0 (by omega)
  have k1 := hcell 1 (by omega)
  have k2 := hcell 2 (by omega)
  simp only [List.getElem?_cons_zero, List.getElem?_cons_succ] at k0 k1 k2
  obtain ⟨ha, hz⟩ := add_same (add_zero_spot k0)
  rw [ha, addr_add] at k0 k1 k2
  simp only [Lit.wf, Bool.and_eq_true, decide_eq_true_eq] at w1
  exact ⟨fun e => hz (by omega), ⟨n0, n1, v2, d⟩, ⟨cell_lt' k0, k0, k1, k2, hs, hb, w1.1, w1.2⟩⟩
set_option maxRecDepth 100000 in
theorem open_row_ops {H : Type} {enc : TypeId × Value → H} {W : World} {v : Value} {d : DataW H} {p : List MemPlace} (hv : Value.okWide Tryz.prog W .any 0 49 v) (h : DataW.Trod enc Tryz.prog W 0 (fun _ => true) true 49 v d p) : ∃ l, InOps W v l := by
  obtain ⟨a, len, cap, rfl⟩ := okWide_slice Tryz.underlying49 hv
  obtain ⟨fuel, hf⟩ := h
  rcases DataW.trod_slice Tryz.underlying49 hf with ⟨hcs, _⟩ | ⟨x, l, c, elems, rest, n, _, hcs, _, _, hl, hm, hlen, hel, _, _⟩
  · simp [Value.cells] at hcs
    obtain ⟨rfl, rfl, rfl⟩ := hcs
    exact ⟨[], none, 0, rfl, by simp, by decide, fun h => by simp at h⟩
  · simp [Value.cells] at hcs
    obtain ⟨rfl, rfl, rfl⟩ := hcs
    have e3 : Tryz.prog.cellsOf 60 = 3 := by kernel_rfl
    rw [e3] at hel
    obtain ⟨ops, ho, hp⟩ := exists_list (p := fun i x' => (i = 0 → x.spot = none) ∧ VopIn W x.block (x.off + i * 3) x') len fun i hi => by
      have := hel i hi
      rw [List.getElem?_eq_getElem (by omega)] at this
      obtain ⟨q1, y, q2⟩ := open_vop this
      exact ⟨y, q1, q2⟩
    refine ⟨ops, some x, cap, by rw [ho], by omega, hm, fun h0 => ?_⟩
    obtain ⟨b, off, spot⟩ := x
    have hs : spot = none := (hp 0 h0).1 rfl
    subst hs
    exact ⟨b, off, rfl, fun i hi => (hp i hi).2⟩
end Go.Proofs.YtikkodanpbmmkaaGreat
