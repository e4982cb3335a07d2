/-
  The registry: Check of the program.
-/
import Derived.Test.YthmahbfmfpjjcaaGreatG69
import Derived.Test.YthmahbfmfpjjcaaGreatG71
import Derived.Test.YthmahbfmfpjjcaaGreatG64
import Derived.Test.YthmahbfmfpjjcaaGreatG36
set_option linter.unusedVariables false
set_option linter.unusedSimpArgs false
namespace Go.Proofs.YthmahbfmfpjjcaaGreat
open Go.RowKit
open Jn Vn Rg
attribute [local go_sem] Oper.semAt_some

set_option maxRecDepth 100000 in
set_option maxHeartbeats 1000000 in
theorem gCheck_ok {w : World} {u v : Value} {e : REn} (h : InE w u v e) (h1 : -9223372036854775808 ≤ e.pr) (h2 : e.pr ≤ 9223372036854775807) :
    Calls Tryz.prog 11 #[.agg (eCells u v e).toArray] w fun r w' => r = .returned (errno (if pValid e = true then 0 else 1 : Nat)) ∧ Mod Nowhere w w' := by
  have hm := m1 w (eCells u v e) 24
  have hV := eValid_ok (h.fresh hm) h1 h2
  obtain ⟨ua, uc, rfl, -⟩ := h.sa
  obtain ⟨va, vc, rfl, -⟩ := h.sd
  clear h h1 h2
  generalize pValid e = p at *
  obtain ⟨k, st, bf, pr, pk, ob, aid, dom⟩ := e
  unfold eCells at *
  dsimp only at *
  generalize aid.length = n1 at *
  generalize dom.length = n2 at *
  replace hm := Lib.hid hm
  replace hV := Lib.hid hV
  cases p
  · go_enter Tryz.func11, Tryz.ntmps11
    go_wp2_with fail
    refine hV.out.mono ?_
    rintro r w1 ⟨rfl, hm1⟩
    have hfin := hm.out.trans hm1
    replace hfin := Lib.hid hfin
    replace hm1 := Lib.hid hm1
    go_wp2
    go_ret
    exact ⟨rfl, hfin.out⟩
  · go_enter Tryz.func11, Tryz.ntmps11
    go_wp2_with fail
    refine hV.out.mono ?_
    rintro r w1 ⟨rfl, hm1⟩
    have hfin := hm.out.trans hm1
    replace hfin := Lib.hid hfin
    replace hm1 := Lib.hid hm1
    go_wp2
    go_ret
    exact ⟨rfl, hfin.out⟩
end Go.Proofs.YthmahbfmfpjjcaaGreat
/-
  The law RegistryChecks: identifiers that are too long.
-/
namespace Go.Proofs.YthmahbfmfpjjcaaGreat
open Go.RowKit
open Jn Vn Rg
attribute [local go_sem] Oper.semAt_some

set_option maxRecDepth 100000 in
set_option maxHeartbeats 4000000 in
theorem lawChecksL1 {w : World} {a1 a2 a3 a4 : Option Addr} {n1 n2 n3 n4 c1 c2 c3 c4 : Nat} {k1 s1 f1 p1 g1 o1 k2 s2 f2 p2 g2 o2 : Int} (h1 : (n1 : Int) > 100) : Calls Tryz.prog 3 #[.agg #[.slice a1 n1 c1, .int .i64 k1, .int .i64 s1, .int .i64 f1, .int .i64 p1, .slice a2 n2 c2, .int .i64 g1, .int .i64 o1], .agg #[.slice a3 n3 c3, .int .i64 k2, .int .i64 s2, .int .i64 f2, .int .i64 p2, .slice a4 n4 c4, .int .i64 g2, .int .i64 o2]] w fun e w' => e = .returned (.bool true) ∧ Mod Nowhere w w' := by
  have hm0 := m2z w [.slice a1 n1 c1, .int .i64 k1, .int .i64 s1, .int .i64 f1, .int .i64 p1, .slice a2 n2 c2, .int .i64 g1, .int .i64 o1] [.slice a3 n3 c3, .int .i64 k2, .int .i64 s2, .int .i64 f2, .int .i64 p2, .slice a4 n4 c4, .int .i64 g2, .int .i64 o2] 24 24
  have hWk := fun W => works_ok W
  have j1 : 100 < n1 := by omega
  replace hWk := Lib.hid hWk
  replace hm0 := Lib.hid hm0
  go_enter Tryz.func3, Tryz.ntmps3
  go_wp2_with fail

  refine (hWk.out _).mono ?_
  rintro e w9 ⟨rfl, hm9⟩
  go_wp2
  go_ret
  exact ⟨rfl, hm0.out.trans hm9⟩
set_option maxRecDepth 100000 in
set_option maxHeartbeats 4000000 in
theorem lawChecksL2 {w : World} {a1 a2 a3 a4 : Option Addr} {n1 n2 n3 n4 c1 c2 c3 c4 : Nat} {k1 s1 f1 p1 g1 o1 k2 s2 f2 p2 g2 o2 : Int} (h1 : ¬ (n1 : Int) > 100) (h2 : (n2 : Int) > 100) : Calls Tryz.prog 3 #[.agg #[.slice a1 n1 c1, .int .i64 k1, .int .i64 s1, .int .i64 f1, .int .i64 p1, .slice a2 n2 c2, .int .i64 g1, .int .i64 o1], .agg #[.slice a3 n3 c3, .int .i64 k2, .int .i64 s2, .int .i64 f2, .int .i64 p2, .slice a4 n4 c4, .int .i64 g2, .int .i64 o2]] w fun e w' => e = .returned (.bool true) ∧ Mod Nowhere w w' := by
  have hm0 := m2z w [.slice a1 n1 c1, .int .i64 k1, .int .i64 s1, .int .i64 f1, .int .i64 p1, .slice a2 n2 c2, .int .i64 g1, .int .i64 o1] [.slice a3 n3 c3, .int .i64 k2, .int .i64 s2, .int .i64 f2, .int .i64 p2, .slice a4 n4 c4, .int .i64 g2, .int .i64 o2] 24 24
  have hWk := fun W => works_ok W
  have j1 : ¬ 100 < n1 := by omega
  have j2 : 100 < n2 := by omega
  replace hWk := Lib.hid hWk
  replace hm0 := Lib.hid hm0
  go_enter Tryz.func3, Tryz.ntmps3
  go_wp2_with fail

  refine (hWk.out _).mono ?_
  rintro e w9 ⟨rfl, hm9⟩
  go_wp2
  go_ret
  exact ⟨rfl, hm0.out.trans hm9⟩
set_option maxRecDepth 100000 in
set_option maxHeartbeats 4000000 in
theorem lawChecksL3 {w : World} {a1 a2 a3 a4 : Option Addr} {n1 n2 n3 n4 c1 c2 c3 c4 : Nat} {k1 s1 f1 p1 g1 o1 k2 s2 f2 p2 g2 o2 : Int} (h1 : ¬ (n1 : Int) > 100) (h2 : ¬ (n2 : Int) > 100) (h3 : (n3 : Int) > 100) : Calls Tryz.prog 3 #[.agg #[.slice a1 n1 c1, .int .i64 k1, .int .i64 s1, .int .i64 f1, .int .i64 p1, .slice a2 n2 c2, .int .i64 g1, .int .i64 o1], .agg #[.slice a3 n3 c3, .int .i64 k2, .int .i64 s2, .int .i64 f2, .int .i64 p2, .slice a4 n4 c4, .int .i64 g2, .int .i64 o2]] w fun e w' => e = .returned (.bool true) ∧ Mod Nowhere w w' := by
  have hm0 := m2z w [.slice a1 n1 c1, .int .i64 k1, .int .i64 s1, .int .i64 f1, .int .i64 p1, .slice a2 n2 c2, .int .i64 g1, .int .i64 o1] [.slice a3 n3 c3, .int .i64 k2, .int .i64 s2, .int .i64 f2, .int .i64 p2, .slice a4 n4 c4, .int .i64 g2, .int .i64 o2] 24 24
  have hWk := fun W => works_ok W
  have j1 : ¬ 100 < n1 := by omega
  have j2 : ¬ 100 < n2 := by omega
  have j3 : 100 < n3 := by omega
  replace hWk := Lib.hid hWk
  replace hm0 := Lib.hid hm0
  go_enter Tryz.func3, Tryz.ntmps3
  go_wp2_with fail

  refine (hWk.out _).mono ?_
  rintro e w9 ⟨rfl, hm9⟩
  go_wp2
  go_ret
  exact ⟨rfl, hm0.out.trans hm9⟩
set_option maxRecDepth 100000 in
set_option maxHeartbeats 4000000 in
theorem lawChecksL4 {w : World} {a1 a2 a3 a4 : Option Addr} {n1 n2 n3 n4 c1 c2 c3 c4 : Nat} {k1 s1 f1 p1 g1 o1 k2 s2 f2 p2 g2 o2 : Int} (h1 : ¬ (n1 : Int) > 100) (h2 : ¬ (n2 : Int) > 100) (h3 : ¬ (n3 : Int) > 100) (h4 : (n4 : Int) > 100) : Calls Tryz.prog 3 #[.agg #[.slice a1 n1 c1, .int .i64 k1, .int .i64 s1, .int .i64 f1, .int .i64 p1, .slice a2 n2 c2, .int .i64 g1, .int .i64 o1], .agg #[.slice a3 n3 c3, .int .i64 k2, .int .i64 s2, .int .i64 f2, .int .i64 p2, .slice a4 n4 c4, .int .i64 g2, .int .i64 o2]] w fun e w' => e = .returned (.bool true) ∧ Mod Nowhere w w' := by
  have hm0 := m2z w [.slice a1 n1 c1, .int .i64 k1, .int .i64 s1, .int .i64 f1, .int .i64 p1, .slice a2 n2 c2, .int .i64 g1, .int .i64 o1] [.slice a3 n3 c3, .int .i64 k2, .int .i64 s2, .int .i64 f2, .int .i64 p2, .slice a4 n4 c4, .int .i64 g2, .int .i64 o2] 24 24
  have hWk := fun W => works_ok W
  have j1 : ¬ 100 < n1 := by omega
  have j2 : ¬ 100 < n2 := by omega
  have j3 : ¬ 100 < n3 := by omega
  have j4 : 100 < n4 := by omega
  replace hWk := Lib.hid hWk
  replace hm0 := Lib.hid hm0
  go_enter Tryz.func3, Tryz.ntmps3
  go_wp2_with fail

  refine (hWk.out _).mono ?_
  rintro e w9 ⟨rfl, hm9⟩
  go_wp2
  go_ret
  exact ⟨rfl, hm0.out.trans hm9⟩
end Go.Proofs.YthmahbfmfpjjcaaGreat
/-
  Entries of the registry that came in.
-/
namespace Go.Proofs.YthmahbfmfpjjcaaGreat
open Go.RowKit Go.ChangeShapes Go.WideShapes Go.ChangeAt
open Jn Vn Rg

def I64 (x : Int) : Prop := -9223372036854775808 ≤ x ∧ x ≤ 9223372036854775807
/-- An entry, as it came in. -/
structure EntI where
  u : Value
  v : Value
  e : REn
def EntI.cells (x : EntI) : List Value := eCells x.u x.v x.e
structure EntIn (w : World) (x : EntI) : Prop where
  inE : InE w x.u x.v x.e
  n1 : I64 x.e.kind
  n2 : I64 x.e.st
  n3 : I64 x.e.bf
  n4 : I64 x.e.pr
  n5 : I64 x.e.pk
  n6 : I64 x.e.ob
theorem EntIn.fresh {w w' : World} {x : EntI} (h : EntIn w x) (hm : Mod Nowhere w w') : EntIn w' x := { h with inE := h.inE.fresh hm }
theorem wfI64 {n : Int} (h : (Lit.int .i64 n).wf = true) : I64 n := by
  simp only [Lit.wf, Bool.and_eq_true, decide_eq_true_eq] at h
  exact h
set_option maxRecDepth 100000 in
theorem open_entry {H : Type} {enc : TypeId × Value → H} {W : World} {fuel : Nat} {cs : List Value} {x : DataW H × List MemPlace} (h : DataW.trod enc Tryz.prog W 0 (fun _ => true) true fuel 24 cs = some x) : ∃ z : EntI, cs = z.cells ∧ EntIn W z := by
  obtain ⟨hlen, n, hfl⟩ := open_struct (l := [(22, 0), (3, 1), (3, 2), (3, 3), (3, 4), (22, 5), (3, 6), (3, 7)]) (by kernel_rfl) (by decide) h
  obtain ⟨y0, g0⟩ := hfl 0 _ _ rfl
  obtain ⟨y1, g1⟩ := hfl 1 _ _ rfl
  obtain ⟨y2, g2⟩ := hfl 2 _ _ rfl
  obtain ⟨y3, g3⟩ := hfl 3 _ _ rfl
  obtain ⟨y4, g4⟩ := hfl 4 _ _ rfl
  obtain ⟨y5, g5⟩ := hfl 5 _ _ rfl
  obtain ⟨y6, g6⟩ := hfl 6 _ _ rfl
  obtain ⟨y7, g7⟩ := hfl 7 _ _ rfl
  have e1 : Tryz.prog.cellsOf 3 = 1 := by kernel_rfl
  have e2 : Tryz.prog.cellsOf 22 = 1 := by kernel_rfl
  have e3 : Tryz.prog.cellsOf 24 = 8 := by kernel_rfl
  rw [e1] at g1 g2 g3 g4 g6 g7
  rw [e2] at g0 g5
  rw [e3] at hlen
  match cs, hlen with
  | [v0, v1, v2, v3, v4, v5, v6, v7], _ =>
    simp only [List.drop_zero, List.take_succ_cons, List.take_zero, List.drop_succ_cons] at g0 g1 g2 g3 g4 g5 g6 g7
    obtain ⟨n1, q1, _, w1⟩ := DataW.trod_int Tryz.underlying3 g1
    obtain ⟨n2, q2, _, w2⟩ := DataW.trod_int Tryz.underlying3 g2
    obtain ⟨n3, q3, _, w3⟩ := DataW.trod_int Tryz.underlying3 g3
    obtain ⟨n4, q4, _, w4⟩ := DataW.trod_int Tryz.underlying3 g4
    obtain ⟨n6, q6, _, w6⟩ := DataW.trod_int Tryz.underlying3 g6
    obtain ⟨n7, q7, _, w7⟩ := DataW.trod_int Tryz.underlying3 g7
    obtain ⟨a0, d0, q0, s0, b0⟩ := open_src g0
    obtain ⟨a5, d5, q5, s5, b5⟩ := open_src g5
    simp only [List.cons.injEq, and_true] at q0 q1 q2 q3 q4 q5 q6 q7
    subst q0 q1 q2 q3 q4 q5 q6 q7
    exact ⟨⟨v0, v5, ⟨n1, n2, n3, n4, n6, n7, d0, d5⟩⟩, rfl, ⟨⟨s0, s5, b0, b5⟩, wfI64 w1, wfI64 w2, wfI64 w3, wfI64 w4, wfI64 w6, wfI64 w7⟩⟩
set_option maxRecDepth 100000 in
theorem open_row_entry {H : Type} {enc : TypeId × Value → H} {W : World} {v : Value} {d : DataW H} {p : List MemPlace} (hv : Value.okWide Tryz.prog W .any 0 24 v) (h : DataW.Trod enc Tryz.prog W 0 (fun _ => true) true 24 v d p) : ∃ z : EntI, v = .agg z.cells.toArray ∧ EntIn W z := by
  have hu : ∃ fs, Tryz.prog.underlying 24 = some (.struct fs) := by
    have : (Tryz.prog.underlying 24).map (fun x => match x with | .struct fs => fs.size | _ => 0) = some 8 := by kernel_rfl
    cases hh : Tryz.prog.underlying 24 with
    | none => rw [hh] at this; cases this
    | some d =>
      rw [hh] at this
      cases d <;> simp at this
      exact ⟨_, rfl⟩
  obtain ⟨fs, hfs⟩ := hu
  obtain ⟨cs, rfl, hcs⟩ := okWide_struct hfs hv
  obtain ⟨fuel, hf⟩ := h
  obtain ⟨z, e, hz⟩ := open_entry hf
  refine ⟨z, ?_, hz⟩
  obtain ⟨l⟩ := cs
  simp only [Value.cells] at e
  rw [e]
end Go.Proofs.YthmahbfmfpjjcaaGreat
