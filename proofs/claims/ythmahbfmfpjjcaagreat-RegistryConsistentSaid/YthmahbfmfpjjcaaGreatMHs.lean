/-
  The law's few.
-/
import Derived.Test.YthmahbfmfpjjcaaGreatMIno
set_option linter.unusedVariables false
set_option linter.unusedSimpArgs false
set_option maxRecDepth 100000
namespace Go.Proofs.YthmahbfmfpjjcaaGreat
open Go.RowKit
open Jn Vn Rg
attribute [local go_sem] Oper.semAt_some
def fewOp (x : OpI) : Bool := decide (x.e.aid.length ≤ 40) && decide (x.e.dom.length ≤ 40) && decide (x.aid.length ≤ 40) && decide (x.dom.length ≤ 40)
def fewB (l : List OpI) : Bool := decide (l.length ≤ 60) && l.all fewOp
theorem fewB_len {l : List OpI} (h : fewB l = true) : l.length ≤ 60 := by unfold fewB at h; simp at h; exact h.1
set_option maxHeartbeats 4000000 in
theorem few26_ok {w : World} {v : Value} {l : List OpI} (h : InROps w v l) : Calls Tryz.prog 25 #[v] w fun e w' => e = .returned (.bool (fewB l)) ∧ w' = w := by
 obtain ⟨va, vc, rfl, h1, h2⟩ := h.gen;by_cases hl : l.length ≤ 60
 ·have hb : ¬ (l.length : Int) > 60 := by omega
  have hb' : ¬ 60 < l.length := by omega
  have hfe : fewB l = l.all fewOp := by unfold fewB; rw [decide_eq_true hl]; rfl
  rw [hfe];clear hfe;replace h := Lib.hid h;go_enter Tryz.func25, Tryz.ntmps25;go_wp2
  go_loopw [3] (fun i wr => ∃ k : Nat, k ≤ l.length ∧ i = .int .i64 k ∧ (l.take k).all fewOp = true ∧ wr = w) (fun i _ => l.length - (intOf i).toNat)
  case atStart => exact ⟨0, by omega, rfl, rfl, rfl⟩
  case round =>
   obtain ⟨k, hk, rfl, hno, rfl⟩ := hrel;by_cases hlt : k < l.length
   ·obtain ⟨b, off, cap', e0, _, _, hx⟩ := h.out.at_ hlt
    obtain ⟨rfl, rfl⟩ : va = some ⟨b, off, none⟩ ∧ vc = cap' := by
     simp at e0; exact ⟨e0.1, e0.2⟩
    obtain ⟨a1, d1, e1, -⟩ := hx.at_.inE.sa;obtain ⟨a2, d2, e2, -⟩ := hx.at_.inE.sd;obtain ⟨a3, d3, e3, -⟩ := hx.at_.sa;obtain ⟨a4, d4, e4, -⟩ := hx.at_.sd;have c1 : wr.cell? ⟨b, off + k * 12 + 1, none⟩ = some l[k].u := hx.cell 1 (by omega);have c2 : wr.cell? ⟨b, off + k * 12 + 1 + 5, none⟩ = some l[k].v := hx.cell 6 (by omega);have c3 : wr.cell? ⟨b, off + k * 12 + 9, none⟩ = some l[k].t := hx.cell 9 (by omega);have c4 : wr.cell? ⟨b, off + k * 12 + 10, none⟩ = some l[k].d := hx.cell 10 (by omega);have hbl := hx.lt;have hall : (l.take (k + 1)).all fewOp = fewOp l[k] := by rw [List.take_succ_eq_append_getElem hlt, List.all_append, hno]; simp
    have hany : fewOp l[k] = false → l.all fewOp = false := fun hp => List.all_eq_false.2 ⟨l[k], List.getElem_mem hlt, by rw [hp]; decide⟩;have hop : fewOp l[k] = (decide (l[k].e.aid.length ≤ 40) && decide (l[k].e.dom.length ≤ 40) && decide (l[k].aid.length ≤ 40) && decide (l[k].dom.length ≤ 40)) := rfl;rw [e1] at c1;rw [e2] at c2;rw [e3] at c3;rw [e4] at c4;clear hx e1 e2 e3 e4;generalize l[k].e.aid.length = n1 at *;generalize l[k].e.dom.length = n2 at *;generalize l[k].aid.length = n3 at *;generalize l[k].dom.length = n4 at *;have hki : (k : Int) < (l.length : Int) := by omega
    refine hid4 ?_ hno hall hany hop; clear hno hall hany hop; intro hno hall hany hop;by_cases q1 : n1 > 40
    ·have r1 : (n1 : Int) > 40 := by omega
     have hfin := hany.out (by rw [hop.out, decide_eq_false (by omega : ¬ n1 ≤ 40)]; simp);replace hfin := Lib.hid hfin;go_wp2;go_ret;exact ⟨ret_bool hfin.out.symm, rfl⟩
    have r1 : ¬ (n1 : Int) > 40 := by omega
    by_cases q2 : n2 > 40
    ·have r2 : (n2 : Int) > 40 := by omega
     have hfin := hany.out (by rw [hop.out, decide_eq_false (by omega : ¬ n2 ≤ 40)]; simp);replace hfin := Lib.hid hfin;go_wp2;go_ret;exact ⟨ret_bool hfin.out.symm, rfl⟩
    have r2 : ¬ (n2 : Int) > 40 := by omega
    by_cases q3 : n3 > 40
    ·have r3 : (n3 : Int) > 40 := by omega
     have hfin := hany.out (by rw [hop.out, decide_eq_false (by omega : ¬ n3 ≤ 40)]; simp);replace hfin := Lib.hid hfin;go_wp2;go_ret;exact ⟨ret_bool hfin.out.symm, rfl⟩
    have r3 : ¬ (n3 : Int) > 40 := by omega
    by_cases q4 : n4 > 40
    ·have r4 : (n4 : Int) > 40 := by omega
     have hfin := hany.out (by rw [hop.out, decide_eq_false (by omega : ¬ n4 ≤ 40)]; simp);replace hfin := Lib.hid hfin;go_wp2;go_ret;exact ⟨ret_bool hfin.out.symm, rfl⟩
    have r4 : ¬ (n4 : Int) > 40 := by omega
    have hfin := hop.out;rw [decide_eq_true (by omega : n1 ≤ 40), decide_eq_true (by omega : n2 ≤ 40), decide_eq_true (by omega : n3 ≤ 40), decide_eq_true (by omega : n4 ≤ 40)] at hfin;replace hfin := Lib.hid hfin;go_wp2;go_roundw
    case rel => exact ⟨k + 1, by omega, by go_num, by rw [hall.out]; exact hfin.out, by first | rfl | trivial⟩
    case measure => simp [intOf]; omega
   ·have hki : ¬ (k : Int) < (l.length : Int) := by omega
    have hke : l.all fewOp = true := by
     have : k = l.length := by omega
     rw [this, List.take_length] at hno;exact hno
    refine hid2 ?_ hno hke; clear hno hke; intro hno hke;go_wp2;go_ret;exact ⟨ret_bool hke.out.symm, rfl⟩
 ·have hb : (l.length : Int) > 60 := by omega
  have hb' : 60 < l.length := by omega
  have hfe : fewB l = false := by unfold fewB; rw [decide_eq_false hl]; rfl
  rw [hfe];clear hfe;replace h := Lib.hid h;go_enter Tryz.func25, Tryz.ntmps25;go_wp2;go_ret;exact ⟨rfl, rfl⟩
end Go.Proofs.YthmahbfmfpjjcaaGreat
