/-
  The law RegistryLocks.
-/
import Derived.Test.YthmahbfmfpjjcaaGreatMHs
import Derived.Test.YthmahbfmfpjjcaaGreatMHt
import Derived.Test.YthmahbfmfpjjcaaGreatMHv
import Derived.Test.YthmahbfmfpjjcaaGreatMG71
set_option linter.unusedVariables false
set_option linter.unusedSimpArgs false
namespace Go.Proofs.YthmahbfmfpjjcaaGreat
open Go.RowKit
open Jn Vn Rg
attribute [local go_sem] Oper.semAt_some
theorem FPost.box {W W' : World} {o : Option En} {r : Ending} {re : REn} (hre : rOf o = re) (h : FPost W o r W') : ∃ a1 c1 a2 c2, r = .returned (.tuple #[.agg #[.slice a1 re.aid.length c1, .int .i64 re.kind, .int .i64 re.st, .int .i64 re.bf, .int .i64 re.pr, .slice a2 re.dom.length c2, .int .i64 re.pk, .int .i64 re.ob], .bool o.isSome]) ∧
  Blk (W'.alloc (.cells #[.slice a1 re.aid.length c1, .int .i64 re.kind, .int .i64 re.st, .int .i64 re.bf, .int .i64 re.pr, .slice a2 re.dom.length c2, .int .i64 re.pk, .int .i64 re.ob] 24)) W'.heap.size [.slice a1 re.aid.length c1, .int .i64 re.kind, .int .i64 re.st, .int .i64 re.bf, .int .i64 re.pr, .slice a2 re.dom.length c2, .int .i64 re.pk, .int .i64 re.ob] 24 ∧ DSl (W'.alloc (.cells #[.slice a1 re.aid.length c1, .int .i64 re.kind, .int .i64 re.st, .int .i64 re.bf, .int .i64 re.pr, .slice a2 re.dom.length c2, .int .i64 re.pk, .int .i64 re.ob] 24)) (.slice a1 re.aid.length c1) re.aid ∧ DSl (W'.alloc (.cells #[.slice a1 re.aid.length c1, .int .i64 re.kind, .int .i64 re.st, .int .i64 re.bf, .int .i64 re.pr, .slice a2 re.dom.length c2, .int .i64 re.pk, .int .i64 re.ob] 24)) (.slice a2 re.dom.length c2) re.dom ∧ Mod Nowhere W (W'.alloc (.cells #[.slice a1 re.aid.length c1, .int .i64 re.kind, .int .i64 re.st, .int .i64 re.bf, .int .i64 re.pr, .slice a2 re.dom.length c2, .int .i64 re.pk, .int .i64 re.ob] 24)) := by
 subst hre;obtain ⟨u, v, rfl, d1, d2, hm⟩ := h;obtain ⟨a1, c1, rfl, -⟩ := Sl.len d1;obtain ⟨a2, c2, rfl, -⟩ := Sl.len d2;generalize rOf o = re at *;have hA := m1 W' [.slice a1 re.aid.length c1, .int .i64 re.kind, .int .i64 re.st, .int .i64 re.bf, .int .i64 re.pr, .slice a2 re.dom.length c2, .int .i64 re.pk, .int .i64 re.ob] 24;exact ⟨a1, c1, a2, c2, rfl, Blk.new W' [.slice a1 re.aid.length c1, .int .i64 re.kind, .int .i64 re.st, .int .i64 re.bf, .int .i64 re.pr, .slice a2 re.dom.length c2, .int .i64 re.pk, .int .i64 re.ob] _, d1.fresh hA, d2.fresh hA, hm.trans hA⟩
theorem rRun_step (l : List OpI) {k : Nat} (hk : k < l.length) : (rPlay (rRun mFirst ((l.map OpI.r).take k)) l[k].r).1 = rRun mFirst ((l.map OpI.r).take (k + 1)) := by
 have := rRun_take mFirst (l.map OpI.r) (i := k) (by simpa using hk);rw [this];simp
theorem InROps.ce {w : World} {va : Option Addr} {vc : Nat} {l : List OpI} (h : InROps w (.slice va l.length vc) l) {k : Nat} (hk : k < l.length) : ∃ b off x0 x1 x2 x3 x4 x5 x6 x7 a1 a2 a3 a4 n1 n2 n3 n4 c1 c2 c3 c4, va = some ⟨b, off, none⟩ ∧ l.length ≤ vc ∧ vc ≤ maxLen ∧ l[k].cells = [.int .i64 x0, .slice a1 n1 c1, .int .i64 x1, .int .i64 x2, .int .i64 x3, .int .i64 x4, .slice a2 n2 c2, .int .i64 x5, .int .i64 x6, .slice a3 n3 c3, .slice a4 n4 c4, .int .i64 x7] ∧ ∀ X, Mod Nowhere w X → X.cell? ⟨b, off + k * 12, none⟩ = some (.int .i64 x0) ∧ X.cell? ⟨b, off + k * 12 + 1, none⟩ = some (.slice a1 n1 c1) ∧ X.cell? ⟨b, off + k * 12 + 2, none⟩ = some (.int .i64 x1) ∧ X.cell? ⟨b, off + k * 12 + 3, none⟩ = some (.int .i64 x2) ∧ X.cell? ⟨b, off + k * 12 + 4, none⟩ = some (.int .i64 x3) ∧ X.cell? ⟨b, off + k * 12 + 5, none⟩ = some (.int .i64 x4) ∧ X.cell? ⟨b, off + k * 12 + 6, none⟩ = some (.slice a2 n2 c2) ∧ X.cell? ⟨b, off + k * 12 + 7, none⟩ = some (.int .i64 x5) ∧ X.cell? ⟨b, off + k * 12 + 8, none⟩ = some (.int .i64 x6) ∧ X.cell? ⟨b, off + k * 12 + 9, none⟩ = some (.slice a3 n3 c3) ∧ X.cell? ⟨b, off + k * 12 + 10, none⟩ = some (.slice a4 n4 c4) ∧ X.cell? ⟨b, off + k * 12 + 11, none⟩ = some (.int .i64 x7) ∧ b < X.heap.size := by
 obtain ⟨b, off, cap', e0, g1, g2, hx⟩ := h.at_ hk
 obtain ⟨rfl, rfl⟩ : va = some ⟨b, off, none⟩ ∧ vc = cap' := by
  simp at e0; exact ⟨e0.1, e0.2⟩
 obtain ⟨a1, c1, e1, -⟩ := hx.at_.inE.sa;obtain ⟨a2, c2, e2, -⟩ := hx.at_.inE.sd;obtain ⟨a3, c3, e3, -⟩ := hx.at_.sa;obtain ⟨a4, c4, e4, -⟩ := hx.at_.sd
 have hce : l[k].cells = [.int .i64 l[k].act, .slice a1 l[k].e.aid.length c1, .int .i64 l[k].e.kind, .int .i64 l[k].e.st, .int .i64 l[k].e.bf, .int .i64 l[k].e.pr, .slice a2 l[k].e.dom.length c2, .int .i64 l[k].e.pk, .int .i64 l[k].e.ob, .slice a3 l[k].aid.length c3, .slice a4 l[k].dom.length c4, .int .i64 l[k].sx] := by
  rw [← e1, ← e2, ← e3, ← e4]; rfl
 refine ⟨b, off, _, _, _, _, _, _, _, _, a1, a2, a3, a4, _, _, _, _, c1, c2, c3, c4, rfl, g1, g2, hce, fun X hm => ?_⟩;have hX := hx.fresh hm;have hc : ∀ j, j < 12 → X.cell? ⟨b, off + k * 12 + j, none⟩ = l[k].cells[j]? := hX.cell;rw [hce] at hc;exact ⟨hc 0 (by omega), hc 1 (by omega), hc 2 (by omega), hc 3 (by omega), hc 4 (by omega), hc 5 (by omega), hc 6 (by omega), hc 7 (by omega), hc 8 (by omega), hc 9 (by omega), hc 10 (by omega), hc 11 (by omega), hX.lt⟩
theorem InROps.op {w : World} {v : Value} {l : List OpI} (h : InROps w v l) {k : Nat} (hk : k < l.length) : OpAt w l[k] := by
 obtain ⟨b, off, cap', e0, g1, g2, hx⟩ := h.at_ hk;exact hx.at_
end Go.Proofs.YthmahbfmfpjjcaaGreat
