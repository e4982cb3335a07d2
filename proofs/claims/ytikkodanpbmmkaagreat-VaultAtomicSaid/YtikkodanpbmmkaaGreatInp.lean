/-
  What a walk is told of the slices that came in.
-/
import Derived.Test.YtikkodanpbmmkaaGreatG01
set_option linter.unusedVariables false
set_option linter.unusedSimpArgs false
namespace Go.Proofs.YtikkodanpbmmkaaGreat
open Go.RowKit

/-- A slice of integers that came in. -/
def InRow (w : World) (v : Value) (zs : List Int) : Prop :=
  ∃ a cap, v = .slice a zs.length cap ∧ zs.length ≤ cap ∧ cap ≤ maxLen ∧ (0 < zs.length → ∃ b off, a = some ⟨b, off, none⟩ ∧ b < w.heap.size ∧ ∀ i, i < zs.length → w.cell? ⟨b, off + i, none⟩ = some (.int .i64 (zs.getD i 0)))
theorem InRow.fresh {w w' : World} {v : Value} {zs : List Int} (h : InRow w v zs) (hm : Mod Nowhere w w') : InRow w' v zs := by
  obtain ⟨a, cap, e, h1, h2, h3⟩ := h
  refine ⟨a, cap, e, h1, h2, fun h0 => ?_⟩
  obtain ⟨b, off, e1, hb, hc⟩ := h3 h0
  exact ⟨b, off, e1, Nat.lt_of_lt_of_le hb hm.size, fun i hi => (hm.cell (p := ⟨b, off + i, none⟩) hb id).trans (hc i hi)⟩
end Go.Proofs.YtikkodanpbmmkaaGreat
