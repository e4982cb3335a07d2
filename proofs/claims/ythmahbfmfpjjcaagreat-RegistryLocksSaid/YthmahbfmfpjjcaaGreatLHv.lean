/-
  The registry, in plain numbers: what RegistryLocks asks.
-/
import Derived.Test.YthmahbfmfpjjcaaGreatLG61
set_option linter.unusedVariables false
set_option linter.unusedSimpArgs false
namespace Go.Proofs.YthmahbfmfpjjcaaGreat
open Go.RowKit
open Jn Vn
namespace Rg
theorem find_repl {l : List En} {a : List Nat} {e e' : En} (h : rFind l a = some e) (ea : e'.aid = e.aid) : rFind (repl l e') a = some e' := by
 unfold rFind repl at *
 have hp : (isAid a ∘ fun x => if x.aid = e'.aid then e' else x) = isAid a := by
  funext x
  show isAid a (if x.aid = e'.aid then e' else x) = isAid a x
  unfold isAid
  split
  ·rename_i hx; rw [hx]
  ·rfl
 rw [List.find?_map, hp, h]
 show some (if e.aid = e'.aid then e' else e) = some e'
 rw [if_pos ea.symm]
theorem change_yes {l : List En} {a : List Nat} {f : En → En × Nat} {e : En} (h : rFind l a = some e) (h0 : (f e).2 = 0) : rChange l a f = (repl l (f e).1, 0) := by
 unfold rChange; rw [h]; dsimp only; rw [if_pos h0]
theorem change_no {l : List En} {a : List Nat} {f : En → En × Nat} {e : En} (h : rFind l a = some e) (h0 : (f e).2 ≠ 0) : rChange l a f = (l, (f e).2) := by
 unfold rChange; rw [h]; dsimp only; rw [if_neg h0]
theorem change_none {l : List En} {a : List Nat} {f : En → En × Nat} (h : rFind l a = none) : rChange l a f = (l, 12) := by
 unfold rChange; rw [h]
theorem lock_plain {l : List En} (hi : RInv l) {a : List Nat} (h0 : (rChange l a (fLock true)).2 = 0) :
  ∃ e e' l', rFind l a = some e ∧ rChange l a (fLock true) = (l', 0) ∧ rFind l' a = some e' ∧ e'.st = 5 ∧ RInv l' ∧ (∀ p b x, rNext l' p b = some x → x.aid ≠ a) ∧ rChange l' a (fState 4) = (l', 14) ∧ ∃ l'', rChange l' a (fLock false) = (l'', 0) ∧ rFind l'' a = some e := by
 cases hf : rFind l a with
 | none => rw [change_none hf] at h0; cases h0
 | some e =>
  have hz : (fLock true e).2 = 0 := by
   by_cases hz : (fLock true e).2 = 0
   ·exact hz
   ·rw [change_no hf hz] at h0; exact h0
  have hl := change_yes hf hz
  have hle : fLock true e = ({ e with st := 5, bf := e.st }, 0) ∧ e.kind ≠ 3 ∧ isIss e = false ∧ e.st ≠ 5 := by
   unfold fLock at hz ⊢;by_cases c1 : e.kind = 3
   ·rw [if_pos c1] at hz; cases hz
   rw [if_neg c1] at hz ⊢;by_cases c2 : isIss e = true ∨ true = decide (e.st = 5)
   ·rw [if_pos c2] at hz; cases hz
   rw [if_neg c2, if_pos rfl];refine ⟨rfl, c1, ?_, fun h5 => c2 (.inr (by simp [h5]))⟩
   cases hq : isIss e with
   | true => exact absurd (.inl hq) c2
   | false => rfl
  obtain ⟨h1, h2, h3, h4⟩ := hle;rw [h1] at hl;obtain ⟨k, st, bf, pr, pk, ob, aid, dom⟩ := e;dsimp only at h1 h2 h3 h4 hl;obtain ⟨e', he'⟩ : ∃ e' : En, e' = ⟨k, 5, st, pr, pk, ob, aid, dom⟩ := ⟨_, rfl⟩;rw [← he'] at hl;have hf' : rFind (repl l e') a = some e' := find_repl hf (by rw [he']);have hi' : RInv (repl l e') := by have := lock_inv hi a true; rw [hl] at this; exact this
  have hm := (find_some hf).1;have hbf : bf = 0 := (hi.ok _ hm).bn h4;refine ⟨_, e', repl l e', rfl, hl, hf', by rw [he'], hi', fun p b x hx => next_locked hf' (by rw [he']; unfold isSel; simp) hx hi', ?_, ?_⟩
  ·have : fState 4 e' = (e', 14) := by unfold fState; rw [if_pos (.inl (by rw [he']))]
   rw [change_no hf' (by rw [this]; show (14 : Nat) ≠ 0; decide), this]
  ·have h6 : fLock false e' = (⟨k, st, bf, pr, pk, ob, aid, dom⟩, 0) := by
    unfold fLock;rw [if_neg (by rw [he']; exact h2), if_neg, if_neg (by decide)]
    ·rw [he', hbf]
    ·rintro (h | h)
     ·have : isIss e' = isIss ⟨k, st, bf, pr, pk, ob, aid, dom⟩ := by rw [he']; rfl
      rw [this, h3] at h; cases h
     ·rw [he'] at h; simp at h
   refine ⟨_, by rw [change_yes hf' (by rw [h6]), h6], ?_⟩;exact find_repl hf' (by rw [he'])
end Rg
end Go.Proofs.YthmahbfmfpjjcaaGreat
