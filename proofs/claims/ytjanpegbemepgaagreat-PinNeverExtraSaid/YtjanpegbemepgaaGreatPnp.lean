/-
  The law PinNeverExtra, in plain numbers.
-/
import Derived.Test.YtjanpegbemepgaaGreatPax
set_option linter.unusedVariables false
set_option linter.unusedSimpArgs false
namespace Go.Proofs.YtjanpegbemepgaaGreat
open Go.RowKit
open Jn Vn

/-- The law's PIN. -/
def neV : List Nat := [50, 52, 54, 56]
def neD (most : Nat) : PinD := ⟨3, neV, most, 4, 4, [], 0⟩
theorem neD_ok {most : Nat} (h1 : 1 ≤ most) (h15 : most ≤ 15) : POk (neD most) :=
  ⟨show 1 ≤ 3 by decide, show 3 ≤ 8 by decide, h1, h15, show 1 ≤ 4 by decide, show 4 ≤ 16 by decide, show 4 ≤ neV.length by decide, show neV.length ≤ 4 by decide, .inl ⟨rfl, rfl⟩, bytesOf rfl, bytes_nil⟩
/-- Between the calls: c guesses were wrong since the last right one. -/
structure NEp (most : Nat) (s : VSt) (c : Nat) : Prop where
  l : s.l = []
  get : pget s.f 3 = some (neD most)
  tr : c + (ptry s.f 3).1 ≤ most
section
variable {most c c' t u : Nat} {s : VSt}
theorem NEp.view (h : NEp most s c) : view s = s.f := by unfold Vn.view; rw [h.l]; rfl
theorem NEp.touch (h : NEp most s c) : touch s 3 = false := by unfold Vn.touch; rw [h.l]; rfl
theorem NEp.cnt (h : NEp most s c) (ht : c' + t ≤ most) : NEp most (cntS s 3 [t, u]) c' := by
  refine ⟨h.l, ?_, ?_⟩
  · show pget (set1 s.f (24 + 3, some [t, u])) 3 = _
    rw [pget_cnt (by omega) (by omega)]; exact h.get
  · show c' + (ptry (set1 s.f (24 + 3, some [t, u])) 3).1 ≤ most
    rw [ptry_set, if_pos rfl]; exact ht
theorem NEp.idle (h : NEp most s c) : NEp most (vst0 s.f) c := ⟨rfl, h.get, h.tr⟩
theorem NEp.fewer (h : NEp most s c) (hc : c' ≤ c) : NEp most s c' := ⟨h.l, h.get, Nat.le_trans (Nat.add_le_add_right hc _) h.tr⟩
end
/-- Items that are left where the power is cut. -/
structure NEf (most : Nat) (f : Items) (c : Nat) : Prop where
  ne : NEp most (vst0 f) c
  inv : PInvF f
  pairs : Pairs f
theorem NEp.nef {most c : Nat} {s : VSt} (h : NEp most s c) (hp : PSP s) : NEf most s.f c := ⟨h.idle, hp.ps.f, hp.pf⟩
/-- A guess of the law's PIN. -/
theorem ne_guess {Z most c : Nat} {s : VSt} {g : List Nat} (hm1 : 1 ≤ most) (hm15 : most ≤ 15) (h : NEp most s c) (hp : PSP s) (hZ : 1800 ≤ Z / 2) :
    ∃ c', c' ≤ most ∧ NEp most (pVer Z s 3 g).s c' ∧ PSP (pVer Z s 3 g).s ∧
      (((pVer Z s 3 g).e = 17 ∧ c' = c + 1 ∧ (pVer Z s 3 g).left + c' ≤ most ∧ g ≠ neV) ∨ ((pVer Z s 3 g).e = 0 ∧ c' = 0 ∧ g = neV ∧ (pVer Z s 3 g).left = most) ∨ ((pVer Z s 3 g).e = 18 ∧ c' = c)) ∧
      ∀ f, midIn (pVer Z s 3 g) f → NEf most f (if g = neV then 0 else c) := by
  have hd := neD_ok hm1 hm15
  have hv : pVer Z s 3 g = freeG s (neD most) false g := by
    unfold pVer
    rw [show (3 : Int) = ((3 : Nat) : Int) from rfl, atI_nat, h.view, h.get]
    exact pGuard_free hp.ps hd hZ h.touch false g
  rw [hv]
  have htr := h.tr
  have ht15 := hp.ps.view.tries (id := 3) (by omega) (by omega)
  have hsome : (view s (16 + 3)).isSome = true := (pget_some hp.ps.view (by rw [h.view, h.get]; rfl)).1
  have hcnt : ∀ t u, t ≤ 15 → u ≤ 15 → PSP (cntS s 3 [t, u]) := fun t u ht hu => hp.cnt (by omega) (by omega) ht hu h.touch hsome
  unfold freeG
  rw [show (neD most).id = 3 from rfl, h.view] at *
  obtain ⟨t, et⟩ : ∃ t, (ptry s.f 3).1 = t := ⟨_, rfl⟩
  obtain ⟨u, eu⟩ : ∃ u, (ptry s.f 3).2 = u := ⟨_, rfl⟩
  rw [show (pSel false (ptry s.f 3)).1 = t from et, show (pSel false (ptry s.f 3)).2 = u from eu]
  rw [et] at htr ht15
  rw [eu] at ht15
  show ∃ c', c' ≤ most ∧ _
  have hnef : ∀ c', c' ≤ c → NEf most s.f c' := fun c' hc => (h.fewer hc).nef hp
  have hcf : ∀ t' c', t' ≤ 15 → c' + t' ≤ most → NEf most (cntS s 3 [t', u]).f c' := fun t' c' h1 h2 => (h.cnt h2).nef (hcnt t' u h1 ht15.2)
  by_cases h0 : t = 0
  · rw [if_pos h0]
    by_cases ha : s.act = true
    · rw [if_pos ha]
      refine ⟨c, by omega, h.cnt (by omega), hcnt 0 u (by omega) ht15.2, .inr (.inr ⟨rfl, rfl⟩), fun f hf => ?_⟩
      have hf : f = s.f ∨ f = (cntS s 3 [0, u]).f := by simpa [midIn, two] using hf
      rcases hf with rfl | rfl
      · exact hnef _ (by split <;> omega)
      · exact hcf 0 _ (by omega) (by split <;> omega)
    · rw [if_neg ha]
      exact ⟨c, by omega, h, hp, .inr (.inr ⟨rfl, rfl⟩), fun f hf => by simp [midIn] at hf⟩
  · rw [if_neg h0]
    by_cases hg : g = neV
    · rw [show pVal (neD most) false = neV from rfl, if_pos hg]
      refine ⟨0, by omega, h.cnt (t := most) (by omega), hcnt most u hm15 ht15.2, .inr (.inl ⟨rfl, rfl, hg, rfl⟩), fun f hf => ?_⟩
      have hf : f = s.f ∨ f = (cntS s 3 [t - 1, u]).f ∨ f = (cntS s 3 [most, u]).f := by simpa [midIn, two, pLim, neD] using hf
      rw [if_pos hg]
      rcases hf with rfl | rfl | rfl
      · exact hnef _ (by omega)
      · exact hcf _ _ (by omega) (by omega)
      · exact hcf _ _ hm15 (by omega)
    · rw [show pVal (neD most) false = neV from rfl, if_neg hg]
      refine ⟨c + 1, by omega, h.cnt (t := t - 1) (by omega), hcnt (t - 1) u (by omega) ht15.2, .inl ⟨rfl, rfl, by show t - 1 + (c + 1) ≤ most; omega, hg⟩, fun f hf => ?_⟩
      have hf : f = s.f ∨ f = (cntS s 3 [t - 1, u]).f := by simpa [midIn, two] using hf
      rw [if_neg hg]
      rcases hf with rfl | rfl
      · exact hnef _ (Nat.le_refl _)
      · exact hcf _ _ (by omega) (by omega)
/-- The PIN is created. -/
theorem ne_create {Z most : Nat} (hm1 : 1 ≤ most) (hm15 : most ≤ 15) (hZ : 1800 ≤ Z / 2) : pCreate Z (vst0 none_) (neD most) true = (putS (vst0 none_) (neD most) most 0, 0) ∧ NEp most (putS (vst0 none_) (neD most) most 0) 0 ∧ PSP (putS (vst0 none_) (neD most) most 0) := by
  have hd := neD_ok hm1 hm15
  have hp0 : PSP (vst0 none_) := .idle0 .none .none
  have e1 : pget (view (vst0 none_)) (neD most).id = none := rfl
  refine ⟨?_, ⟨rfl, ?_, ?_⟩, hp0.put hd hm15 (by omega)⟩
  · unfold pCreate
    rw [if_pos rfl, e1, if_neg (by decide)]
    exact pPut_is hp0.ps hd hm15 (show 0 ≤ 15 by decide) hZ
  · show pget (view (putS (vst0 none_) (neD most) most 0)) 3 = _
    rw [pget_put hp0.ps hd, if_pos (show 3 = (neD most).id from rfl)]
  · show 0 + (ptry (view (putS (vst0 none_) (neD most) most 0)) 3).1 ≤ most
    rw [ptry_put hp0.ps hd (by omega), if_pos (show 3 = (neD most).id from rfl)]
    show 0 + most ≤ most
    omega
end Go.Proofs.YtjanpegbemepgaaGreat
