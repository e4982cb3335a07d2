/-
  The example of the laws of chapter 21.
-/
import Derived.Test.YtjanpegbemepgaaGreatPcd
import Derived.Test.YtjanpegbemepgaaGreatPcr
set_option linter.unusedVariables false
set_option linter.unusedSimpArgs false
namespace Go.Proofs.YtjanpegbemepgaaGreat
open Go.RowKit
open Jn Vn
attribute [local go_sem] Oper.semAt_some

/-! ### In plain numbers -/
def exD : PinD := ⟨1, [49, 50, 51, 52], 3, 4, 8, [57, 57], 2⟩
def exE : PinD := ⟨1, [53, 53, 53, 53], 3, 4, 8, [57, 57], 2⟩
theorem bytesOf {l : List Nat} (h : (l.all fun x => decide (x < 256)) = true) : Bytes l := fun k => by
  by_cases hk : k < l.length
  · rw [List.getD_eq_getElem?_getD, List.getElem?_eq_getElem hk]
    have := List.all_eq_true.1 h l[k] (List.getElem_mem hk)
    simpa using this
  · rw [List.getD_eq_getElem?_getD, List.getElem?_eq_none (by omega)]; decide
theorem exD_ok : POk exD := ⟨by decide, by decide, by decide, by decide, by decide, by decide, by decide, by decide, .inr (by decide), bytesOf rfl, bytesOf rfl⟩
theorem exE_ok : POk exE := ⟨by decide, by decide, by decide, by decide, by decide, by decide, by decide, by decide, .inr (by decide), bytesOf rfl, bytesOf rfl⟩
def ex0 : VSt := vst0 none_
def ex1 : VSt := putS ex0 exD 3 2
def ex2 : VSt := cntS ex1 1 [2, 2]
def ex3 : VSt := putS ex2 exE 3 2
theorem ex0_psp : PSP ex0 := .idle0 .none .none
theorem ex1_psp : PSP ex1 := ex0_psp.put exD_ok (by omega) (by omega)
theorem ex1_get : pget (view ex1) 1 = some exD := by
  rw [ex1, pget_put ex0_psp.ps exD_ok]; rfl
theorem ex1_try : ptry (view ex1) 1 = (3, 2) := by
  rw [ex1, ptry_put ex0_psp.ps exD_ok (by omega)]; rfl
theorem ex2_psp : PSP ex2 := ex1_psp.cnt (by omega) (by omega) (by omega) (by omega) rfl (pget_some ex1_psp.ps.view (by rw [ex1_get]; rfl)).1
theorem ex2_get : pget (view ex2) 1 = some exD := by
  rw [ex2, pget_cntS (by omega) (by omega) rfl, ex1_get]
theorem ex2_try : ptry (view ex2) 1 = (2, 2) := by
  rw [ex2, ptry_cntS rfl]; rfl
theorem ex3_psp : PSP ex3 := ex2_psp.put exE_ok (by omega) (by omega)
theorem ex3_get : pget (view ex3) 1 = some exE := by
  rw [ex3, pget_put ex2_psp.ps exE_ok]; rfl
theorem ex3_try : ptry (view ex3) 1 = (3, 2) := by
  rw [ex3, ptry_put ex2_psp.ps exE_ok (by omega)]; rfl
theorem ex_create {Z : Nat} (hZ : 1800 ≤ Z / 2) : pCreate Z ex0 exD true = (ex1, 0) := by
  unfold pCreate
  rw [if_pos rfl, if_neg (by decide)]
  exact pPut_is ex0_psp.ps exD_ok (by decide) (by decide) hZ
theorem ex_verify {Z : Nat} (hZ : 1800 ≤ Z / 2) : ∃ l, pVer Z ex1 1 [48] = ⟨ex2, 2, 17, l⟩ := by
  unfold pVer
  rw [show (1 : Int) = ((1 : Nat) : Int) from rfl, atI_nat, ex1_get]
  dsimp only
  rw [pGuard_free ex1_psp.ps exD_ok hZ rfl]
  unfold freeG
  rw [show exD.id = 1 from rfl, ex1_try]
  exact ⟨_, rfl⟩
theorem ex_unblock {Z : Nat} (hZ : 1800 ≤ Z / 2) : ∃ l, pUnb Z ex2 1 [57, 57] [53, 53, 53, 53] = ⟨ex3, 3, 0, l⟩ := by
  have e : freeG ex2 exD true [57, 57] = ⟨ex2, 2, 0, [ex2.f, (cntS ex2 1 [2, 1]).f, ex2.f]⟩ := by
    unfold freeG
    rw [show exD.id = 1 from rfl, ex2_try]
    show Guess.mk (cntS ex2 1 [2, 2]) 2 0 [ex2.f, (cntS ex2 1 [2, 1]).f, (cntS ex2 1 [2, 2]).f] = _
    rw [show cntS ex2 1 [2, 2] = ex2 from cntS_cntS _ _ _ _]
  have e2 : pRepl Z ex2 exD [53, 53, 53, 53] = (ex3, 0) := by
    rw [pRepl_is ex2_psp.ps exD_ok exE_ok hZ, show exD.id = 1 from rfl, ex2_try]; rfl
  unfold pUnb
  rw [show (1 : Int) = ((1 : Nat) : Int) from rfl, atI_nat, ex2_get]
  dsimp only
  rw [if_neg (by decide), if_pos (by decide), pGuard_free ex2_psp.ps exD_ok hZ rfl, e]
  unfold pThen
  rw [if_pos rfl]
  dsimp only
  rw [e2]
  exact ⟨_, rfl⟩
theorem ex_info : infoRes (view ex3) 1 = .tuple #[.agg #[.int .i64 1, .int .i64 3, .int .i64 2, .int .i64 3], .bool true] := by
  unfold infoRes
  rw [show (1 : Int) = ((1 : Nat) : Int) from rfl, atI_nat, ex3_get]
  dsimp only
  rw [show exE.id = 1 from rfl, ex3_try]
  rfl
/-- A block of bytes as a source. -/
theorem srcB {w : World} {A : VAt} {m : Mem} {s : VSt} (h : VRep w A m s) {b : Nat} {d : List Nat} (hb : Blk w b (u8s d) 5) (hl : d.length ≤ 1000) : SrcS A w (.slice (some ⟨b, 0, none⟩) d.length d.length) d :=
  DSl.srcS h (sl_whole hb (by simp [u8s]) (by unfold maxLen; omega))
end Go.Proofs.YtjanpegbemepgaaGreat
