/-
  The registry: Check of the reference.
-/
import Derived.Test.YthmahbfmfpjjcaaGreatMG67
import Derived.Test.YthmahbfmfpjjcaaGreatMG71
import Derived.Deep.DeepCutAuto
set_option linter.unusedVariables false
set_option linter.unusedSimpArgs false
set_option maxRecDepth 100000
namespace Go.Proofs.YthmahbfmfpjjcaaGreat
open Go.RowKit
open Jn Vn Rg
attribute [local go_sem] Oper.semAt_some
set_option maxHeartbeats 1000000 in
theorem rIdent_ok (w : World) (a : Option Addr) (n c : Nat) : Calls Tryz.prog 40 #[.slice a n c] w fun e w' => e = .returned (.bool (decide (5 ≤ n) && decide (n ≤ 16))) ∧ w' = w := by
 by_cases h1 : 5 ≤ n
 ·have h1' : (5 : Int) ≤ (n : Int) := by omega
  by_cases h2 : n ≤ 16
  ·have h2' : (n : Int) ≤ 16 := by omega
   go_enter Tryz.func40, Tryz.ntmps40;go_wp2;go_ret;exact ⟨ret_bool (by simp [h1, h2]), rfl⟩
  ·have h2' : ¬ (n : Int) ≤ 16 := by omega
   go_enter Tryz.func40, Tryz.ntmps40;go_wp2;go_ret;exact ⟨ret_bool (by simp [h1, h2]), rfl⟩
 ·have h1' : ¬ (5 : Int) ≤ (n : Int) := by omega
  go_enter Tryz.func40, Tryz.ntmps40;go_wp2;go_ret;exact ⟨ret_bool (by simp [h1]), rfl⟩
theorem Rg.ROk.z {k st bf pr pk ob : Int} {aid dom : List Nat} (h : ROk ⟨k, st, bf, pr, pk, ob, aid, dom⟩) : 1 ≤ k ∧ k ≤ 3 ∧ 5 ≤ aid.length ∧ aid.length ≤ 16 ∧ 5 ≤ dom.length ∧ dom.length ≤ 16 ∧ (k = 3 → st = 1) ∧ (k ≠ 3 → 2 ≤ st ∧ st ≤ 5) ∧ (st = 5 → 2 ≤ bf ∧ bf ≤ 4) ∧ (st ≠ 5 → bf = 0) ∧ 0 ≤ pr ∧ pr ≤ 31 ∧ (k = 3 → pr = 0) ∧ (k = 1 → pk = 0) ∧ (k ≠ 1 → 1 ≤ pk ∧ pk ≤ 16) ∧ (k = 2 → 1 ≤ ob ∧ ob ≤ 512) ∧ (k ≠ 2 → ob = 0) :=
 ⟨h.k1, h.k3, h.a5, h.a16, h.d5, h.d16, h.sp, h.sn, h.bl, h.bn, h.p0, h.p31, h.pp, h.nd, h.nn, h.oa, h.on⟩
structure ChkR (R : Ending → World → Prop) (w : World) (e : REn) : Prop where
 no : ¬ ROk e → ∀ W, Mod Nowhere w W → R (.returned (errno 1)) W
 yes : ROk e → ∀ W, Mod Nowhere w W → R (.returned (errno 0)) W
structure ChkC (w : World) (ua va : Option Addr) (uc vc : Nat) (aid dom : List Nat) (i1 i2 q : Bool) : Prop where
 c1 : ∀ W, Calls Tryz.prog 40 #[.slice ua aid.length uc] W fun e w' => e = .returned (.bool i1) ∧ w' = W
 c2 : ∀ W, Calls Tryz.prog 40 #[.slice va dom.length vc] W fun e w' => e = .returned (.bool i2) ∧ w' = W
 cq : ∀ W, Mod Nowhere w W → Calls Tryz.prog 41 #[.slice ua aid.length uc, .slice va dom.length vc] W fun r w' => r = .returned (.bool q) ∧ Mod Nowhere W w'
 h1 : i1 = true ↔ 5 ≤ aid.length ∧ aid.length ≤ 16
 h2 : i2 = true ↔ 5 ≤ dom.length ∧ dom.length ≤ 16
 hq : q = true ↔ aid = dom
set_option maxHeartbeats 16000000 in
theorem rCheck_15 {w : World} {ua va : Option Addr} {uc vc : Nat} {aid dom : List Nat} {i1 i2 q : Bool} {bf pr pk ob : Int} {R : Ending → World → Prop} (hC : ChkC w ua va uc vc aid dom i1 i2 q) (hR : ChkR R w ⟨1, 5, bf, pr, pk, ob, aid, dom⟩) :
  Calls Tryz.prog 12 #[.agg (eCells (.slice ua aid.length uc) (.slice va dom.length vc) ⟨1, 5, bf, pr, pk, ob, aid, dom⟩).toArray] w R := by
 obtain ⟨hI1, hI2, hS, g1, g2, gq⟩ := hC;obtain ⟨hno, hyes⟩ := hR;unfold eCells;dsimp only;generalize hn : aid.length = n at *;generalize hm : dom.length = m at *;have hm0 := m1 w [.slice ua n uc, .int .i64 1, .int .i64 5, .int .i64 bf, .int .i64 pr, .slice va m vc, .int .i64 pk, .int .i64 ob] 24;have hS0 := hS _ hm0;refine hid11 ?_ hI1 hI2 hS0 g1 g2 gq hno hyes hn hm hm0; clear hI1 hI2 hS0 g1 g2 gq hno hyes hn hm hm0; intro hI1 hI2 hS0 g1 g2 gq hno hyes hn hm hm0;clear hS;go_enter Tryz.func12, Tryz.ntmps12;go_wp2_with fail;refine (hI1.out _).mono ?_;rintro e w1 ⟨rfl, rfl⟩
 cases i1
 ·have hfin := hno.out (fun h => by have zz := h.z; have hn9 := hn.out; have g19 := g1.out; simp only [Bool.false_eq_true, false_iff] at g19; omega) _ hm0.out
  replace hfin := Lib.hid hfin;go_wp2
  all_goals exact hfin.out
 go_wp2_with fail;refine (hI2.out _).mono ?_;rintro e w1 ⟨rfl, rfl⟩
 cases i2
 ·have hfin := hno.out (fun h => by have zz := h.z; have hm9 := hm.out; have g29 := g2.out; simp only [Bool.false_eq_true, false_iff] at g29; omega) _ hm0.out
  replace hfin := Lib.hid hfin;go_wp2
  all_goals exact hfin.out
 go_upto_region 3 with (fail)
 go_upto_region 5 with (fail)
 by_cases e3 : bf < 2
 ·have hfin := hno.out (fun h => by have zz := h.z; omega) _ hm0.out
  replace hfin := Lib.hid hfin;go_wp2
  all_goals exact hfin.out
 by_cases e4 : 4 < bf
 ·have hfin := hno.out (fun h => by have zz := h.z; omega) _ hm0.out
  replace hfin := Lib.hid hfin;go_wp2
  all_goals exact hfin.out
 go_upto_region 7 with (fail)
 by_cases e5 : pr < 0
 ·have hfin := hno.out (fun h => by have zz := h.z; omega) _ hm0.out
  replace hfin := Lib.hid hfin;go_wp2
  all_goals exact hfin.out
 by_cases e6 : 31 < pr
 ·have hfin := hno.out (fun h => by have zz := h.z; omega) _ hm0.out
  replace hfin := Lib.hid hfin;go_wp2
  all_goals exact hfin.out
 go_upto_region 9 with (fail)
 by_cases e7 : pk = 0
 rotate_left
 ·have e7a : (pk != 0) = true := by simp [e7]
  replace e7 := Lib.hid e7;have hfin := hno.out (fun h => by have zz := h.z; have zq := e7.out; omega) _ hm0.out;replace hfin := Lib.hid hfin;go_wp2
  all_goals exact hfin.out
 subst e7
 go_upto_region 11 with (fail)
 by_cases e9 : ob = 0
 rotate_left
 ·have e9a : (ob != 0) = true := by simp [e9]
  replace e9 := Lib.hid e9;have hfin := hno.out (fun h => by have zz := h.z; have zq := e9.out; omega) _ hm0.out;replace hfin := Lib.hid hfin;go_wp2
  all_goals exact hfin.out
 subst e9
 go_upto_region 13 with (fail)
 have hfin := hyes.out (by have g19 := g1.out.1 trivial; have g29 := g2.out.1 trivial; have hn9 := hn.out; have hm9 := hm.out; exact ⟨by show (1 : Int) ≤ 1; omega, by show (1 : Int) ≤ 3; omega, by show 5 ≤ aid.length; omega, by show aid.length ≤ 16; omega, by show 5 ≤ dom.length; omega, by show dom.length ≤ 16; omega, fun z => by dsimp only at z ⊢ <;> omega, fun z => by dsimp only at z ⊢ <;> omega, fun z => by dsimp only at z ⊢ <;> omega, fun z => by dsimp only at z ⊢ <;> omega, by dsimp only <;> omega, by dsimp only <;> omega, fun z => by dsimp only at z ⊢ <;> omega, fun z => by dsimp only at z ⊢ <;> omega, fun z => by dsimp only at z ⊢ <;> omega, fun z => by dsimp only at z ⊢ <;> omega, fun z => by dsimp only at z ⊢ <;> omega, fun z => absurd rfl z⟩) _ hm0.out;replace hfin := Lib.hid hfin
 go_wp2;exact hfin.out
set_option maxHeartbeats 16000000 in
theorem rCheck_1n {w : World} {ua va : Option Addr} {uc vc : Nat} {aid dom : List Nat} {i1 i2 q : Bool} {st bf pr pk ob : Int} {R : Ending → World → Prop} (hC : ChkC w ua va uc vc aid dom i1 i2 q) (hR : ChkR R w ⟨1, st, bf, pr, pk, ob, aid, dom⟩) (hst : ¬ st = 5) :
  Calls Tryz.prog 12 #[.agg (eCells (.slice ua aid.length uc) (.slice va dom.length vc) ⟨1, st, bf, pr, pk, ob, aid, dom⟩).toArray] w R := by
 obtain ⟨hI1, hI2, hS, g1, g2, gq⟩ := hC;obtain ⟨hno, hyes⟩ := hR;unfold eCells;dsimp only;generalize hn : aid.length = n at *;generalize hm : dom.length = m at *;have hm0 := m1 w [.slice ua n uc, .int .i64 1, .int .i64 st, .int .i64 bf, .int .i64 pr, .slice va m vc, .int .i64 pk, .int .i64 ob] 24;have hS0 := hS _ hm0;have s5a : (st == 5) = false := by simp [hst]
 have s5b : (st != 5) = true := by simp [hst]
 refine hid12 ?_ hI1 hI2 hS0 g1 g2 gq hno hyes hn hm hm0 hst; clear hI1 hI2 hS0 g1 g2 gq hno hyes hn hm hm0 hst; intro hI1 hI2 hS0 g1 g2 gq hno hyes hn hm hm0 hst;clear hS;go_enter Tryz.func12, Tryz.ntmps12;go_wp2_with fail;refine (hI1.out _).mono ?_;rintro e w1 ⟨rfl, rfl⟩
 cases i1
 ·have hfin := hno.out (fun h => by have zz := h.z; have hn9 := hn.out; have g19 := g1.out; simp only [Bool.false_eq_true, false_iff] at g19; omega) _ hm0.out
  replace hfin := Lib.hid hfin;go_wp2
  all_goals exact hfin.out
 go_wp2_with fail;refine (hI2.out _).mono ?_;rintro e w1 ⟨rfl, rfl⟩
 cases i2
 ·have hfin := hno.out (fun h => by have zz := h.z; have hm9 := hm.out; have g29 := g2.out; simp only [Bool.false_eq_true, false_iff] at g29; omega) _ hm0.out
  replace hfin := Lib.hid hfin;go_wp2
  all_goals exact hfin.out
 go_upto_region 3 with (fail)
 by_cases e1 : st < 2
 ·have hfin := hno.out (fun h => by have zz := h.z; have hst9 := hst.out; omega) _ hm0.out
  replace hfin := Lib.hid hfin;go_wp2
  all_goals exact hfin.out
 by_cases e2 : 5 < st
 ·have hfin := hno.out (fun h => by have zz := h.z; have hst9 := hst.out; omega) _ hm0.out
  replace hfin := Lib.hid hfin;go_wp2
  all_goals exact hfin.out
 go_upto_region 5 with (fail)
 by_cases e3 : bf = 0
 rotate_left
 ·have e3a : (bf != 0) = true := by simp [e3]
  replace e3 := Lib.hid e3;have hfin := hno.out (fun h => by have zz := h.z; have hst9 := hst.out; have zq := e3.out; omega) _ hm0.out;replace hfin := Lib.hid hfin;go_wp2
  all_goals exact hfin.out
 subst e3
 go_upto_region 7 with (fail)
 by_cases e5 : pr < 0
 ·have hfin := hno.out (fun h => by have zz := h.z; have hst9 := hst.out; omega) _ hm0.out
  replace hfin := Lib.hid hfin;go_wp2
  all_goals exact hfin.out
 by_cases e6 : 31 < pr
 ·have hfin := hno.out (fun h => by have zz := h.z; have hst9 := hst.out; omega) _ hm0.out
  replace hfin := Lib.hid hfin;go_wp2
  all_goals exact hfin.out
 go_upto_region 9 with (fail)
 by_cases e7 : pk = 0
 rotate_left
 ·have e7a : (pk != 0) = true := by simp [e7]
  replace e7 := Lib.hid e7;have hfin := hno.out (fun h => by have zz := h.z; have hst9 := hst.out; have zq := e7.out; omega) _ hm0.out;replace hfin := Lib.hid hfin;go_wp2
  all_goals exact hfin.out
 subst e7
 go_upto_region 11 with (fail)
 by_cases e9 : ob = 0
 rotate_left
 ·have e9a : (ob != 0) = true := by simp [e9]
  replace e9 := Lib.hid e9;have hfin := hno.out (fun h => by have zz := h.z; have hst9 := hst.out; have zq := e9.out; omega) _ hm0.out;replace hfin := Lib.hid hfin;go_wp2
  all_goals exact hfin.out
 subst e9
 go_upto_region 13 with (fail)
 have hfin := hyes.out (by have g19 := g1.out.1 trivial; have g29 := g2.out.1 trivial; have hn9 := hn.out; have hm9 := hm.out; have hst9 := hst.out; exact ⟨by show (1 : Int) ≤ 1; omega, by show (1 : Int) ≤ 3; omega, by show 5 ≤ aid.length; omega, by show aid.length ≤ 16; omega, by show 5 ≤ dom.length; omega, by show dom.length ≤ 16; omega, fun z => by dsimp only at z ⊢ <;> omega, fun z => by dsimp only at z ⊢ <;> omega, fun z => by dsimp only at z ⊢ <;> omega, fun z => by dsimp only at z ⊢ <;> omega, by dsimp only <;> omega, by dsimp only <;> omega, fun z => by dsimp only at z ⊢ <;> omega, fun z => by dsimp only at z ⊢ <;> omega, fun z => by dsimp only at z ⊢ <;> omega, fun z => by dsimp only at z ⊢ <;> omega, fun z => by dsimp only at z ⊢ <;> omega, fun z => absurd rfl z⟩) _ hm0.out;replace hfin := Lib.hid hfin
 go_wp2;exact hfin.out
set_option maxHeartbeats 16000000 in
theorem rCheck_25 {w : World} {ua va : Option Addr} {uc vc : Nat} {aid dom : List Nat} {i1 i2 q : Bool} {bf pr pk ob : Int} {R : Ending → World → Prop} (hC : ChkC w ua va uc vc aid dom i1 i2 q) (hR : ChkR R w ⟨2, 5, bf, pr, pk, ob, aid, dom⟩) :
  Calls Tryz.prog 12 #[.agg (eCells (.slice ua aid.length uc) (.slice va dom.length vc) ⟨2, 5, bf, pr, pk, ob, aid, dom⟩).toArray] w R := by
 obtain ⟨hI1, hI2, hS, g1, g2, gq⟩ := hC;obtain ⟨hno, hyes⟩ := hR;unfold eCells;dsimp only;generalize hn : aid.length = n at *;generalize hm : dom.length = m at *;have hm0 := m1 w [.slice ua n uc, .int .i64 2, .int .i64 5, .int .i64 bf, .int .i64 pr, .slice va m vc, .int .i64 pk, .int .i64 ob] 24;have hS0 := hS _ hm0;refine hid11 ?_ hI1 hI2 hS0 g1 g2 gq hno hyes hn hm hm0; clear hI1 hI2 hS0 g1 g2 gq hno hyes hn hm hm0; intro hI1 hI2 hS0 g1 g2 gq hno hyes hn hm hm0;clear hS;go_enter Tryz.func12, Tryz.ntmps12;go_wp2_with fail;refine (hI1.out _).mono ?_;rintro e w1 ⟨rfl, rfl⟩
 cases i1
 ·have hfin := hno.out (fun h => by have zz := h.z; have hn9 := hn.out; have g19 := g1.out; simp only [Bool.false_eq_true, false_iff] at g19; omega) _ hm0.out
  replace hfin := Lib.hid hfin;go_wp2
  all_goals exact hfin.out
 go_wp2_with fail;refine (hI2.out _).mono ?_;rintro e w1 ⟨rfl, rfl⟩
 cases i2
 ·have hfin := hno.out (fun h => by have zz := h.z; have hm9 := hm.out; have g29 := g2.out; simp only [Bool.false_eq_true, false_iff] at g29; omega) _ hm0.out
  replace hfin := Lib.hid hfin;go_wp2
  all_goals exact hfin.out
 go_upto_region 3 with (fail)
 go_upto_region 5 with (fail)
 by_cases e3 : bf < 2
 ·have hfin := hno.out (fun h => by have zz := h.z; omega) _ hm0.out
  replace hfin := Lib.hid hfin;go_wp2
  all_goals exact hfin.out
 by_cases e4 : 4 < bf
 ·have hfin := hno.out (fun h => by have zz := h.z; omega) _ hm0.out
  replace hfin := Lib.hid hfin;go_wp2
  all_goals exact hfin.out
 go_upto_region 7 with (fail)
 by_cases e5 : pr < 0
 ·have hfin := hno.out (fun h => by have zz := h.z; omega) _ hm0.out
  replace hfin := Lib.hid hfin;go_wp2
  all_goals exact hfin.out
 by_cases e6 : 31 < pr
 ·have hfin := hno.out (fun h => by have zz := h.z; omega) _ hm0.out
  replace hfin := Lib.hid hfin;go_wp2
  all_goals exact hfin.out
 go_upto_region 9 with (fail)
 by_cases e7 : pk < 1
 ·have hfin := hno.out (fun h => by have zz := h.z; omega) _ hm0.out
  replace hfin := Lib.hid hfin;go_wp2
  all_goals exact hfin.out
 by_cases e8 : 16 < pk
 ·have hfin := hno.out (fun h => by have zz := h.z; omega) _ hm0.out
  replace hfin := Lib.hid hfin;go_wp2
  all_goals exact hfin.out
 go_upto_region 11 with (fail)
 by_cases e9 : ob < 1
 ·have hfin := hno.out (fun h => by have zz := h.z; omega) _ hm0.out
  replace hfin := Lib.hid hfin;go_wp2
  all_goals exact hfin.out
 by_cases ea : 512 < ob
 ·have hfin := hno.out (fun h => by have zz := h.z; omega) _ hm0.out
  replace hfin := Lib.hid hfin;go_wp2
  all_goals exact hfin.out
 go_upto_region 13 with (fail)
 go_wp2_with fail;refine (hS0.out).mono ?_;rintro e w1 ⟨rfl, hm1⟩
 cases q
 ·have hfin := hyes.out (by have g19 := g1.out.1 trivial; have g29 := g2.out.1 trivial; have hn9 := hn.out; have hm9 := hm.out; exact ⟨by show (1 : Int) ≤ 2; omega, by show (2 : Int) ≤ 3; omega, by show 5 ≤ aid.length; omega, by show aid.length ≤ 16; omega, by show 5 ≤ dom.length; omega, by show dom.length ≤ 16; omega, fun z => by dsimp only at z ⊢ <;> omega, fun z => by dsimp only at z ⊢ <;> omega, fun z => by dsimp only at z ⊢ <;> omega, fun z => by dsimp only at z ⊢ <;> omega, by dsimp only <;> omega, by dsimp only <;> omega, fun z => by dsimp only at z ⊢ <;> omega, fun z => by dsimp only at z ⊢ <;> omega, fun z => by dsimp only at z ⊢ <;> omega, fun z => by dsimp only at z ⊢ <;> omega, fun z => by dsimp only at z ⊢ <;> omega, fun _ z => by have := gq.out.2 z; cases this⟩) _ (hm0.out.trans hm1)
  refine hid2 ?_ hfin hm1; clear hfin hm1; intro hfin hm1;go_wp2;exact hfin.out
 ·have hfin := hno.out (fun h => h.ne (by show (2 : Int) ≠ 1; decide) (gq.out.1 rfl)) _ (hm0.out.trans hm1)
  refine hid2 ?_ hfin hm1; clear hfin hm1; intro hfin hm1;go_wp2;exact hfin.out
set_option maxHeartbeats 16000000 in
theorem rCheck_2n {w : World} {ua va : Option Addr} {uc vc : Nat} {aid dom : List Nat} {i1 i2 q : Bool} {st bf pr pk ob : Int} {R : Ending → World → Prop} (hC : ChkC w ua va uc vc aid dom i1 i2 q) (hR : ChkR R w ⟨2, st, bf, pr, pk, ob, aid, dom⟩) (hst : ¬ st = 5) :
  Calls Tryz.prog 12 #[.agg (eCells (.slice ua aid.length uc) (.slice va dom.length vc) ⟨2, st, bf, pr, pk, ob, aid, dom⟩).toArray] w R := by
 obtain ⟨hI1, hI2, hS, g1, g2, gq⟩ := hC;obtain ⟨hno, hyes⟩ := hR;unfold eCells;dsimp only;generalize hn : aid.length = n at *;generalize hm : dom.length = m at *;have hm0 := m1 w [.slice ua n uc, .int .i64 2, .int .i64 st, .int .i64 bf, .int .i64 pr, .slice va m vc, .int .i64 pk, .int .i64 ob] 24;have hS0 := hS _ hm0;have s5a : (st == 5) = false := by simp [hst]
 have s5b : (st != 5) = true := by simp [hst]
 refine hid12 ?_ hI1 hI2 hS0 g1 g2 gq hno hyes hn hm hm0 hst; clear hI1 hI2 hS0 g1 g2 gq hno hyes hn hm hm0 hst; intro hI1 hI2 hS0 g1 g2 gq hno hyes hn hm hm0 hst;clear hS;go_enter Tryz.func12, Tryz.ntmps12;go_wp2_with fail;refine (hI1.out _).mono ?_;rintro e w1 ⟨rfl, rfl⟩
 cases i1
 ·have hfin := hno.out (fun h => by have zz := h.z; have hn9 := hn.out; have g19 := g1.out; simp only [Bool.false_eq_true, false_iff] at g19; omega) _ hm0.out
  replace hfin := Lib.hid hfin;go_wp2
  all_goals exact hfin.out
 go_wp2_with fail;refine (hI2.out _).mono ?_;rintro e w1 ⟨rfl, rfl⟩
 cases i2
 ·have hfin := hno.out (fun h => by have zz := h.z; have hm9 := hm.out; have g29 := g2.out; simp only [Bool.false_eq_true, false_iff] at g29; omega) _ hm0.out
  replace hfin := Lib.hid hfin;go_wp2
  all_goals exact hfin.out
 go_upto_region 3 with (fail)
 by_cases e1 : st < 2
 ·have hfin := hno.out (fun h => by have zz := h.z; have hst9 := hst.out; omega) _ hm0.out
  replace hfin := Lib.hid hfin;go_wp2
  all_goals exact hfin.out
 by_cases e2 : 5 < st
 ·have hfin := hno.out (fun h => by have zz := h.z; have hst9 := hst.out; omega) _ hm0.out
  replace hfin := Lib.hid hfin;go_wp2
  all_goals exact hfin.out
 go_upto_region 5 with (fail)
 by_cases e3 : bf = 0
 rotate_left
 ·have e3a : (bf != 0) = true := by simp [e3]
  replace e3 := Lib.hid e3;have hfin := hno.out (fun h => by have zz := h.z; have hst9 := hst.out; have zq := e3.out; omega) _ hm0.out;replace hfin := Lib.hid hfin;go_wp2
  all_goals exact hfin.out
 subst e3
 go_upto_region 7 with (fail)
 by_cases e5 : pr < 0
 ·have hfin := hno.out (fun h => by have zz := h.z; have hst9 := hst.out; omega) _ hm0.out
  replace hfin := Lib.hid hfin;go_wp2
  all_goals exact hfin.out
 by_cases e6 : 31 < pr
 ·have hfin := hno.out (fun h => by have zz := h.z; have hst9 := hst.out; omega) _ hm0.out
  replace hfin := Lib.hid hfin;go_wp2
  all_goals exact hfin.out
 go_upto_region 9 with (fail)
 by_cases e7 : pk < 1
 ·have hfin := hno.out (fun h => by have zz := h.z; have hst9 := hst.out; omega) _ hm0.out
  replace hfin := Lib.hid hfin;go_wp2
  all_goals exact hfin.out
 by_cases e8 : 16 < pk
 ·have hfin := hno.out (fun h => by have zz := h.z; have hst9 := hst.out; omega) _ hm0.out
  replace hfin := Lib.hid hfin;go_wp2
  all_goals exact hfin.out
 go_upto_region 11 with (fail)
 by_cases e9 : ob < 1
 ·have hfin := hno.out (fun h => by have zz := h.z; have hst9 := hst.out; omega) _ hm0.out
  replace hfin := Lib.hid hfin;go_wp2
  all_goals exact hfin.out
 by_cases ea : 512 < ob
 ·have hfin := hno.out (fun h => by have zz := h.z; have hst9 := hst.out; omega) _ hm0.out
  replace hfin := Lib.hid hfin;go_wp2
  all_goals exact hfin.out
 go_upto_region 13 with (fail)
 go_wp2_with fail;refine (hS0.out).mono ?_;rintro e w1 ⟨rfl, hm1⟩
 cases q
 ·have hfin := hyes.out (by have g19 := g1.out.1 trivial; have g29 := g2.out.1 trivial; have hn9 := hn.out; have hm9 := hm.out; have hst9 := hst.out; exact ⟨by show (1 : Int) ≤ 2; omega, by show (2 : Int) ≤ 3; omega, by show 5 ≤ aid.length; omega, by show aid.length ≤ 16; omega, by show 5 ≤ dom.length; omega, by show dom.length ≤ 16; omega, fun z => by dsimp only at z ⊢ <;> omega, fun z => by dsimp only at z ⊢ <;> omega, fun z => by dsimp only at z ⊢ <;> omega, fun z => by dsimp only at z ⊢ <;> omega, by dsimp only <;> omega, by dsimp only <;> omega, fun z => by dsimp only at z ⊢ <;> omega, fun z => by dsimp only at z ⊢ <;> omega, fun z => by dsimp only at z ⊢ <;> omega, fun z => by dsimp only at z ⊢ <;> omega, fun z => by dsimp only at z ⊢ <;> omega, fun _ z => by have := gq.out.2 z; cases this⟩) _ (hm0.out.trans hm1)
  refine hid2 ?_ hfin hm1; clear hfin hm1; intro hfin hm1;go_wp2;exact hfin.out
 ·have hfin := hno.out (fun h => h.ne (by show (2 : Int) ≠ 1; decide) (gq.out.1 rfl)) _ (hm0.out.trans hm1)
  refine hid2 ?_ hfin hm1; clear hfin hm1; intro hfin hm1;go_wp2;exact hfin.out
set_option maxHeartbeats 16000000 in
theorem rCheck_3 {w : World} {ua va : Option Addr} {uc vc : Nat} {aid dom : List Nat} {i1 i2 q : Bool} {st bf pr pk ob : Int} {R : Ending → World → Prop} (hC : ChkC w ua va uc vc aid dom i1 i2 q) (hR : ChkR R w ⟨3, st, bf, pr, pk, ob, aid, dom⟩) :
  Calls Tryz.prog 12 #[.agg (eCells (.slice ua aid.length uc) (.slice va dom.length vc) ⟨3, st, bf, pr, pk, ob, aid, dom⟩).toArray] w R := by
 obtain ⟨hI1, hI2, hS, g1, g2, gq⟩ := hC;obtain ⟨hno, hyes⟩ := hR;unfold eCells;dsimp only;generalize hn : aid.length = n at *;generalize hm : dom.length = m at *;have hm0 := m1 w [.slice ua n uc, .int .i64 3, .int .i64 st, .int .i64 bf, .int .i64 pr, .slice va m vc, .int .i64 pk, .int .i64 ob] 24;have hS0 := hS _ hm0;refine hid11 ?_ hI1 hI2 hS0 g1 g2 gq hno hyes hn hm hm0; clear hI1 hI2 hS0 g1 g2 gq hno hyes hn hm hm0; intro hI1 hI2 hS0 g1 g2 gq hno hyes hn hm hm0;clear hS;go_enter Tryz.func12, Tryz.ntmps12;go_wp2_with fail;refine (hI1.out _).mono ?_;rintro e w1 ⟨rfl, rfl⟩
 cases i1
 ·have hfin := hno.out (fun h => by have zz := h.z; have hn9 := hn.out; have g19 := g1.out; simp only [Bool.false_eq_true, false_iff] at g19; omega) _ hm0.out
  replace hfin := Lib.hid hfin;go_wp2
  all_goals exact hfin.out
 go_wp2_with fail;refine (hI2.out _).mono ?_;rintro e w1 ⟨rfl, rfl⟩
 cases i2
 ·have hfin := hno.out (fun h => by have zz := h.z; have hm9 := hm.out; have g29 := g2.out; simp only [Bool.false_eq_true, false_iff] at g29; omega) _ hm0.out
  replace hfin := Lib.hid hfin;go_wp2
  all_goals exact hfin.out
 go_upto_region 3 with (fail)
 by_cases e1 : st = 1
 rotate_left
 ·have e1a : (st != 1) = true := by simp [e1]
  replace e1 := Lib.hid e1;have hfin := hno.out (fun h => by have zz := h.z; have zq := e1.out; omega) _ hm0.out;replace hfin := Lib.hid hfin;go_wp2
  all_goals exact hfin.out
 subst e1
 go_upto_region 5 with (fail)
 by_cases e3 : bf = 0
 rotate_left
 ·have e3a : (bf != 0) = true := by simp [e3]
  replace e3 := Lib.hid e3;have hfin := hno.out (fun h => by have zz := h.z; have zq := e3.out; omega) _ hm0.out;replace hfin := Lib.hid hfin;go_wp2
  all_goals exact hfin.out
 subst e3
 go_upto_region 7 with (fail)
 by_cases e5 : pr = 0
 rotate_left
 ·have e5a : (pr != 0) = true := by simp [e5]
  replace e5 := Lib.hid e5;have hfin := hno.out (fun h => by have zz := h.z; have zq := e5.out; omega) _ hm0.out;replace hfin := Lib.hid hfin;go_wp2
  all_goals exact hfin.out
 subst e5
 go_upto_region 9 with (fail)
 by_cases e7 : pk < 1
 ·have hfin := hno.out (fun h => by have zz := h.z; omega) _ hm0.out
  replace hfin := Lib.hid hfin;go_wp2
  all_goals exact hfin.out
 by_cases e8 : 16 < pk
 ·have hfin := hno.out (fun h => by have zz := h.z; omega) _ hm0.out
  replace hfin := Lib.hid hfin;go_wp2
  all_goals exact hfin.out
 go_upto_region 11 with (fail)
 by_cases e9 : ob = 0
 rotate_left
 ·have e9a : (ob != 0) = true := by simp [e9]
  replace e9 := Lib.hid e9;have hfin := hno.out (fun h => by have zz := h.z; have zq := e9.out; omega) _ hm0.out;replace hfin := Lib.hid hfin;go_wp2
  all_goals exact hfin.out
 subst e9
 go_upto_region 13 with (fail)
 go_wp2_with fail;refine (hS0.out).mono ?_;rintro e w1 ⟨rfl, hm1⟩
 cases q
 ·have hfin := hyes.out (by have g19 := g1.out.1 trivial; have g29 := g2.out.1 trivial; have hn9 := hn.out; have hm9 := hm.out; exact ⟨by show (1 : Int) ≤ 3; omega, by show (3 : Int) ≤ 3; omega, by show 5 ≤ aid.length; omega, by show aid.length ≤ 16; omega, by show 5 ≤ dom.length; omega, by show dom.length ≤ 16; omega, fun z => by dsimp only at z ⊢ <;> omega, fun z => by dsimp only at z ⊢ <;> omega, fun z => by dsimp only at z ⊢ <;> omega, fun z => by dsimp only at z ⊢ <;> omega, by dsimp only <;> omega, by dsimp only <;> omega, fun z => by dsimp only at z ⊢ <;> omega, fun z => by dsimp only at z ⊢ <;> omega, fun z => by dsimp only at z ⊢ <;> omega, fun z => by dsimp only at z ⊢ <;> omega, fun z => by dsimp only at z ⊢ <;> omega, fun _ z => by have := gq.out.2 z; cases this⟩) _ (hm0.out.trans hm1)
  refine hid2 ?_ hfin hm1; clear hfin hm1; intro hfin hm1;go_wp2;exact hfin.out
 ·have hfin := hno.out (fun h => h.ne (by show (3 : Int) ≠ 1; decide) (gq.out.1 rfl)) _ (hm0.out.trans hm1)
  refine hid2 ?_ hfin hm1; clear hfin hm1; intro hfin hm1;go_wp2;exact hfin.out
set_option maxHeartbeats 8000000 in
theorem rCheck_o {w : World} {ua va : Option Addr} {uc vc : Nat} {aid dom : List Nat} {i1 i2 q : Bool} {k st bf pr pk ob : Int} {R : Ending → World → Prop} (hC : ChkC w ua va uc vc aid dom i1 i2 q) (hR : ChkR R w ⟨k, st, bf, pr, pk, ob, aid, dom⟩) (hk : k < 1 ∨ 3 < k) :
  Calls Tryz.prog 12 #[.agg (eCells (.slice ua aid.length uc) (.slice va dom.length vc) ⟨k, st, bf, pr, pk, ob, aid, dom⟩).toArray] w R := by
 have hno : ∀ W, Mod Nowhere w W → R (.returned (errno 1)) W := hR.no fun h => by have zz := h.z; omega
 have hI1 := hC.c1;have hI2 := hC.c2;clear hC hR;unfold eCells;dsimp only;generalize aid.length = n at *;generalize dom.length = m at *;have hm0 := m1 w [.slice ua n uc, .int .i64 k, .int .i64 st, .int .i64 bf, .int .i64 pr, .slice va m vc, .int .i64 pk, .int .i64 ob] 24;have hfin := hno _ hm0;by_cases h1 : k < 1
 ·refine hid6 ?_ hI1 hI2 hno hm0 hfin hk; clear hI1 hI2 hno hm0 hfin hk; intro hI1 hI2 hno hm0 hfin hk
  go_enter Tryz.func12, Tryz.ntmps12;go_wp2_with fail;refine (hI1.out _).mono ?_;rintro e w1 ⟨rfl, rfl⟩
  cases i1
  ·go_wp2
   exact hfin.out
  go_wp2_with fail;refine (hI2.out _).mono ?_;rintro e w1 ⟨rfl, rfl⟩
  cases i2
  ·go_wp2
   exact hfin.out
  go_wp2;exact hfin.out
 ·have h2 : 3 < k := by omega
  refine hid6 ?_ hI1 hI2 hno hm0 hfin hk; clear hI1 hI2 hno hm0 hfin hk; intro hI1 hI2 hno hm0 hfin hk;go_enter Tryz.func12, Tryz.ntmps12;go_wp2_with fail;refine (hI1.out _).mono ?_;rintro e w1 ⟨rfl, rfl⟩
  cases i1
  ·go_wp2
   exact hfin.out
  go_wp2_with fail;refine (hI2.out _).mono ?_;rintro e w1 ⟨rfl, rfl⟩
  cases i2
  ·go_wp2
   exact hfin.out
  go_wp2;exact hfin.out
theorem rCheck_ok {w : World} {u v : Value} {e : REn} (h : InE w u v e) (l1 : e.aid.length ≤ 1000) (l2 : e.dom.length ≤ 1000) :
  Calls Tryz.prog 12 #[.agg (eCells u v e).toArray] w fun r w' => r = .returned (errno (if rValid e = true then 0 else 1 : Nat)) ∧ Mod Nowhere w w' := by
 have hR : ChkR (fun r w' => r = .returned (errno (if rValid e = true then 0 else 1 : Nat)) ∧ Mod Nowhere w w') w e :=
  ⟨fun hn W hm => ⟨by rw [if_neg (fun hv => hn ((rValid_iff e).1 hv))]; rfl, hm⟩, fun hy W hm => ⟨by rw [if_pos ((rValid_iff e).2 hy)]; rfl, hm⟩⟩
 have hS : ∀ W, Mod Nowhere w W → Calls Tryz.prog 41 #[u, v] W fun r w' => r = .returned (.bool (decide (e.aid = e.dom))) ∧ Mod Nowhere W w' := fun W hm => r01Same_ok (h.sa.fresh hm) (h.sd.fresh hm) h.ba h.bd (by omega) (by omega);obtain ⟨ua, uc, rfl, -⟩ := h.sa;obtain ⟨va, vc, rfl, -⟩ := h.sd;clear h l1 l2;generalize (fun r w' => r = Ending.returned (errno (if rValid e = true then 0 else 1 : Nat)) ∧ Mod Nowhere w w') = R at *;obtain ⟨k, st, bf, pr, pk, ob, aid, dom⟩ := e;have hC : ChkC w ua va uc vc aid dom _ _ _ := ⟨fun W => rIdent_ok W ua aid.length uc, fun W => rIdent_ok W va dom.length vc, hS, by simp, by simp, by simp⟩;by_cases k1 : k = 1
 ·subst k1
  by_cases s5 : st = 5
  ·subst s5; exact rCheck_15 hC hR
  ·exact rCheck_1n hC hR s5
 by_cases k2 : k = 2
 ·subst k2
  by_cases s5 : st = 5
  ·subst s5; exact rCheck_25 hC hR
  ·exact rCheck_2n hC hR s5
 by_cases k3 : k = 3
 ·subst k3; exact rCheck_3 hC hR
 exact rCheck_o hC hR (by omega)
end Go.Proofs.YthmahbfmfpjjcaaGreat
