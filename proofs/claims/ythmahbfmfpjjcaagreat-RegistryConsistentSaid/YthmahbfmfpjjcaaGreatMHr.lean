/-
  The law's do: an action on the registry.
-/
import Derived.Test.YthmahbfmfpjjcaaGreatMHp
import Derived.Test.YthmahbfmfpjjcaaGreatMHq
import Derived.Test.YthmahbfmfpjjcaaGreatMIno
set_option linter.unusedVariables false
set_option linter.unusedSimpArgs false
set_option maxRecDepth 100000
namespace Go.Proofs.YthmahbfmfpjjcaaGreat
open Go.RowKit
open Jn Vn Rg
attribute [local go_sem] Oper.semAt_some
set_option maxHeartbeats 4000000 in
theorem doW0 {w : World} {mb vb rb : Nat} {a1 a2 a3 a4 : Option Addr} {n1 n2 n3 n4 c1 c2 c3 c4 : Nat} {k st bf pr pk ob sx : Int} {R : Ending → World → Prop} (hC : Calls Tryz.prog 19 #[ptr rb, .agg #[.slice a1 n1 c1, .int .i64 k, .int .i64 st, .int .i64 bf, .int .i64 pr, .slice a2 n2 c2, .int .i64 pk, .int .i64 ob]] ((w.alloc (.cells #[ptr mb, ptr vb, ptr rb] 48)).alloc (.cells #[.int .i64 0, .slice a1 n1 c1, .int .i64 k, .int .i64 st, .int .i64 bf, .int .i64 pr, .slice a2 n2 c2, .int .i64 pk, .int .i64 ob, .slice a3 n3 c3, .slice a4 n4 c4, .int .i64 sx] 57)) R) (he : ∀ e w', R e w' → ∃ n : Nat, e = .returned (errno n)) :
  Calls Tryz.prog 27 #[.agg #[ptr mb, ptr vb, ptr rb], .agg #[.int .i64 0, .slice a1 n1 c1, .int .i64 k, .int .i64 st, .int .i64 bf, .int .i64 pr, .slice a2 n2 c2, .int .i64 pk, .int .i64 ob, .slice a3 n3 c3, .slice a4 n4 c4, .int .i64 sx]] w R := by
 refine hid2 ?_ hC he; clear hC he; intro hC he;go_enter Tryz.func27, Tryz.ntmps27;go_wp2_with fail;refine (hC.out).mono ?_;rintro e w1 hc;obtain ⟨ne, rfl⟩ := he.out _ _ hc;replace hc := Lib.hid hc;go_wp2;exact hc.out
set_option maxHeartbeats 4000000 in
theorem doW1 {w : World} {mb vb rb : Nat} {a1 a2 a3 a4 : Option Addr} {n1 n2 n3 n4 c1 c2 c3 c4 : Nat} {k st bf pr pk ob sx : Int} {R : Ending → World → Prop} (hC : Calls Tryz.prog 20 #[ptr rb, .slice a3 n3 c3] ((w.alloc (.cells #[ptr mb, ptr vb, ptr rb] 48)).alloc (.cells #[.int .i64 1, .slice a1 n1 c1, .int .i64 k, .int .i64 st, .int .i64 bf, .int .i64 pr, .slice a2 n2 c2, .int .i64 pk, .int .i64 ob, .slice a3 n3 c3, .slice a4 n4 c4, .int .i64 sx] 57)) R) (he : ∀ e w', R e w' → ∃ n : Nat, e = .returned (errno n)) :
  Calls Tryz.prog 27 #[.agg #[ptr mb, ptr vb, ptr rb], .agg #[.int .i64 1, .slice a1 n1 c1, .int .i64 k, .int .i64 st, .int .i64 bf, .int .i64 pr, .slice a2 n2 c2, .int .i64 pk, .int .i64 ob, .slice a3 n3 c3, .slice a4 n4 c4, .int .i64 sx]] w R := by
 refine hid2 ?_ hC he; clear hC he; intro hC he;go_enter Tryz.func27, Tryz.ntmps27;go_wp2_with fail;refine (hC.out).mono ?_;rintro e w1 hc;obtain ⟨ne, rfl⟩ := he.out _ _ hc;replace hc := Lib.hid hc;go_wp2;exact hc.out
set_option maxHeartbeats 4000000 in
theorem doW2 {w : World} {mb vb rb : Nat} {a1 a2 a3 a4 : Option Addr} {n1 n2 n3 n4 c1 c2 c3 c4 : Nat} {k st bf pr pk ob sx : Int} {R : Ending → World → Prop} (hC : Calls Tryz.prog 21 #[ptr rb, .slice a3 n3 c3, .int .i64 sx] ((w.alloc (.cells #[ptr mb, ptr vb, ptr rb] 48)).alloc (.cells #[.int .i64 2, .slice a1 n1 c1, .int .i64 k, .int .i64 st, .int .i64 bf, .int .i64 pr, .slice a2 n2 c2, .int .i64 pk, .int .i64 ob, .slice a3 n3 c3, .slice a4 n4 c4, .int .i64 sx] 57)) R) (he : ∀ e w', R e w' → ∃ n : Nat, e = .returned (errno n)) :
  Calls Tryz.prog 27 #[.agg #[ptr mb, ptr vb, ptr rb], .agg #[.int .i64 2, .slice a1 n1 c1, .int .i64 k, .int .i64 st, .int .i64 bf, .int .i64 pr, .slice a2 n2 c2, .int .i64 pk, .int .i64 ob, .slice a3 n3 c3, .slice a4 n4 c4, .int .i64 sx]] w R := by
 refine hid2 ?_ hC he; clear hC he; intro hC he;go_enter Tryz.func27, Tryz.ntmps27;go_wp2_with fail;refine (hC.out).mono ?_;rintro e w1 hc;obtain ⟨ne, rfl⟩ := he.out _ _ hc;replace hc := Lib.hid hc;go_wp2;exact hc.out
set_option maxHeartbeats 4000000 in
theorem doW3 {w : World} {mb vb rb : Nat} {a1 a2 a3 a4 : Option Addr} {n1 n2 n3 n4 c1 c2 c3 c4 : Nat} {k st bf pr pk ob sx : Int} {R : Ending → World → Prop} (hC : Calls Tryz.prog 22 #[ptr rb, .slice a3 n3 c3, .bool true] ((w.alloc (.cells #[ptr mb, ptr vb, ptr rb] 48)).alloc (.cells #[.int .i64 3, .slice a1 n1 c1, .int .i64 k, .int .i64 st, .int .i64 bf, .int .i64 pr, .slice a2 n2 c2, .int .i64 pk, .int .i64 ob, .slice a3 n3 c3, .slice a4 n4 c4, .int .i64 sx] 57)) R) (he : ∀ e w', R e w' → ∃ n : Nat, e = .returned (errno n)) :
  Calls Tryz.prog 27 #[.agg #[ptr mb, ptr vb, ptr rb], .agg #[.int .i64 3, .slice a1 n1 c1, .int .i64 k, .int .i64 st, .int .i64 bf, .int .i64 pr, .slice a2 n2 c2, .int .i64 pk, .int .i64 ob, .slice a3 n3 c3, .slice a4 n4 c4, .int .i64 sx]] w R := by
 refine hid2 ?_ hC he; clear hC he; intro hC he;go_enter Tryz.func27, Tryz.ntmps27;go_wp2_with fail;refine (hC.out).mono ?_;rintro e w1 hc;obtain ⟨ne, rfl⟩ := he.out _ _ hc;replace hc := Lib.hid hc;go_wp2;exact hc.out
set_option maxHeartbeats 4000000 in
theorem doW4 {w : World} {mb vb rb : Nat} {a1 a2 a3 a4 : Option Addr} {n1 n2 n3 n4 c1 c2 c3 c4 : Nat} {k st bf pr pk ob sx : Int} {R : Ending → World → Prop} (hC : Calls Tryz.prog 22 #[ptr rb, .slice a3 n3 c3, .bool false] ((w.alloc (.cells #[ptr mb, ptr vb, ptr rb] 48)).alloc (.cells #[.int .i64 4, .slice a1 n1 c1, .int .i64 k, .int .i64 st, .int .i64 bf, .int .i64 pr, .slice a2 n2 c2, .int .i64 pk, .int .i64 ob, .slice a3 n3 c3, .slice a4 n4 c4, .int .i64 sx] 57)) R) (he : ∀ e w', R e w' → ∃ n : Nat, e = .returned (errno n)) :
  Calls Tryz.prog 27 #[.agg #[ptr mb, ptr vb, ptr rb], .agg #[.int .i64 4, .slice a1 n1 c1, .int .i64 k, .int .i64 st, .int .i64 bf, .int .i64 pr, .slice a2 n2 c2, .int .i64 pk, .int .i64 ob, .slice a3 n3 c3, .slice a4 n4 c4, .int .i64 sx]] w R := by
 refine hid2 ?_ hC he; clear hC he; intro hC he;go_enter Tryz.func27, Tryz.ntmps27;go_wp2_with fail;refine (hC.out).mono ?_;rintro e w1 hc;obtain ⟨ne, rfl⟩ := he.out _ _ hc;replace hc := Lib.hid hc;go_wp2;exact hc.out
set_option maxHeartbeats 4000000 in
theorem doW5 {w : World} {mb vb rb : Nat} {a1 a2 a3 a4 : Option Addr} {n1 n2 n3 n4 c1 c2 c3 c4 : Nat} {k st bf pr pk ob sx : Int} {R : Ending → World → Prop} (hC : Calls Tryz.prog 23 #[ptr rb, .slice a3 n3 c3, .slice a4 n4 c4] ((w.alloc (.cells #[ptr mb, ptr vb, ptr rb] 48)).alloc (.cells #[.int .i64 5, .slice a1 n1 c1, .int .i64 k, .int .i64 st, .int .i64 bf, .int .i64 pr, .slice a2 n2 c2, .int .i64 pk, .int .i64 ob, .slice a3 n3 c3, .slice a4 n4 c4, .int .i64 sx] 57)) R) (he : ∀ e w', R e w' → ∃ n : Nat, e = .returned (errno n)) :
  Calls Tryz.prog 27 #[.agg #[ptr mb, ptr vb, ptr rb], .agg #[.int .i64 5, .slice a1 n1 c1, .int .i64 k, .int .i64 st, .int .i64 bf, .int .i64 pr, .slice a2 n2 c2, .int .i64 pk, .int .i64 ob, .slice a3 n3 c3, .slice a4 n4 c4, .int .i64 sx]] w R := by
 refine hid2 ?_ hC he; clear hC he; intro hC he;go_enter Tryz.func27, Tryz.ntmps27;go_wp2_with fail;refine (hC.out).mono ?_;rintro e w1 hc;obtain ⟨ne, rfl⟩ := he.out _ _ hc;replace hc := Lib.hid hc;go_wp2;exact hc.out
set_option maxHeartbeats 4000000 in
theorem doW6 {w : World} {mb vb rb : Nat} {a1 a2 a3 a4 : Option Addr} {n1 n2 n3 n4 c1 c2 c3 c4 : Nat} {k st bf pr pk ob sx : Int} {R : Ending → World → Prop} (hC : Calls Tryz.prog 70 #[ptr vb] ((w.alloc (.cells #[ptr mb, ptr vb, ptr rb] 48)).alloc (.cells #[.int .i64 6, .slice a1 n1 c1, .int .i64 k, .int .i64 st, .int .i64 bf, .int .i64 pr, .slice a2 n2 c2, .int .i64 pk, .int .i64 ob, .slice a3 n3 c3, .slice a4 n4 c4, .int .i64 sx] 57)) R) (he : ∀ e w', R e w' → ∃ n : Nat, e = .returned (errno n)) :
  Calls Tryz.prog 27 #[.agg #[ptr mb, ptr vb, ptr rb], .agg #[.int .i64 6, .slice a1 n1 c1, .int .i64 k, .int .i64 st, .int .i64 bf, .int .i64 pr, .slice a2 n2 c2, .int .i64 pk, .int .i64 ob, .slice a3 n3 c3, .slice a4 n4 c4, .int .i64 sx]] w R := by
 refine hid2 ?_ hC he; clear hC he; intro hC he;go_enter Tryz.func27, Tryz.ntmps27;go_wp2_with fail;refine (hC.out).mono ?_;rintro e w1 hc;obtain ⟨ne, rfl⟩ := he.out _ _ hc;replace hc := Lib.hid hc;go_wp2;exact hc.out
set_option maxHeartbeats 4000000 in
theorem doW7 {w : World} {mb vb rb : Nat} {a1 a2 a3 a4 : Option Addr} {n1 n2 n3 n4 c1 c2 c3 c4 : Nat} {k st bf pr pk ob sx : Int} {R : Ending → World → Prop} (hC : Calls Tryz.prog 71 #[ptr vb] ((w.alloc (.cells #[ptr mb, ptr vb, ptr rb] 48)).alloc (.cells #[.int .i64 7, .slice a1 n1 c1, .int .i64 k, .int .i64 st, .int .i64 bf, .int .i64 pr, .slice a2 n2 c2, .int .i64 pk, .int .i64 ob, .slice a3 n3 c3, .slice a4 n4 c4, .int .i64 sx] 57)) R) (he : ∀ e w', R e w' → ∃ n : Nat, e = .returned (errno n)) :
  Calls Tryz.prog 27 #[.agg #[ptr mb, ptr vb, ptr rb], .agg #[.int .i64 7, .slice a1 n1 c1, .int .i64 k, .int .i64 st, .int .i64 bf, .int .i64 pr, .slice a2 n2 c2, .int .i64 pk, .int .i64 ob, .slice a3 n3 c3, .slice a4 n4 c4, .int .i64 sx]] w R := by
 refine hid2 ?_ hC he; clear hC he; intro hC he;go_enter Tryz.func27, Tryz.ntmps27;go_wp2_with fail;refine (hC.out).mono ?_;rintro e w1 hc;obtain ⟨ne, rfl⟩ := he.out _ _ hc;replace hc := Lib.hid hc;go_wp2;exact hc.out
set_option maxHeartbeats 4000000 in
theorem doW8 {w : World} {mb vb rb : Nat} {a1 a2 a3 a4 : Option Addr} {n1 n2 n3 n4 c1 c2 c3 c4 : Nat} {k st bf pr pk ob sx : Int} {R : Ending → World → Prop} (hC : Calls Tryz.prog 72 #[ptr vb] ((w.alloc (.cells #[ptr mb, ptr vb, ptr rb] 48)).alloc (.cells #[.int .i64 8, .slice a1 n1 c1, .int .i64 k, .int .i64 st, .int .i64 bf, .int .i64 pr, .slice a2 n2 c2, .int .i64 pk, .int .i64 ob, .slice a3 n3 c3, .slice a4 n4 c4, .int .i64 sx] 57)) R) (he : ∀ e w', R e w' → ∃ n : Nat, e = .returned (errno n)) :
  Calls Tryz.prog 27 #[.agg #[ptr mb, ptr vb, ptr rb], .agg #[.int .i64 8, .slice a1 n1 c1, .int .i64 k, .int .i64 st, .int .i64 bf, .int .i64 pr, .slice a2 n2 c2, .int .i64 pk, .int .i64 ob, .slice a3 n3 c3, .slice a4 n4 c4, .int .i64 sx]] w R := by
 refine hid2 ?_ hC he; clear hC he; intro hC he;go_enter Tryz.func27, Tryz.ntmps27;go_wp2_with fail;refine (hC.out).mono ?_;rintro e w1 hc;obtain ⟨ne, rfl⟩ := he.out _ _ hc;replace hc := Lib.hid hc;go_wp2;exact hc.out
set_option maxHeartbeats 4000000 in
theorem doW9 {w : World} {mb vb rb : Nat} {a1 a2 a3 a4 : Option Addr} {n1 n2 n3 n4 c1 c2 c3 c4 : Nat} {k st bf pr pk ob sx : Int} {R : Ending → World → Prop} {act : Int} (hn : ¬ (0 ≤ act ∧ act ≤ 8)) (hC : ∀ W, Mod Nowhere w W → R (.returned (errno 0)) W) :
  Calls Tryz.prog 27 #[.agg #[ptr mb, ptr vb, ptr rb], .agg #[.int .i64 act, .slice a1 n1 c1, .int .i64 k, .int .i64 st, .int .i64 bf, .int .i64 pr, .slice a2 n2 c2, .int .i64 pk, .int .i64 ob, .slice a3 n3 c3, .slice a4 n4 c4, .int .i64 sx]] w R := by
 have hfin := hC _ (m2z w [ptr mb, ptr vb, ptr rb] [.int .i64 act, .slice a1 n1 c1, .int .i64 k, .int .i64 st, .int .i64 bf, .int .i64 pr, .slice a2 n2 c2, .int .i64 pk, .int .i64 ob, .slice a3 n3 c3, .slice a4 n4 c4, .int .i64 sx] 48 57);have b0 : (act == 0) = false := by simp; omega
 have b1 : (act == 1) = false := by simp; omega
 have b2 : (act == 2) = false := by simp; omega
 have b3 : (act == 3) = false := by simp; omega
 have b4 : (act == 4) = false := by simp; omega
 have b5 : (act == 5) = false := by simp; omega
 have b6 : (act == 6) = false := by simp; omega
 have b7 : (act == 7) = false := by simp; omega
 have b8 : (act == 8) = false := by simp; omega
 refine hid3 ?_ hC hfin hn; clear hC hfin hn; intro hC hfin hn;go_enter Tryz.func27, Tryz.ntmps27;go_wp2;exact hfin.out
theorem gAddR_ok {w : World} {rb : Nat} {A : VAt} {m : Mem} {s : VSt} {M : Md} (h : RgM w rb A m s M) {u v : Value} {e : REn} (hi : InE w u v e) (p0 : -9223372036854775808 ≤ e.pr) (p1 : e.pr ≤ 9223372036854775807) (hrm : Room m (vcost A)) :
  Calls Tryz.prog 19 #[ptr rb, .agg (eCells u v e).toArray] w (RCall w A m s (if rValid e = true then mNow M (rAdd M.now e.en) else (M, 1)).1 (if rValid e = true then mNow M (rAdd M.now e.en) else (M, 1)).2) := by
 cases hv : rValid e with
 | true =>
  obtain ⟨k1, k2⟩ := ((rValid_iff e).1 hv).en hi.ba hi.bd;have := gAddV_ok h k1 (by rw [k2]; exact hi) hrm;rw [k2] at this;exact this
 | false => exact gAddN_ok h hi p0 p1 (by rw [valid_same]; exact hv)
theorem do26_ok {w : World} {mb rb : Nat} {A : VAt} {m : Mem} {s : VSt} {M : Md} (h : RgM w rb A m s M) (hrm : Room m (vcost A)) {x : OpI} (hx : OpAt w x) :
  Calls Tryz.prog 27 #[.agg #[ptr mb, ptr A.vb, ptr rb], .agg x.cells.toArray] w (RCall w A m s (rPlay M x.r).1 (rPlay M x.r).2) := by
 have he : ∀ e w', RCall w A m s (rPlay M x.r).1 (rPlay M x.r).2 e w' → ∃ n : Nat, e = .returned (errno n) := fun e w' hc => hc.errno;have hw0 := m2z w [ptr mb, ptr A.vb, ptr rb] x.cells 48 57;have h0 := h.fresh hw0;have hx0 := hx.fresh hw0
 have hfr : ∀ {M' : Md} {er : Nat}, M' = (rPlay M x.r).1 → er = (rPlay M x.r).2 → ∀ {F : FuncId} {args : Array Value}, Calls Tryz.prog F args ((w.alloc (.cells [ptr mb, ptr A.vb, ptr rb].toArray 48)).alloc (.cells x.cells.toArray 57)) (RCall ((w.alloc (.cells [ptr mb, ptr A.vb, ptr rb].toArray 48)).alloc (.cells x.cells.toArray 57)) A m s M' er) → Calls Tryz.prog F args ((w.alloc (.cells [ptr mb, ptr A.vb, ptr rb].toArray 48)).alloc (.cells x.cells.toArray 57)) (RCall w A m s (rPlay M x.r).1 (rPlay M x.r).2) := fun e1 e2 F args hc => by
  subst e1 e2;exact hc.mono fun e w' hc => hc.from hw0
 obtain ⟨act, u, v, ent, t, aid, d, dom, sx⟩ := x;obtain ⟨hin, hsa, hba, hsd, hbd, p0, p1⟩ := hx0;dsimp only at hin hsa hba hsd hbd p0 p1;obtain ⟨a1, c1, e1, -⟩ := hin.sa;obtain ⟨a2, c2, e2, -⟩ := hin.sd;obtain ⟨a3, c3, e3, -⟩ := id hsa;obtain ⟨a4, c4, e4, -⟩ := id hsd;by_cases hact : 0 ≤ act ∧ act ≤ 8
 ·obtain ⟨g0, g8⟩ := hact
  have : act = 0 ∨ act = 1 ∨ act = 2 ∨ act = 3 ∨ act = 4 ∨ act = 5 ∨ act = 6 ∨ act = 7 ∨ act = 8 := by omega
  subst e1 e2 e3 e4;rcases this with rfl | rfl | rfl | rfl | rfl | rfl | rfl | rfl | rfl
  ·exact doW0 (hfr rfl rfl (gAddR_ok h0 hin p0 p1 hrm)) he
  ·exact doW1 (hfr rfl rfl (gRemove_ok h0 hsa hba hrm)) he
  ·exact doW2 (hfr rfl rfl (gState_ok h0 hsa hba hrm sx)) he
  ·exact doW3 (hfr rfl rfl (gLock_ok h0 hsa hba hrm true)) he
  ·exact doW4 (hfr rfl rfl (gLock_ok h0 hsa hba hrm false)) he
  ·exact doW5 (hfr rfl rfl (gMove_ok h0 hsa hba hsd hbd hrm)) he
  ·obtain ⟨q1, q2⟩ := h0.mp.begin
   refine doW6 (hfr (M' := (mBegin M).1) (er := (mBegin M).2) rfl rfl ((vBegin_ok h0.rep).mono fun e w' hc => ?_)) he;rw [q1] at hc;exact ⟨_, hc.more (Nat.zero_le _), q2, by unfold vBegin; split <;> simp⟩
  ·obtain ⟨q1, q2⟩ := h0.mp.commit h0.xb
   refine doW7 (hfr (M' := (mCommit M).1) (er := (mCommit M).2) rfl rfl ((vCommit_ok h0.rep (by have := h0.len; omega) hrm).mono fun e w' hc => ?_)) he;rw [q1] at hc;exact ⟨_, hc, q2, by unfold vCommit; (repeat split) <;> simp⟩
  ·obtain ⟨q1, q2⟩ := h0.mp.abort
   refine doW8 (hfr (M' := (mAbort M).1) (er := (mAbort M).2) rfl rfl ((vAbort_ok h0.rep).mono fun e w' hc => ?_)) he;rw [q1] at hc;exact ⟨_, hc.more (Nat.zero_le _), q2, by unfold vAbort; split <;> simp⟩
 ·subst e1 e2 e3 e4
  refine doW9 hact fun W hm => ?_
  have hp : rPlay M (OpI.r ⟨act, .slice a1 ent.aid.length c1, .slice a2 ent.dom.length c2, ent, .slice a3 aid.length c3, aid, .slice a4 dom.length c4, dom, sx⟩) = (M, 0) := by
   unfold rPlay OpI.r;dsimp only;rw [if_neg (by omega), if_neg (by omega), if_neg (by omega), if_neg (by omega), if_neg (by omega), if_neg (by omega), if_neg (by omega), if_neg (by omega), if_neg (by omega)]
  rw [hp];exact RCall.none h hm 0
end Go.Proofs.YthmahbfmfpjjcaaGreat
