/-
  The laws' loop of actions.
-/
import Derived.Test.YthmahbfmfpjjcaaGreatMHr
import Derived.Test.YthmahbfmfpjjcaaGreatMG71
set_option linter.unusedVariables false
set_option linter.unusedSimpArgs false
namespace Go.Proofs.YthmahbfmfpjjcaaGreat
open Go.RowKit
open Jn Vn Rg
attribute [local go_sem] Oper.semAt_some
structure DoSt (W0 W : World) (A : VAt) (rb B k : Nat) (M : Md) : Prop where
 ex : ∃ m s, RgL W A m s M rb (1000000000 - k * 1022784) ∧ m.pending = false ∧ s.l.length ≤ k
 bw : Blk W B [ptr A.M.mb, ptr A.vb, ptr rb] 48
 nw : ∀ i, A.S i → W0.heap.size ≤ i
 md : Mod Nowhere W0 W
section
variable {W0 W W' : World} {A : VAt} {rb B k : Nat} {M : Md}
theorem DoSt.fresh (h : DoSt W0 W A rb B k M) (hm : Mod Nowhere W W') : DoSt W0 W' A rb B k M := by
 obtain ⟨⟨m, s, h1, h2, h3⟩, h4, h5, h6⟩ := h;exact ⟨⟨m, s, h1.fresh hm, h2, h3⟩, h4.mod hm id, h5, h6.trans hm⟩
theorem DoSt.reg (h : DoSt W0 W A rb B k M) : ∃ m s, Reg W rb A m s M.now := by
 obtain ⟨⟨m, s, h1, -⟩, -⟩ := h;exact ⟨m, s, h1.reg⟩
theorem DoSt.inv (h : DoSt W0 W A rb B k M) : RInv M.now := by obtain ⟨m, s, h⟩ := h.reg; exact h.inv
theorem DoSt.c (h : DoSt W0 W A rb B k M) : W.cell? ⟨B, 0, none⟩ = some (ptr A.M.mb) ∧ W.cell? ⟨B, 1, none⟩ = some (ptr A.vb) ∧ W.cell? ⟨B, 2, none⟩ = some (ptr rb) ∧ B < W.heap.size := ⟨h.bw.cell 0, h.bw.cell 1, h.bw.cell 2, h.bw.lt⟩
def DoR (W0 W : World) (A : VAt) (rb B k : Nat) (M' : Md) (er : Nat) (e : Ending) (w' : World) : Prop := e = .returned (errno er) ∧ DoSt W0 w' A rb B (k + 1) M' ∧ Mod A.S W w'
theorem DoSt.call (h : DoSt W0 W A rb B k M) (hk : k < 900) {F : FuncId} {args : Array Value} {M' : Md} {er : Nat}
  (hc : ∀ m s, RgM W rb A m s M → Room m (vcost A) → Calls Tryz.prog F args W (RCall W A m s M' er)) : Calls Tryz.prog F args W (DoR W0 W A rb B k M' er) := by
 obtain ⟨⟨m, s, h1, h2, h3⟩, h4, h5, h6⟩ := h;have hn : 1000000000 - k * 1022784 = (1000000000 - (k + 1) * 1022784) + 1022784 := by omega
 have h1' := h1;rw [hn] at h1';refine (hc m s h1.toM (h1'.room (by omega))).mono fun e w' hr => ?_;obtain ⟨rfl, m', s', g1, g2, g3, g4⟩ := hr.sure h1' (by omega) h2;exact ⟨rfl, ⟨⟨m', s', g1, g2, by omega⟩, h4.mod g4 (h1.vl.rep.noS h4 (by decide) (by decide)), h5, h6.step g4 fun i hi e => by have := h5 i e; omega⟩, g4⟩
theorem DoSt.do_ (h : DoSt W0 W A rb B k M) (hk : k < 900) {x : OpI} (hx : OpAt W x) : Calls Tryz.prog 27 #[.agg #[ptr A.M.mb, ptr A.vb, ptr rb], .agg x.cells.toArray] W (DoR W0 W A rb B k (rPlay M x.r).1 (rPlay M x.r).2) :=
 h.call hk fun m s h1 h2 => do26_ok h1 h2 hx
theorem DoSt.state (h : DoSt W0 W A rb B k M) (hk : k < 900) {t : Value} {a : List Nat} (ht : Src W t a) (ba : Bytes a) (x : Int) : Calls Tryz.prog 21 #[ptr rb, t, .int .i64 x] W (DoR W0 W A rb B k { M with now := (rChange M.now a (fState x.toNat)).1 } (rChange M.now a (fState x.toNat)).2) :=
 h.call hk fun m s h1 h2 => gState_ok h1 ht ba h2 x
theorem DoSt.find (h : DoSt W0 W A rb B k M) {t : Value} {a : List Nat} (ht : Src W t a) (ba : Bytes a) : Calls Tryz.prog 16 #[ptr rb, t] W (FPost W (rFind M.now a)) := by
 obtain ⟨m, s, h1⟩ := h.reg;exact gFind_ok h1 ht ba
theorem DoSt.next (h : DoSt W0 W A rb B k M) {t1 t2 : Value} {p a : List Nat} (ht1 : Src W t1 p) (ht2 : Src W t2 a) (bp : Bytes p) (ba : Bytes a) : Calls Tryz.prog 17 #[ptr rb, t1, t2] W (FPost W (rNext M.now (fun e => begB p e.aid) a)) := by
 obtain ⟨m, s, h1⟩ := h.reg;exact gNext_ok h1 ht1 ht2 bp ba
theorem DoSt.keep (h : DoSt W0 W A rb B k M) {b : Nat} {cs : List Value} (hb : Blk W b cs 24) (hm : Mod A.S W W') : Blk W' b cs 24 := by
 obtain ⟨⟨m, s, h1, -⟩, -⟩ := h;exact hb.mod hm (h1.vl.rep.noS hb (by decide) (by decide))
end
theorem DoSt.new {w w1 : World} {e : Ending} (h : Opened w e w1) : ∃ A m rb, e = .returned (.tuple #[.agg #[ptr A.M.mb, ptr A.vb, ptr rb], .bool true]) ∧ DoSt w (w1.alloc (.cells #[ptr A.M.mb, ptr A.vb, ptr rb] 48)) A rb w1.heap.size 0 mFirst ∧ m = 0 := by
 obtain ⟨A, m, rb, rfl, h1, h2, h3, h4, h5⟩ := h;have hm := m1 w1 [ptr A.M.mb, ptr A.vb, ptr rb] 48;exact ⟨A, 0, rb, rfl, ⟨⟨m, _, h1.fresh hm, h4, Nat.le_refl _⟩, Blk.new w1 [ptr A.M.mb, ptr A.vb, ptr rb] _, h3, h5.trans hm⟩, rfl⟩
end Go.Proofs.YthmahbfmfpjjcaaGreat
