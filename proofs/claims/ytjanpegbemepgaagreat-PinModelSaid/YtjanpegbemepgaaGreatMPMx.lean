/-
  The law PinModel: the walk.
-/
import Derived.Test.YtjanpegbemepgaaGreatMG45
import Derived.Test.YtjanpegbemepgaaGreatMG44
import Derived.Test.YtjanpegbemepgaaGreatMG47
import Derived.Test.YtjanpegbemepgaaGreatMG36
set_option linter.unusedVariables false
set_option linter.unusedSimpArgs false
set_option maxRecDepth 100000
namespace Go.Proofs.YtjanpegbemepgaaGreat
open Go.RowKit
open Jn Vn
attribute [local go_sem] Oper.semAt_some
theorem PGa.sure {D : Items → Prop} {w w' : World} {A : VAt} {m : Mem} {s s' : VSt} {left er j n c : Nat} {e : Ending} (h : PGa D w A m s' left er j e w') (hc : Card w A m s (n + j) c) (hpd : m.pending = false) (hp : PSP s') :
  e = .returned (.agg #[.int .i64 left, errno er]) ∧ ∃ m', Card w' A m' s' n c ∧ m'.pending = false ∧ Mod A.S w w' := by
 rcases h with ⟨m', k, a1, b1, hk, d, g⟩ | ⟨m', f, a1, b1, hg, d, g⟩
 ·exact ⟨a1, m', hc.after d hk b1 hp, d.pend.trans hpd, g⟩
 ·rw [d.pend] at hpd; cases hpd
theorem QLs.keepS {w w' : World} {A : VAt} {m : Mem} {s : VSt} {lv ov : Value} {S : QF} (h : QLs w lv ov S) (hr : VRep w A m s) (hm : Mod A.S w w') : QLs w' lv ov S := by
 obtain ⟨xs, os, h1, h2, h3, h4⟩ := h.ex;exact ⟨xs, os, h1.mod hm (hr.shunS (by decide) (by decide)) (hr.shunS (by decide) (by decide)), h2.mod hm (hr.shunS (by decide) (by decide)) (hr.shunS (by decide) (by decide)), h3, h4⟩
theorem seen_rel {s : VSt} (h : PSP s) : Seen (view s) (qOf s) := ⟨(ids_rel s h).symm, fun id _ => (info_rel s h id).symm⟩
theorem q0_ls (w : World) : QLs w (.slice none 0 0) (.slice none 0 0) (qOf (vst0 none_)) :=
 ⟨[], [], QSl.nil w, QSl.nil w, (ql_nil _ fun k => by
  show (pget (view (vst0 none_)) k).map _ = none
  have : pget (view (vst0 none_)) k = none := by
   cases hg : pget (view (vst0 none_)) k with
   | none => rfl
   | some d =>
    have hx : (pget (view (vst0 none_)) k).isSome = true := by rw [hg]; rfl
    have := (pget_some (PSP.idle0 .none .none).ps.view hx).1
    cases this
  rw [this]; rfl).symm, (ql_nil _ fun _ => rfl).symm⟩
structure MDa (w w' : World) (B C n k : Nat) (A : VAt) (m : Mem) (s : VSt) (pb : Nat) (lv ov : Value) : Prop where
 card : Card w' A m s n 0
 pd : m.pending = false
 len : s.l.length ≤ 2 * k
 pn : PnAt w' pb A.vb
 bb : Blk w' B [ptr A.M.mb, ptr A.vb, ptr pb] 28
 bc : Blk w' C [lv, .bool (qOf s).act, ov] 50
 ls : QLs w' lv ov (qOf s)
 nB : ¬ A.S B
 nC : ¬ A.S C
 hAS : ∀ j, A.S j → w.heap.size ≤ j
 hC : w.heap.size ≤ C
 mod : Mod Nowhere w w'
section
variable {w wr w2 X2 w4 : World} {B C n n' k : Nat} {A : VAt} {m m2 : Mem} {s s2 : VSt} {pb : Nat} {lv ov lv3 ov3 : Value}
theorem MDa.fresh (h : MDa w wr B C n k A m s pb lv ov) (hm : Mod Nowhere wr w2) : MDa w w2 B C n k A m s pb lv ov :=
 { h with card := h.card.fresh hm, pn := h.pn.fresh hm, bb := h.bb.mod hm (fun e => e), bc := h.bc.mod hm (fun e => e), ls := h.ls.fresh hm, mod := h.mod.trans hm }
theorem MDa.next (h : MDa w wr B C n k A m s pb lv ov) (hc : Card w2 A m2 s2 n' 0) (hpd : m2.pending = false) (hl : s2.l.length ≤ s.l.length + 2) (hm2 : Mod A.S wr w2) (m23 : Mod Nowhere w2 X2) (hq : QLs X2 lv3 ov3 (qOf s2)) :
  MDa w (put3 X2 C lv3 (.bool (qOf s2).act) ov3) B C n' (k + 1) A m2 s2 pb lv3 ov3 := by
 have cX := (h.bc.mod hm2 h.nC).mod m23 (fun e => e);obtain ⟨e1, m3⟩ := blk3 cX lv3 (.bool (qOf s2).act) ov3;have bX := (h.bb.mod hm2 h.nB).mod m23 (fun e => e);have pX := (Blk.mod h.pn hm2 (h.pn.notS h.card.rep)).mod m23 (fun e => e);refine ⟨{ hc with rep := (hc.rep.fresh m23).keepB m3 cX (by decide) }, hpd, by have := h.len; omega, ?_, ?_, e1, hq.box cX (by decide) m3, h.nB, h.nC, h.hAS, h.hC, ?_⟩
 ·refine Blk.mod pX m3 (fun e => ?_)
  have e : pb = C := e;rw [e] at pX;exact absurd (pX.inj cX).2 (by decide)
 ·refine Blk.mod bX m3 (fun e => ?_)
  have e : B = C := e;rw [e] at bX;exact absurd (bX.inj cX).2 (by decide)
 ·exact ((h.mod.step hm2 fun i hi e => absurd hi (by have := h.hAS i e; omega)).trans m23).newb m3 h.hC
end
theorem shortB_is {x : Pop} (h : shortB x.a.length x.b.length x.d.v.length x.d.u.length = true) : x.a.length ≤ 40 ∧ x.b.length ≤ 40 := by
 unfold shortB at h;simp only [Bool.and_eq_true, decide_eq_true_eq] at h;exact ⟨h.1.1.1, h.1.1.2⟩
structure SOut (w0 wx : World) (T2 T3 : Nat) (lv ov : Value) (R : QF × Nat × Nat) : Prop where
 bS : Blk wx T2 [lv, .bool R.1.act, ov] 50
 bA : Blk wx T3 [.int .i64 R.2.1, errno R.2.2] 52
 ls : QLs wx lv ov R.1
 mod : Mod Nowhere w0 wx
section
variable {w0 w3 : World} {T2 T3 : Nat} {lv ov : Value} {R : QF × Nat × Nat}
theorem so1 (h3 : Mod Nowhere w0 w3) (hl : QLs w3 lv ov R.1) : SOut w0 ((w3.alloc (.cells #[lv, .bool R.1.act, ov] 50)).alloc (.cells #[.int .i64 R.2.1, errno R.2.2] 52)) w3.heap.size (w3.heap.size + 1) lv ov R := by
 obtain ⟨b0, b1, hm⟩ := boxes2 w3 [lv, .bool R.1.act, ov] [.int .i64 R.2.1, errno R.2.2] 50 52;exact ⟨b0, b1, hl.fresh hm, h3.trans hm⟩
theorem so2 (h3 : Mod Nowhere w0 w3) (hl : QLs w3 lv ov R.1) : SOut w0 ((w3.alloc (.cells #[.int .i64 R.2.1, errno R.2.2] 52)).alloc (.cells #[lv, .bool R.1.act, ov] 50)) (w3.heap.size + 1) w3.heap.size lv ov R := by
 obtain ⟨b0, b1, hm⟩ := boxes2 w3 [.int .i64 R.2.1, errno R.2.2] [lv, .bool R.1.act, ov] 52 50;exact ⟨b1, b0, hl.fresh hm, h3.trans hm⟩
theorem so3 {o0 o1 o2 : Value} (h3 : Mod Nowhere w0 w3) (hl : QLs w3 lv ov R.1) (b : Blk w3 T2 [o0, o1, o2] 50) (hT : w0.heap.size ≤ T2) : SOut w0 ((put3 w3 T2 lv (.bool R.1.act) ov).alloc (.cells #[.int .i64 R.2.1, errno R.2.2] 52)) T2 w3.heap.size lv ov R := by
 obtain ⟨e1, m1⟩ := blk3 b lv (.bool R.1.act) ov;have z : (put3 w3 T2 lv (.bool R.1.act) ov).heap.size = w3.heap.size := by unfold put3; simp
 have bN := Blk.new (put3 w3 T2 lv (.bool R.1.act) ov) [.int .i64 R.2.1, errno R.2.2] 52;rw [z] at bN;exact ⟨e1.alloc _, bN, (hl.box b (by decide) m1).fresh ((Mod.refl _ _).alloc _), (h3.newb m1 hT).alloc _⟩
theorem so4 {o0 o1 o2 a0 a1 : Value} (h3 : Mod Nowhere w0 w3) (hl : QLs w3 lv ov R.1) (b : Blk w3 T2 [o0, o1, o2] 50) (c : Blk w3 T3 [a0, a1] 52) (hT : w0.heap.size ≤ T2) (hT3 : w0.heap.size ≤ T3) : SOut w0 (put2 (put3 w3 T2 lv (.bool R.1.act) ov) T3 (.int .i64 R.2.1) (errno R.2.2)) T2 T3 lv ov R := by
 obtain ⟨e1, m1⟩ := blk3 b lv (.bool R.1.act) ov;have hne : T2 ≠ T3 := b.no c (by decide);have c1 := c.mod m1 (fun e => hne e.symm);obtain ⟨e2, m2⟩ := blk2 c1 (.int .i64 R.2.1) (errno R.2.2);exact ⟨e1.mod m2 hne, e2, (hl.box b (by decide) m1).box c1 (by decide) m2, (h3.newb m1 hT).newb m2 hT3⟩
theorem so5 {a0 a1 : Value} (h3 : Mod Nowhere w0 w3) (hl : QLs w3 lv ov R.1) (c : Blk w3 T3 [a0, a1] 52) (hT3 : w0.heap.size ≤ T3) : SOut w0 ((put2 w3 T3 (.int .i64 R.2.1) (errno R.2.2)).alloc (.cells #[lv, .bool R.1.act, ov] 50)) w3.heap.size T3 lv ov R := by
 obtain ⟨e2, m2⟩ := blk2 c (.int .i64 R.2.1) (errno R.2.2);have z : (put2 w3 T3 (.int .i64 R.2.1) (errno R.2.2)).heap.size = w3.heap.size := by unfold put2; simp
 have bN := Blk.new (put2 w3 T3 (.int .i64 R.2.1) (errno R.2.2)) [lv, .bool R.1.act, ov] 50;rw [z] at bN;exact ⟨bN, e2.alloc _, (hl.box c (by decide) m2).fresh ((Mod.refl _ _).alloc _), (h3.newb m2 hT3).alloc _⟩
end
theorem PopIn.c11 {w : World} {b off : Nat} {op id did li lo hi cl : Int} {vv uv av bv : Value} {v u a c : List Nat} (h : PopIn w b off ⟨op, id, ⟨did, vv, v, li, lo, hi, uv, u, cl⟩, av, a, bv, c⟩) :
  (w.cell? ⟨b, off, none⟩ = some (.int .i64 op) ∧ w.cell? ⟨b, off + 1, none⟩ = some (.int .i64 id) ∧ w.cell? ⟨b, off + 2, none⟩ = some (.int .i64 did) ∧ w.cell? ⟨b, off + 3, none⟩ = some (vv) ∧ w.cell? ⟨b, off + 4, none⟩ = some (.int .i64 li) ∧ w.cell? ⟨b, off + 5, none⟩ = some (.int .i64 lo) ∧ w.cell? ⟨b, off + 6, none⟩ = some (.int .i64 hi) ∧ w.cell? ⟨b, off + 7, none⟩ = some (uv) ∧ w.cell? ⟨b, off + 8, none⟩ = some (.int .i64 cl) ∧ w.cell? ⟨b, off + 9, none⟩ = some (av) ∧ w.cell? ⟨b, off + 10, none⟩ = some (bv)) ∧ b < w.heap.size :=
 ⟨⟨h.cell 0 (by omega), h.cell 1 (by omega), h.cell 2 (by omega), h.cell 3 (by omega), h.cell 4 (by omega), h.cell 5 (by omega), h.cell 6 (by omega), h.cell 7 (by omega), h.cell 8 (by omega), h.cell 9 (by omega), h.cell 10 (by omega)⟩, h.lt⟩
set_option maxHeartbeats 16000000 in
theorem lawModel21_ok (v : Value) (l : List Pop) (w : World) (hin : InPops w v l) : Calls Tryz.prog 4 #[v] w fun e w' => e = .returned (.bool true) ∧ Below w.heap.size w w' := by
 obtain ⟨a, cap, rfl, h1, h2, h3⟩ := hin;have hE := fun W => awake21_ok W;have hbl : ∀ W : World, Mod Nowhere w W → Below w.heap.size w W := fun W h => h.below;have hB := fun W => begin21_ok W;refine hid4 ?_ hE hbl hB h3; clear hE hbl hB h3; intro hE hbl hB h3;by_cases hq : 20 < l.length
 ·have hqi : (20 : Int) < (l.length : Int) := by omega
  go_enter Tryz.func4, Tryz.ntmps4;go_wp2;have hfin := hbl.out _ (Mod.refl _ _);go_ret;exact ⟨rfl, hfin⟩
 have hqi : ¬ (20 : Int) < (l.length : Int) := by omega
 go_enter Tryz.func4, Tryz.ntmps4;go_wp2
 go_loopw [3] (fun i wr => ∃ k : Nat, k ≤ l.length ∧ i = .int .i64 k ∧ (∀ j (hj : j < l.length), j < k → shortB l[j].a.length l[j].b.length l[j].d.v.length l[j].d.u.length = true) ∧ Mod Nowhere w wr) (fun i _ => l.length - (RowKit.intOf i).toNat)
 case atStart => exact ⟨0, Nat.zero_le _, rfl, fun j _ hj => absurd hj (Nat.not_lt_zero _), Mod.refl _ _⟩
 case round =>
  obtain ⟨k, hk, rfl, hsh, hmod⟩ := hrel;by_cases hlt : k < l.length
  ·obtain ⟨b, off, rfl, hpo⟩ := h3.out (by omega)
   obtain ⟨x, hxk⟩ : ∃ x, l[k] = x := ⟨_, rfl⟩;have hx := (hpo k hlt).fresh hmod;rw [hxk] at hx;clear hpo;have hki : (k : Int) < (l.length : Int) := by omega
   obtain ⟨sa, ba, sb, bb, hd, hop, hid⟩ := hx.at_;have s1 := hd.sv;have s2 := hd.su
   have hnext : shortB x.a.length x.b.length x.d.v.length x.d.u.length = true → ∃ k' : Nat, k' ≤ l.length ∧ Value.int .i64 ((k : Int) + 1) = .int .i64 k' ∧ (∀ j (hj : j < l.length), j < k' → shortB l[j].a.length l[j].b.length l[j].d.v.length l[j].d.u.length = true) := fun hs =>
    ⟨k + 1, by omega, by go_num, fun j hj hjk => by
     by_cases e : j = k
     ·subst e; rw [hxk]; exact hs
     ·exact hsh j hj (by omega)⟩
   clear hd hop hid ba bb hxk;obtain ⟨op, id, ⟨did, vv, vl, li, lo, hi, uv, ul, cl'⟩, av, al, bv, bl⟩ := x;dsimp only at sa sb s1 s2 hnext;obtain ⟨aa, ac, rfl, -, -, -⟩ := sa;obtain ⟨ba, bc, rfl, -, -, -⟩ := sb;obtain ⟨va, vc, rfl, -, -, -⟩ := s1;obtain ⟨ua, uc, rfl, -, -, -⟩ := s2;obtain ⟨⟨c0, c1, c2, c3, c4, c5, c6, c7, c8, c9, c10⟩, cl⟩ := hx.c11;clear hx;have hS := short21_ok (w := wr) op id did va vl.length vc li lo hi ua ul.length uc cl' aa al.length ac ba bl.length bc;obtain ⟨q, hqq⟩ : ∃ q, shortB al.length bl.length vl.length ul.length = q := ⟨_, rfl⟩;rw [hqq] at hS hnext;refine hid5 ?_ hS hnext hsh hmod hqq; clear hS hnext hsh hmod hqq; intro hS hnext hsh hmod hqq
   cases q
   ·go_wp2_with fail
    refine hS.out.mono ?_;rintro e w2 ⟨rfl, hm2⟩;have hfin := hbl.out _ (hmod.out.trans hm2);go_wp2;go_ret;exact ⟨rfl, hfin⟩
   ·go_wp2_with fail
    refine hS.out.mono ?_;rintro e w2 ⟨rfl, hm2⟩;obtain ⟨k', n1, n2, n3⟩ := hnext.out trivial;have hfin := And.intro n3 (hmod.out.trans hm2);refine hid3 ?_ hfin hm2 n2; clear hfin hm2 n2; intro hfin hm2 n2;go_wp2;go_roundw
    case rel => exact ⟨k', n1, n2.out, hfin.out⟩
    case measure => simp [RowKit.intOf]; omega
  ·obtain rfl : k = l.length := by omega
   have hki : ¬ ((l.length : Int) < (l.length : Int)) := by omega
   have hall : ∀ j (hj : j < l.length), l[j].a.length ≤ 40 ∧ l[j].b.length ≤ 40 := fun j hj => shortB_is (hsh j hj hj);clear hsh;refine hid2 ?_ hall hmod; clear hall hmod; intro hall hmod;go_wp2_with fail;refine (hB.out _).mono ?_;rintro e w1 ⟨A, m, pb, rfl, hc, hp, hpb, hAS, hpd, hmw1⟩;unfold cardV;obtain ⟨b0, b1, m0⟩ := boxes2 w1 [ptr A.M.mb, ptr A.vb, ptr pb] [.slice none 0 0, .bool false, .slice none 0 0] 28 50;have z0 : ((w1.alloc (.cells #[ptr A.M.mb, ptr A.vb, ptr pb] 28)).alloc (.cells #[.slice none 0 0, .bool false, .slice none 0 0] 50)).heap.size = w1.heap.size + 1 + 1 := by simp
   obtain ⟨X0, hX0⟩ : ∃ X0, (w1.alloc (.cells #[ptr A.M.mb, ptr A.vb, ptr pb] 28)).alloc (.cells #[.slice none 0 0, .bool false, .slice none 0 0] 50) = X0 := ⟨_, rfl⟩;rw [hX0] at b0 b1 m0 z0;have hlt1 := hc.rep.lt;have hws := hmod.out.size;have hws1 := hmw1.size
   have hmd0 : MDa w X0 w1.heap.size (w1.heap.size + 1) (100 * 10000000) 0 A m (vst0 none_) pb (.slice none 0 0) (.slice none 0 0) :=
    ⟨hc.fresh m0, hpd, Nat.zero_le _, hp.fresh m0, b0, b1, q0_ls X0, fun e => by have := hlt1 _ e; omega, fun e => by have := hlt1 _ e; omega, fun j hj => by have := hAS j hj; omega, by omega, (hmod.out.trans hmw1).trans m0⟩
   obtain ⟨B, hBB⟩ : ∃ B, w1.heap.size = B := ⟨_, rfl⟩;rw [hBB] at hmd0;clear hc hp hpb hAS hpd b0 b1 m0 hlt1 z0;refine hid2 ?_ hmd0 hmw1; clear hmd0 hmw1; intro hmd0 hmw1;go_wp2
   go_loopw [7] (fun i wr => ∃ (k : Nat) (A : VAt) (m : Mem) (s : VSt) (pb : Nat) (lv ov : Value), k ≤ l.length ∧ i = .int .i64 k ∧ MDa w wr B (B + 1) ((100 - k) * 10000000) k A m s pb lv ov) (fun i _ => l.length - (RowKit.intOf i).toNat)
   case atStart => exact ⟨0, _, _, _, _, _, _, Nat.zero_le _, rfl, hmd0.out⟩
   case round =>
    clear hmd0 hX0 hki;obtain ⟨k, A, m, s, pb, lv, ov, hk, rfl, hM⟩ := hrel;by_cases hlt : k < l.length
    ·obtain ⟨b, off, rfl, hpo⟩ := h3.out (by omega)
     obtain ⟨x, hxk⟩ : ∃ x, l[k] = x := ⟨_, rfl⟩;have hx := hpo k hlt;have hl40 := hall.out k hlt;rw [hxk] at hx hl40;clear hpo;have hki : (k : Int) < (l.length : Int) := by omega
     have hk20 : k ≤ 20 := by omega
     have hat := hx.at_;have sa := hx.sa;have sb := hx.sb;have s1 := hx.d.sv;have s2 := hx.d.su;have hbx : ∀ X, Mod A.S wr X → Mod Nowhere w X := fun X hm => hM.mod.step hm fun i hi e => absurd hi (by have := hM.hAS i e; omega);have hdr := (Mod.refl Nowhere wr).drew;have hsS : ∀ (X : World), Mod Nowhere wr X → ∀ (v : Value) (d : List Nat), Src w v d → SrcS A X v d := fun X hx v d hs Y hm => hs.fresh (hbx Y (hx.nowhere.trans hm));have hZ := hM.card.z;have hps := hM.card.psp;have hxn : s.l.length ≤ 90000 := by have := hM.len; omega
     have hcost : cost5 A = 1278480 := by unfold cost5; rw [hM.card.cost]
     have hcd : ∀ X, Mod Nowhere wr X → Card X A m s ((100 - (k + 1)) * 10000000 + cost5 A) 0 := fun X hm => (hM.card.fresh hm).less (by rw [hcost]; omega) (Nat.le_refl 0);have hCa0 := fun X (hx : Mod Nowhere wr X) => call21_ok (hM.pn.fresh hx) (hcd X hx).rep hxn hps.ps hZ hM.card.two ((hat.fresh hM.mod).fresh hx) (hsS X hx _ _ sa) (hsS X hx _ _ sb) (hsS X hx _ _ s1) (hsS X hx _ _ s2) ((hcd X hx).room (by omega) (Nat.le_add_left _ _)) A.M.mb;have hSt0 := fun X (hm : Mod Nowhere w X) v (hq : QRep X v (qOf s)) => step21_ok hq (qOf_ok hps) (qOf_tries hps) (hat.fresh hm) (by omega) (by omega);obtain ⟨hr1, hps2⟩ := op_rel hps hZ hat;have hlen := op_len hps hZ hat
     obtain ⟨G, hG⟩ : ∃ G, pOp A.Z s x = G := ⟨_, rfl⟩;obtain ⟨R, hR⟩ : ∃ R, qOp (qOf s) x = R := ⟨_, rfl⟩;rw [hG] at hCa0 hr1 hps2 hlen;rw [hR] at hSt0 hr1;have e1 : G.left = R.2.1 := by rw [hr1]
     have e2 : G.e = R.2.2 := by rw [hr1]
     have e3 : qOf G.s = R.1 := by rw [hr1]
     rw [e1, e2] at hCa0;clear hG hR hr1 e1 e2 hat hxk hl40;obtain ⟨av0, hav0⟩ : ∃ av0, (qOf s).act = av0 := ⟨_, rfl⟩;obtain ⟨la, ln, lc, oa, om, oc, rfl, rfl⟩ := hM.ls.form;obtain ⟨op, id, ⟨did, vv, vl, li, lo, hi, uv, ul, cl'⟩, av, al, bv, bl⟩ := x;dsimp only at sa sb s1 s2;obtain ⟨aa, ac, rfl, -, -, -⟩ := sa;obtain ⟨xb, bc, rfl, -, -, -⟩ := sb;obtain ⟨va, vc, rfl, -, -, -⟩ := s1;obtain ⟨ua, uc, rfl, -, -, -⟩ := s2;have hCa : ∀ X, Mod Nowhere wr X → Calls Tryz.prog 19 #[.agg #[ptr A.M.mb, ptr A.vb, ptr pb], .agg #[.int .i64 op, .int .i64 id, .int .i64 did, .slice va vl.length vc, .int .i64 li, .int .i64 lo, .int .i64 hi, .slice ua ul.length uc, .int .i64 cl', .slice aa al.length ac, .slice xb bl.length bc]] X (PGa (midIn G) X A m G.s R.2.1 R.2.2 (cost5 A)) := hCa0;have hSt : ∀ X, Mod Nowhere w X → ∀ v, QRep X v (qOf s) → Calls Tryz.prog 20 #[v, .agg #[.int .i64 op, .int .i64 id, .int .i64 did, .slice va vl.length vc, .int .i64 li, .int .i64 lo, .int .i64 hi, .slice ua ul.length uc, .int .i64 cl', .slice aa al.length ac, .slice xb bl.length bc]] X (StAns X R) := hSt0
     clear hCa0 hSt0
     have hx11 : ∀ X, Mod A.S wr X → (X.cell? ⟨b, off + k * 11, none⟩ = some (.int .i64 op) ∧ X.cell? ⟨b, off + k * 11 + 1, none⟩ = some (.int .i64 id) ∧ X.cell? ⟨b, off + k * 11 + 2, none⟩ = some (.int .i64 did) ∧ X.cell? ⟨b, off + k * 11 + 3, none⟩ = some (.slice va vl.length vc) ∧ X.cell? ⟨b, off + k * 11 + 4, none⟩ = some (.int .i64 li) ∧ X.cell? ⟨b, off + k * 11 + 5, none⟩ = some (.int .i64 lo) ∧ X.cell? ⟨b, off + k * 11 + 6, none⟩ = some (.int .i64 hi) ∧ X.cell? ⟨b, off + k * 11 + 7, none⟩ = some (.slice ua ul.length uc) ∧ X.cell? ⟨b, off + k * 11 + 8, none⟩ = some (.int .i64 cl') ∧ X.cell? ⟨b, off + k * 11 + 9, none⟩ = some (.slice aa al.length ac) ∧ X.cell? ⟨b, off + k * 11 + 10, none⟩ = some (.slice xb bl.length bc)) ∧ b < X.heap.size := fun X hm => by
      exact (hx.fresh (hbx X hm)).c11
     obtain ⟨⟨p0, p1, p2, p3, p4, p5, p6, p7, p8, p9, p10⟩, pl⟩ := hx11 wr (Mod.refl _ _)
     have hBX : ∀ X, Mod A.S wr X → X.cell? ⟨B, 0, none⟩ = some (ptr A.M.mb) ∧ X.cell? ⟨B, 1, none⟩ = some (ptr A.vb) ∧ X.cell? ⟨B, 2, none⟩ = some (ptr pb) ∧ B < X.heap.size := fun X hm =>
      ⟨(hM.bb.mod hm hM.nB).cell 0, (hM.bb.mod hm hM.nB).cell 1, (hM.bb.mod hm hM.nB).cell 2, (hM.bb.mod hm hM.nB).lt⟩
     obtain ⟨kB0, kB1, kB2, kBl⟩ := hBX wr (Mod.refl _ _);have hpd := hM.pd;refine hid12 ?_ hM hBX hbx hdr hsS hps hcost hcd hps2 hlen e3 hav0; clear hM hBX hbx hdr hsS hps hcost hcd hps2 hlen e3 hav0; intro hM hBX hbx hdr hsS hps hcost hcd hps2 hlen e3 hav0;refine hid5 ?_ hCa hSt hx11 hx hpd; clear hCa hSt hx11 hx hpd; intro hCa hSt hx11 hx hpd;have mA := ((Mod.refl Nowhere wr).alloc (.cells #[.int .i64 0, .int .i64 0] 52)).drew;have bA : Blk (wr.alloc (.cells #[.int .i64 0, .int .i64 0] 52)).drew wr.heap.size [.int .i64 0, .int .i64 0] 52 := (Blk.new wr [.int .i64 0, .int .i64 0] 52).drew;have nTA : ¬ A.S wr.heap.size := fun e => by have := hM.out.card.rep.lt _ e; omega
     refine hid3 ?_ mA bA nTA; clear mA bA nTA; intro mA bA nTA
     go_upto_region 15 with (fail)
     go_cut [8] (fun v wx => ∃ T m2, v = ptr T ∧ Blk wx T [.int .i64 R.2.1, errno R.2.2] 52 ∧ Card wx A m2 G.s ((100 - (k + 1)) * 10000000) 0 ∧ m2.pending = false ∧ Mod A.S wr wx)
     case first =>
      go_region_held3 (fun w' => (w'.cell? ⟨B, 0, none⟩ = some (ptr A.M.mb) ∧ w'.cell? ⟨B, 1, none⟩ = some (ptr A.vb) ∧ w'.cell? ⟨B, 2, none⟩ = some (ptr pb)) ∧ (w'.cell? ⟨b, off + k * 11, none⟩ = some (.int .i64 op) ∧ w'.cell? ⟨b, off + k * 11 + 1, none⟩ = some (.int .i64 id) ∧ w'.cell? ⟨b, off + k * 11 + 2, none⟩ = some (.int .i64 did) ∧ w'.cell? ⟨b, off + k * 11 + 3, none⟩ = some (.slice va vl.length vc) ∧ w'.cell? ⟨b, off + k * 11 + 4, none⟩ = some (.int .i64 li) ∧ w'.cell? ⟨b, off + k * 11 + 5, none⟩ = some (.int .i64 lo) ∧ w'.cell? ⟨b, off + k * 11 + 6, none⟩ = some (.int .i64 hi) ∧ w'.cell? ⟨b, off + k * 11 + 7, none⟩ = some (.slice ua ul.length uc) ∧ w'.cell? ⟨b, off + k * 11 + 8, none⟩ = some (.int .i64 cl') ∧ w'.cell? ⟨b, off + k * 11 + 9, none⟩ = some (.slice aa al.length ac) ∧ w'.cell? ⟨b, off + k * 11 + 10, none⟩ = some (.slice xb bl.length bc))) (simp [*, World.cell?_alloc_some, World.cell?_setCell_far, World.cell?_setCell_other])
       (first
        | (go_at_call 19; (with_reducible refine (hCa.out _ mA.out).mono ?_); rintro e w2 hc2; obtain ⟨rfl, m2, hcd2, hpd2, hm2⟩ := hc2.sure (hcd.out _ mA.out) hpd.out hps2.out; have bT := bA.out.mod hm2 nTA.out; have yl := bT.lt; have yf0 := bT.frozen 0; have yf1 := bT.frozen 1; have y0 := bT.cell 0; have y1 := bT.cell 1; simp only [List.getElem?_cons_zero, List.getElem?_cons_succ] at y0 y1; have hmS := mA.out.nowhere.trans hm2; obtain ⟨⟨x0, x1, x2, x3, x4, x5, x6, x7, x8, x9, x10⟩, xl⟩ := hx11.out w2 hmS; obtain ⟨r0, r1, r2, rl⟩ := hBX.out w2 hmS; clear hc2; replace hcd2 := Lib.hid hcd2; replace hpd2 := Lib.hid hpd2; replace hm2 := Lib.hid hm2; replace hmS := Lib.hid hmS; replace bT := Lib.hid bT)
        | (go_at_call 19; (with_reducible refine (hCa.out _ hdr.out).mono ?_); rintro e w2 hc2; obtain ⟨rfl, m2, hcd2, hpd2, hm2⟩ := hc2.sure (hcd.out _ hdr.out) hpd.out hps2.out; have hmS := hdr.out.nowhere.trans hm2; obtain ⟨⟨x0, x1, x2, x3, x4, x5, x6, x7, x8, x9, x10⟩, xl⟩ := hx11.out w2 hmS; obtain ⟨r0, r1, r2, rl⟩ := hBX.out w2 hmS; clear hc2; replace hcd2 := Lib.hid hcd2; replace hpd2 := Lib.hid hpd2; replace hm2 := Lib.hid hm2; replace hmS := Lib.hid hmS)
        | fail)
      ·have ma := (Mod.refl Nowhere w2).alloc (.cells #[.int .i64 R.2.1, errno R.2.2] 52)
       have hfin : ∃ T m2', ptr w2.heap.size = ptr T ∧ Blk (w2.alloc (.cells #[.int .i64 R.2.1, errno R.2.2] 52)) T [.int .i64 R.2.1, errno R.2.2] 52 ∧ Card (w2.alloc (.cells #[.int .i64 R.2.1, errno R.2.2] 52)) A m2' G.s ((100 - (k + 1)) * 10000000) 0 ∧ m2'.pending = false ∧ Mod A.S wr (w2.alloc (.cells #[.int .i64 R.2.1, errno R.2.2] 52)) :=
        ⟨_, m2, rfl, Blk.new w2 [.int .i64 R.2.1, errno R.2.2] 52, hcd2.out.fresh ma, hpd2.out, hmS.out.trans ma.nowhere⟩
       go_wp2;go_meet
       case rel => exact hfin
      ·obtain ⟨e1, m1⟩ := blk2 bT.out (.int .i64 R.2.1) (errno R.2.2)
       have hfin : ∃ T m2', ptr wr.heap.size = ptr T ∧ Blk (put2 w2 wr.heap.size (.int .i64 R.2.1) (errno R.2.2)) T [.int .i64 R.2.1, errno R.2.2] 52 ∧ Card (put2 w2 wr.heap.size (.int .i64 R.2.1) (errno R.2.2)) A m2' G.s ((100 - (k + 1)) * 10000000) 0 ∧ m2'.pending = false ∧ Mod A.S wr (put2 w2 wr.heap.size (.int .i64 R.2.1) (errno R.2.2)) :=
        ⟨_, m2, rfl, e1, { hcd2.out with rep := hcd2.out.rep.keepB m1 bT.out (by decide) }, hpd2.out, hmS.out.step m1 fun i hi e => by have e : i = wr.heap.size := e; omega⟩
       unfold put2 at hfin;go_wp2;go_meet
       case rel => exact hfin
     case rest =>
      obtain ⟨T, m2, rfl, bT, hcd2, hpd2, hmS1⟩ := hcut;have bC := hM.out.bc.mod hmS1 hM.out.nC;rw [hav0.out] at bC;have hL1 := hM.out.ls.keepS hM.out.card.rep hmS1;have hdr1 := (Mod.refl Nowhere wc).drew;have hmw1 := hbx.out wc hmS1;have hSt1 := fun X (hm : Mod Nowhere wc X) => hSt.out X (hmw1.trans hm) (.agg #[.slice la ln lc, .bool av0, .slice oa om oc]) ⟨_, _, by rw [hav0.out], hL1.fresh hm⟩;clear p0 p1 p2 p3 p4 p5 p6 p7 p8 p9 p10 pl kB0 kB1 kB2 kBl;obtain ⟨⟨p0, p1, p2, p3, p4, p5, p6, p7, p8, p9, p10⟩, pl⟩ := hx11.out wc hmS1
      have hCX : ∀ X, Mod Nowhere wc X → X.cell? ⟨B + 1, 0, none⟩ = some (.slice la ln lc) ∧ X.cell? ⟨B + 1, 1, none⟩ = some (.bool av0) ∧ X.cell? ⟨B + 1, 2, none⟩ = some (.slice oa om oc) ∧ B + 1 < X.heap.size := fun X hm =>
       ⟨(bC.mod hm (fun e => e)).cell 0, (bC.mod hm (fun e => e)).cell 1, (bC.mod hm (fun e => e)).cell 2, (bC.mod hm (fun e => e)).lt⟩
      obtain ⟨kC0, kC1, kC2, kCl⟩ := hCX wc (Mod.refl _ _);refine hid10 ?_ bT hcd2 hpd2 hmS1 bC hL1 hdr1 hmw1 hSt1 hCX; clear bT hcd2 hpd2 hmS1 bC hL1 hdr1 hmw1 hSt1 hCX; intro bT hcd2 hpd2 hmS1 bC hL1 hdr1 hmw1 hSt1 hCX
      go_upto_region 16 with (fail)
      go_cut [9, 10] (fun u v wx => ∃ T2 T3 lv3 ov3, u = ptr T2 ∧ v = ptr T3 ∧ SOut wc wx T2 T3 lv3 ov3 R)
      case first =>
       have mS := (Mod.refl Nowhere wc).alloc (.cells #[.slice none 0 0, .bool false, .slice none 0 0] 50);have mS1 := mS.drew;have bS1 : Blk (wc.alloc (.cells #[.slice none 0 0, .bool false, .slice none 0 0] 50)).drew wc.heap.size [.slice none 0 0, .bool false, .slice none 0 0] 50 := (Blk.new wc [.slice none 0 0, .bool false, .slice none 0 0] 50).drew;have mA2 := ((Mod.refl Nowhere wc).alloc (.cells #[.int .i64 0, .int .i64 0] 52)).drew;have bA2 : Blk (wc.alloc (.cells #[.int .i64 0, .int .i64 0] 52)).drew wc.heap.size [.int .i64 0, .int .i64 0] 52 := (Blk.new wc [.int .i64 0, .int .i64 0] 52).drew;obtain ⟨bS3', bA3', mC3'⟩ := boxes2 wc [.slice none 0 0, .bool false, .slice none 0 0] [.int .i64 0, .int .i64 0] 50 52
       have bS3 := bS3'.drew;have bA3 := bA3'.drew;have mC3 := mC3'.drew;obtain ⟨bA4', bS4', mC4'⟩ := boxes2 wc [.int .i64 0, .int .i64 0] [.slice none 0 0, .bool false, .slice none 0 0] 52 50;have bA4 := bA4'.drew;have bS4 := bS4'.drew;have mC4 := mC4'.drew;clear bS3' bA3' mC3' bS4' bA4' mC4';refine hid11 ?_ mS mS1 bS1 mA2 bA2 bS3 bA3 mC3 bS4 bA4 mC4; clear mS mS1 bS1 mA2 bA2 bS3 bA3 mC3 bS4 bA4 mC4; intro mS mS1 bS1 mA2 bA2 bS3 bA3 mC3 bS4 bA4 mC4
       go_region_held3 (fun w' => (w'.cell? ⟨B + 1, 0, none⟩ = some (.slice la ln lc) ∧ w'.cell? ⟨B + 1, 1, none⟩ = some (.bool av0) ∧ w'.cell? ⟨B + 1, 2, none⟩ = some (.slice oa om oc)) ∧ (w'.cell? ⟨b, off + k * 11, none⟩ = some (.int .i64 op) ∧ w'.cell? ⟨b, off + k * 11 + 1, none⟩ = some (.int .i64 id) ∧ w'.cell? ⟨b, off + k * 11 + 2, none⟩ = some (.int .i64 did) ∧ w'.cell? ⟨b, off + k * 11 + 3, none⟩ = some (.slice va vl.length vc) ∧ w'.cell? ⟨b, off + k * 11 + 4, none⟩ = some (.int .i64 li) ∧ w'.cell? ⟨b, off + k * 11 + 5, none⟩ = some (.int .i64 lo) ∧ w'.cell? ⟨b, off + k * 11 + 6, none⟩ = some (.int .i64 hi) ∧ w'.cell? ⟨b, off + k * 11 + 7, none⟩ = some (.slice ua ul.length uc) ∧ w'.cell? ⟨b, off + k * 11 + 8, none⟩ = some (.int .i64 cl') ∧ w'.cell? ⟨b, off + k * 11 + 9, none⟩ = some (.slice aa al.length ac) ∧ w'.cell? ⟨b, off + k * 11 + 10, none⟩ = some (.slice xb bl.length bc))) (simp [*, World.cell?_alloc_some, World.cell?_setCell_far, World.cell?_setCell_other])
        (first
         | (go_at_call 20; (with_reducible refine (hSt1.out _ hdr1.out).mono ?_); rintro e w3 ⟨u3, rfl, ⟨lv3, ov3, rfl, hL3⟩, hm3⟩; obtain ⟨la3, ln3, lc3, oa3, om3, oc3, rfl, rfl⟩ := hL3.form; have hm13 := hdr1.out.trans hm3; obtain ⟨⟨x0, x1, x2, x3, x4, x5, x6, x7, x8, x9, x10⟩, xl⟩ := hx11.out w3 (hmS1.out.trans hm13.nowhere); obtain ⟨r0, r1, r2, rl⟩ := hCX.out w3 hm13; replace hm13 := Lib.hid hm13; replace hL3 := Lib.hid hL3; replace hm3 := Lib.hid hm3)
         | (go_at_call 20; (with_reducible refine (hSt1.out _ mS1.out).mono ?_); rintro e w3 ⟨u3, rfl, ⟨lv3, ov3, rfl, hL3⟩, hm3⟩; obtain ⟨la3, ln3, lc3, oa3, om3, oc3, rfl, rfl⟩ := hL3.form; have hm13 := mS1.out.trans hm3; obtain ⟨⟨x0, x1, x2, x3, x4, x5, x6, x7, x8, x9, x10⟩, xl⟩ := hx11.out w3 (hmS1.out.trans hm13.nowhere); obtain ⟨r0, r1, r2, rl⟩ := hCX.out w3 hm13; have bS := bS1.out.mod hm3 (fun e => e); have sl := bS.lt; have sf := bS.frozen; have s0 := bS.cell 0; have s1 := bS.cell 1; have s2 := bS.cell 2; simp only [List.getElem?_cons_zero, List.getElem?_cons_succ] at s0 s1 s2; replace bS := Lib.hid bS; replace hm13 := Lib.hid hm13; replace hL3 := Lib.hid hL3; replace hm3 := Lib.hid hm3)
         | (go_at_call 20; (with_reducible refine (hSt1.out _ mA2.out).mono ?_); rintro e w3 ⟨u3, rfl, ⟨lv3, ov3, rfl, hL3⟩, hm3⟩; obtain ⟨la3, ln3, lc3, oa3, om3, oc3, rfl, rfl⟩ := hL3.form; have hm13 := mA2.out.trans hm3; obtain ⟨⟨x0, x1, x2, x3, x4, x5, x6, x7, x8, x9, x10⟩, xl⟩ := hx11.out w3 (hmS1.out.trans hm13.nowhere); obtain ⟨r0, r1, r2, rl⟩ := hCX.out w3 hm13; have bA := bA2.out.mod hm3 (fun e => e); have al' := bA.lt; have af := bA.frozen; have a0 := bA.cell 0; have a1 := bA.cell 1; simp only [List.getElem?_cons_zero, List.getElem?_cons_succ] at a0 a1; replace bA := Lib.hid bA; replace hm13 := Lib.hid hm13; replace hL3 := Lib.hid hL3; replace hm3 := Lib.hid hm3)
         | (go_at_call 20; (with_reducible refine (hSt1.out _ mC3.out).mono ?_); rintro e w3 ⟨u3, rfl, ⟨lv3, ov3, rfl, hL3⟩, hm3⟩; obtain ⟨la3, ln3, lc3, oa3, om3, oc3, rfl, rfl⟩ := hL3.form; have hm13 := mC3.out.trans hm3; obtain ⟨⟨x0, x1, x2, x3, x4, x5, x6, x7, x8, x9, x10⟩, xl⟩ := hx11.out w3 (hmS1.out.trans hm13.nowhere); obtain ⟨r0, r1, r2, rl⟩ := hCX.out w3 hm13; have bS := bS3.out.mod hm3 (fun e => e); have sl := bS.lt; have sf := bS.frozen; have s0 := bS.cell 0; have s1 := bS.cell 1; have s2 := bS.cell 2; simp only [List.getElem?_cons_zero, List.getElem?_cons_succ] at s0 s1 s2; replace bS := Lib.hid bS; have bA := bA3.out.mod hm3 (fun e => e); have al' := bA.lt; have af := bA.frozen; have a0 := bA.cell 0; have a1 := bA.cell 1; simp only [List.getElem?_cons_zero, List.getElem?_cons_succ] at a0 a1; replace bA := Lib.hid bA; replace hm13 := Lib.hid hm13; replace hL3 := Lib.hid hL3; replace hm3 := Lib.hid hm3)
         | (go_at_call 20; (with_reducible refine (hSt1.out _ mC4.out).mono ?_); rintro e w3 ⟨u3, rfl, ⟨lv3, ov3, rfl, hL3⟩, hm3⟩; obtain ⟨la3, ln3, lc3, oa3, om3, oc3, rfl, rfl⟩ := hL3.form; have hm13 := mC4.out.trans hm3; obtain ⟨⟨x0, x1, x2, x3, x4, x5, x6, x7, x8, x9, x10⟩, xl⟩ := hx11.out w3 (hmS1.out.trans hm13.nowhere); obtain ⟨r0, r1, r2, rl⟩ := hCX.out w3 hm13; have bS := bS4.out.mod hm3 (fun e => e); have sl := bS.lt; have sf := bS.frozen; have s0 := bS.cell 0; have s1 := bS.cell 1; have s2 := bS.cell 2; simp only [List.getElem?_cons_zero, List.getElem?_cons_succ] at s0 s1 s2; replace bS := Lib.hid bS; have bA := bA4.out.mod hm3 (fun e => e); have al' := bA.lt; have af := bA.frozen; have a0 := bA.cell 0; have a1 := bA.cell 1; simp only [List.getElem?_cons_zero, List.getElem?_cons_succ] at a0 a1; replace bA := Lib.hid bA; replace hm13 := Lib.hid hm13; replace hL3 := Lib.hid hL3; replace hm3 := Lib.hid hm3)
         | fail)
       ·have hfin := so1 hm13.out hL3.out
        go_wp2;go_meet
        case rel => exact ⟨_, _, _, _, rfl, rfl, hfin⟩
       ·have hfin := so2 hm13.out hL3.out
        go_wp2;go_meet
        case rel => exact ⟨_, _, _, _, rfl, rfl, hfin⟩
       ·have hfin := so3 hm13.out hL3.out bS.out (Nat.le_refl _)
        unfold put3 at hfin;go_wp2;go_meet
        case rel => exact ⟨_, _, _, _, rfl, rfl, hfin⟩
       ·have hfin := so4 hm13.out hL3.out bS.out bA.out (Nat.le_refl _) (Nat.le_succ _)
        unfold put2 put3 at hfin;go_wp2;go_meet
        case rel => exact ⟨_, _, _, _, rfl, rfl, hfin⟩
       ·have hfin := so5 hm13.out hL3.out bA.out (Nat.le_refl _)
        unfold put2 at hfin;go_wp2;go_meet
        case rel => exact ⟨_, _, _, _, rfl, rfl, hfin⟩
       ·have hfin := so4 hm13.out hL3.out bS.out bA.out (Nat.le_succ _) (Nat.le_refl _)
        unfold put2 put3 at hfin;go_wp2;go_meet
        case rel => exact ⟨_, _, _, _, rfl, rfl, hfin⟩
      case rest =>
       obtain ⟨T2, T3, lv3, ov3, rfl, rfl, hSO⟩ := hcut;obtain ⟨la3, ln3, lc3, oa3, om3, oc3, rfl, rfl⟩ := hSO.ls.form;have hN := hM.out.next hcd2.out hpd2.out hlen.out hmS1.out hSO.mod (by rw [e3.out]; exact hSO.ls);have hSe0 := seen_rel hps2.out;have bT2 := bT.out.mod hSO.mod (fun e => e);have bC2 := bC.out.mod hSO.mod (fun e => e);have m3 := (blk3 bC2 (.slice la3 ln3 lc3) (.bool R.1.act) (.slice oa3 om3 oc3)).2;rw [e3.out] at hN hSe0;have bT3 := bT2.mod m3 (bT2.no bC2 (by decide));have bA3 := hSO.bA.mod m3 (hSO.bA.no bC2 (by decide));obtain ⟨X3, hX3⟩ : ∃ X3, put3 wc (B + 1) (.slice la3 ln3 lc3) (.bool R.1.act) (.slice oa3 om3 oc3) = X3 := ⟨_, rfl⟩;rw [hX3] at hN m3 bT3 bA3
       have hSe := seen21_ok hN.pn hN.card.rep (by have := hN.len; omega) hN.card.psp.ps.view ⟨_, _, rfl, hN.ls⟩ (qOf_ok hN.card.psp);have hbc := hN.bc;rw [e3.out] at hSe hbc;obtain ⟨av3, hav3⟩ : ∃ av3, R.1.act = av3 := ⟨_, rfl⟩;have bS := hSO.bS;rw [hav3] at hX3 hbc hSe bS;have s0 := bS.cell 0;have s1 := bS.cell 1;have s2 := bS.cell 2;have sl := bS.lt;have g0 := bC2.cell 0;have g1 := bC2.cell 1;have g2 := bC2.cell 2;have gl := bC2.lt;have gf := bC2.frozen;have t0 := bT3.cell 0;have t1 := bT3.cell 1;have tl := bT3.lt;have a0 := bA3.cell 0;have a1 := bA3.cell 1;have al' := bA3.lt;have j2 := hN.bb.cell 2;have jl := hN.bb.lt
       have i0 := hbc.cell 0;have i1 := hbc.cell 1;have i2 := hbc.cell 2;have il := hbc.lt;simp only [List.getElem?_cons_zero, List.getElem?_cons_succ] at s0 s1 s2 g0 g1 g2 t0 t1 a0 a1 j2 i0 i1 i2;clear p0 p1 p2 p3 p4 p5 p6 p7 p8 p9 p10 pl kC0 kC1 kC2 kCl;unfold put3 at hX3;refine hid12 ?_ hN hSe0 bT2 bC2 m3 bT3 bA3 hSe hbc hSO bS hav3; clear hN hSe0 bT2 bC2 m3 bT3 bA3 hSe hbc hSO bS hav3; intro hN hSe0 bT2 bC2 m3 bT3 bA3 hSe hbc hSO bS hav3;go_wp2_with fail;refine hSe.out.mono ?_;rintro e w4 ⟨b', rfl, hb', hm4⟩;obtain rfl : b' = true := hb' hSe0.out;have hfin := hN.out.fresh hm4;clear hb';refine hid2 ?_ hfin hm4; clear hfin hm4; intro hfin hm4
       go_wp2;go_roundw
       case rel => exact ⟨k + 1, _, _, _, _, _, _, by omega, by go_num, hfin.out⟩
       case measure => simp [RowKit.intOf]; omega
    ·obtain rfl : k = l.length := by omega
     replace hM := Lib.hid hM;go_wp2_with fail;refine (hE.out _).mono ?_;rintro e w2 ⟨rfl, hm2⟩;have hfin := hbl.out _ (hM.out.mod.trans hm2);go_wp2;go_ret;exact ⟨rfl, hfin⟩
end Go.Proofs.YtjanpegbemepgaaGreat
