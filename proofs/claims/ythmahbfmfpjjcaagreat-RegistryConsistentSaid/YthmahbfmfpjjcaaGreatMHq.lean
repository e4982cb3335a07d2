/-
  The registry: moving an entry to another domain.
-/
import Derived.Test.YthmahbfmfpjjcaaGreatMG71
import Derived.Deep.DeepCutAuto
set_option linter.unusedVariables false
set_option linter.unusedSimpArgs false
set_option maxRecDepth 100000
namespace Go.Proofs.YthmahbfmfpjjcaaGreat
open Go.RowKit
open Jn Vn Rg
attribute [local go_sem] Oper.semAt_some
set_option maxHeartbeats 8000000 in
theorem cMoveW {W : World} {N B D rb : Nat} {a1 a2 a3 : Option Addr} {n1 n2 n3 c1 c2 c3 : Nat} {k st bf pr pk ob : Int} {q : Bool} {R : Ending → World → Prop}
  (hq : ∀ X, Mod Nowhere W X → Calls Tryz.prog 54 #[ptr rb, .slice a3 n3 c3] X fun e w' => e = .returned (.bool q) ∧ Mod Nowhere X w')
  (h22 : k = 1 → ∀ X, Mod Nowhere W X → R (.returned (errno 22)) X)
  (h12 : k ≠ 1 → q = false → ∀ X, Mod Nowhere W X → R (.returned (errno 12)) X)
  (hyes : k ≠ 1 → q = true → ∀ w1 w', Mod Nowhere W w1 → Mod (fun j => j = N) w1 w' → Blk w' N [.slice a1 n1 c1, .int .i64 k, .int .i64 st, .int .i64 bf, .int .i64 pr, .slice a3 n3 c3, .int .i64 pk, .int .i64 ob] 24 → R (.returned (errno 0)) w')
  (hb : Blk W N [.slice a1 n1 c1, .int .i64 k, .int .i64 st, .int .i64 bf, .int .i64 pr, .slice a2 n2 c2, .int .i64 pk, .int .i64 ob] 24) (hcl : ∀ X, Mod Nowhere W X → X.cell? ⟨N, 0, none⟩ = some (.slice a1 n1 c1) ∧ X.cell? ⟨N, 1, none⟩ = some (.int .i64 k) ∧ X.cell? ⟨N, 2, none⟩ = some (.int .i64 st) ∧ X.cell? ⟨N, 3, none⟩ = some (.int .i64 bf) ∧ X.cell? ⟨N, 4, none⟩ = some (.int .i64 pr) ∧ X.cell? ⟨N, 5, none⟩ = some (.slice a2 n2 c2) ∧ X.cell? ⟨N, 6, none⟩ = some (.int .i64 pk) ∧ X.cell? ⟨N, 7, none⟩ = some (.int .i64 ob) ∧ N < X.heap.size ∧ X.cell? ⟨B, 0, none⟩ = some (ptr rb) ∧ B < X.heap.size ∧ X.cell? ⟨D, 0, none⟩ = some (.slice a3 n3 c3) ∧ D < X.heap.size) :
  Calls Tryz.prog 66 #[ptr N, .pointer (some ⟨B, 0, none⟩), .pointer (some ⟨D, 0, none⟩)] W R := by
 obtain ⟨z0, z1, z2, z3, z4, z5, z6, z7, zl, t0, tl, u0, ul⟩ := hcl W (Mod.refl _ _);by_cases k1 : k = 1
 ·have kb : (k == 1) = true := by simpa using k1
  have hfin := h22 k1 _ (Mod.refl _ _);refine hid8 ?_ hq h22 h12 hyes hb hcl hfin k1; clear hq h22 h12 hyes hb hcl hfin k1; intro hq h22 h12 hyes hb hcl hfin k1;go_enter Tryz.func66, Tryz.ntmps66;go_wp2;exact hfin.out
 have kb : (k == 1) = false := by simpa using k1
 refine hid7 ?_ hq h22 h12 hyes hb hcl k1; clear hq h22 h12 hyes hb hcl k1; intro hq h22 h12 hyes hb hcl k1;go_enter Tryz.func66, Tryz.ntmps66;go_wp2_with fail;refine (hq.out _ (Mod.refl _ _)).mono ?_;rintro e v1 ⟨rfl, hm1⟩;obtain ⟨y0, y1, y2, y3, y4, y5, y6, y7, yl, s0, sl, x0, xl⟩ := hcl.out v1 hm1
 cases q
 ·have hfin := h12.out k1.out rfl _ hm1
  refine hid2 ?_ hfin hm1; clear hfin hm1; intro hfin hm1;go_wp2;exact hfin.out
 ·have bT := hb.out.mod hm1 id
  have f5 := bT.frozen 5;have hb2 := bT.setCell 5 (.slice a3 n3 c3);have hm2 : Mod (fun j => j = N) v1 (v1.setCell ⟨N, 5, none⟩ (.slice a3 n3 c3)) := (Mod.refl (fun j => j = N) v1).setCell (p := ⟨N, 5, none⟩) (fun _ => rfl) _;have hfin := hyes.out k1.out rfl _ _ hm1 hm2 hb2;clear hb2 hm2;refine hid3 ?_ hfin bT hm1; clear hfin bT hm1; intro hfin bT hm1;go_wp2;exact hfin.out
theorem fMove_22 {l : List En} {g : List Nat} {en : En} (h : en.kind = 1) : fMove l g en = (en, 22) := by unfold fMove; rw [if_pos h]
theorem fMove_12 {l : List En} {g : List Nat} {en : En} (h : en.kind ≠ 1) (h2 : l.any (isDom g) = false) : fMove l g en = (en, 12) := by unfold fMove; rw [if_neg h, if_pos h2]
theorem fMove_yes {l : List En} {g : List Nat} {en : En} (h : en.kind ≠ 1) (h2 : l.any (isDom g) = true) : fMove l g en = ({ en with dom := g }, 0) := by unfold fMove; rw [if_neg h, if_neg (by rw [h2]; decide)]
theorem cMove_ok {w W : World} {N rb : Nat} {A : VAt} {m : Mem} {s : VSt} {l : List En} (h : Reg W rb A m s l) (hm : Mod Nowhere w W) (hN : w.heap.size ≤ N) {u v d : Value} {g : List Nat} {en : En} (hd : Src w d g) (bg : Bytes g) (hb : Blk W N (eCells u v en.raw) 24) (hx : CE W u v en) {B D : Nat}
  (hcB : W.cell? ⟨B, 0, none⟩ = some (ptr rb)) (hB : B < W.heap.size) (hcD : W.cell? ⟨D, 0, none⟩ = some d) (hD : D < W.heap.size) :
  Calls Tryz.prog 66 #[ptr N, .pointer (some ⟨B, 0, none⟩), .pointer (some ⟨D, 0, none⟩)] W (ChPost W N (fMove l g en)) := by
 have hq : ∀ X, Mod Nowhere W X → Calls Tryz.prog 54 #[ptr rb, d] X fun e w' => e = .returned (.bool (l.any (isDom g))) ∧ Mod Nowhere X w' := fun X hx => gDomain_ok (h.fresh hx) (hd.fresh (hm.trans hx)) bg;have h22 : en.kind = 1 → ∀ X, Mod Nowhere W X → ChPost W N (fMove l g en) (.returned (errno 22)) X := fun h X hm => by rw [fMove_22 h]; exact ChPost.no (by decide) hm
 have h12 : en.kind ≠ 1 → l.any (isDom g) = false → ∀ X, Mod Nowhere W X → ChPost W N (fMove l g en) (.returned (errno 12)) X := fun h h2 X hm => by rw [fMove_12 h h2]; exact ChPost.no (by decide) hm
 have hyes : en.kind ≠ 1 → l.any (isDom g) = true → ∀ w1 w', Mod Nowhere W w1 → Mod (fun j => j = N) w1 w' → Blk w' N (eCells u d ({ en with dom := g } : En).raw) 24 → ChPost W N (fMove l g en) (.returned (errno 0)) w' := fun h1 h2 w1 w' hm1 hm2 hb' => by
  rw [fMove_yes h1 h2];have hs := shun1 (U := 5) (hb.mod hm1 id) (by decide);have d1 := DSl.mod (hx.d1.fresh hm1) hm2 hs;exact ⟨rfl, fun _ => ⟨u, d, hb', ⟨d1.src, hd.fresh ((hm.trans hm1).own hm2 hN), hx.ok.ba, bg⟩⟩, (hm1.nowhere (S := fun j => j = N)).trans hm2⟩
 have hcl : ∀ X, Mod Nowhere W X → X.cell? ⟨N, 0, none⟩ = some u ∧ X.cell? ⟨N, 1, none⟩ = some (.int .i64 en.kind) ∧ X.cell? ⟨N, 2, none⟩ = some (.int .i64 en.st) ∧ X.cell? ⟨N, 3, none⟩ = some (.int .i64 en.bf) ∧ X.cell? ⟨N, 4, none⟩ = some (.int .i64 en.pr) ∧ X.cell? ⟨N, 5, none⟩ = some v ∧ X.cell? ⟨N, 6, none⟩ = some (.int .i64 en.pk) ∧ X.cell? ⟨N, 7, none⟩ = some (.int .i64 en.ob) ∧ N < X.heap.size ∧ X.cell? ⟨B, 0, none⟩ = some (ptr rb) ∧ B < X.heap.size ∧ X.cell? ⟨D, 0, none⟩ = some d ∧ D < X.heap.size := fun X hm => by
  have Y := hb.mod hm id;exact ⟨Y.cell 0, Y.cell 1, Y.cell 2, Y.cell 3, Y.cell 4, Y.cell 5, Y.cell 6, Y.cell 7, Y.lt, (hm.cell (p := ⟨B, 0, none⟩) hB id).trans hcB, Nat.lt_of_lt_of_le hB hm.size, (hm.cell (p := ⟨D, 0, none⟩) hD id).trans hcD, Nat.lt_of_lt_of_le hD hm.size⟩
 obtain ⟨a1, c1, rfl, -⟩ := hx.inE.sa;obtain ⟨a2, c2, rfl, -⟩ := hx.inE.sd;obtain ⟨a3, c3, rfl, -⟩ := hd;refine cMoveW (k := (en.kind : Int)) (st := (en.st : Int)) (bf := (en.bf : Int)) (pr := (en.pr : Int)) (pk := (en.pk : Int)) (ob := (en.ob : Int)) hq (fun h => h22 (by omega)) (fun h1 h2 => h12 (by omega) h2) (fun h1 h2 w1 w' mm1 mm2 hb' => hyes (by omega) h2 w1 w' mm1 mm2 hb') hb hcl
set_option maxHeartbeats 2000000 in
theorem gMove_ok {w : World} {rb : Nat} {A : VAt} {m : Mem} {s : VSt} {M : Md} (h : RgM w rb A m s M) {t d : Value} {a g : List Nat} (ht : Src w t a) (ba : Bytes a) (hd : Src w d g) (bg : Bytes g) (hrm : Room m (vcost A)) :
  Calls Tryz.prog 23 #[ptr rb, t, d] w (RCall w A m s { M with now := (rChange M.now a (fMove M.now g)).1 } (rChange M.now a (fMove M.now g)).2) := by
 have hm1 := m2z w [ptr rb] [d] 29 22;have hB := blk_b (w := w) [ptr rb] [d] 29 22
 have hC := gChange_ok (h.fresh hm1) (ht.fresh hm1) ba hrm (fMove M.now g) 66 #[.pointer (some ⟨w.heap.size, 0, none⟩), .pointer (some ⟨w.heap.size + 1, 0, none⟩)] (enters_of Tryz.func66 (by kernel_rfl) rfl) (fMove_aid _ _) (move_inv h.inv a g)
  fun en hen W N u v hm hN hb hx => cMove_ok ((h.fresh hm1).reg.fresh hm) hm hN (hd.fresh hm1) bg hb hx (by have := (hB W hm).1.cell 0; simpa using this) (hB W hm).1.lt (by have := (hB W hm).2.cell 0; simpa using this) (hB W hm).2.lt
 have hfr : ∀ e w', RCall ((w.alloc (.cells [ptr rb].toArray 29)).alloc (.cells [d].toArray 22)) A m s { M with now := (rChange M.now a (fMove M.now g)).1 } (rChange M.now a (fMove M.now g)).2 e w' → (∃ n : Nat, e = .returned (errno n)) ∧ RCall w A m s { M with now := (rChange M.now a (fMove M.now g)).1 } (rChange M.now a (fMove M.now g)).2 e w' := fun e w' hc => ⟨hc.errno, hc.from hm1⟩;obtain ⟨ta, tc, rfl, -⟩ := ht;obtain ⟨da, dc, rfl, -⟩ := hd;generalize RCall w A m s { M with now := (rChange M.now a (fMove M.now g)).1 } (rChange M.now a (fMove M.now g)).2 = R at *;generalize a.length = n at *
 generalize g.length = n2 at *;clear h hB;refine hid3 ?_ hC hfr hm1; clear hC hfr hm1; intro hC hfr hm1;go_enter Tryz.func23, Tryz.ntmps23;go_wp2_with fail;refine (hC.out).mono ?_;rintro e w1 hc;obtain ⟨⟨ne, rfl⟩, hfin⟩ := hfr.out _ _ hc;refine hid2 ?_ hfin hc; clear hfin hc; intro hfin hc;go_wp2;exact hfin.out
end Go.Proofs.YthmahbfmfpjjcaaGreat
