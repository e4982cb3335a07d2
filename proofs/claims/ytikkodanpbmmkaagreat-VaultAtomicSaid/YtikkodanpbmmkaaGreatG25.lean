/-
  A vault whose memory has another plan for a cut; a vault that is not alive any more.
-/
import Derived.Test.YtikkodanpbmmkaaGreatG18
import Derived.Test.YtikkodanpbmmkaaGreatG19
import Derived.Test.YtikkodanpbmmkaaGreatVpl
import Derived.Test.YtikkodanpbmmkaaGreatG23
set_option linter.unusedVariables false
set_option linter.unusedSimpArgs false
namespace Go.Proofs.YtikkodanpbmmkaaGreat
open Go.RowKit
open Jn Vn
attribute [local go_sem] Oper.semAt_some

theorem Mem.Good.of {m m' : Mem} (h : m.Good) (e : m'.words = m.words) : m'.Good := fun a ha => by
  unfold Mem.size at ha
  rw [e] at ha ⊢
  exact h a ha
theorem Mem.Clean.of {m m' : Mem} (h : m.Clean) (e : m'.words = m.words) : m'.Clean := fun a ha => by
  unfold Mem.size at ha
  rw [e] at ha ⊢
  exact h a ha
theorem Mem.D_of {m m' : Mem} (e : m'.words = m.words) : m'.D = m.D := by
  funext a; unfold Mem.D; rw [e]
theorem Jr.replan {w w' : World} {jb : Nat} {M : MemAt} {m m' : Mem} {P : PAt} {p : PSt} {pc : PC} (h : Jr w jb M m P p pc) (hm : Mod M.S w w') (hR : MemRep w' M m') (e1 : m'.words = m.words) (e2 : m'.writes = m.writes) (e3 : m'.cuts = m.cuts) (e4 : m'.off = m.off) : Jr w' jb M m' P p pc :=
  ⟨⟨⟨hR, h.pg.ctx.blk.mod hm h.pg.ctx.dP, h.pg.ctx.dP, e4.trans h.pg.ctx.off, h.pg.ctx.good.of e1⟩,
    h.pg.rep.mod hm h.pg.rep.dM (fun k hk e => h.pg.rep.df k hk (.inr e)),
    by rw [Mem.D_of e1, e2]; exact h.pg.inv, by have := h.pg.fit; unfold Mem.size at *; rw [e1]; exact this, h.pg.alive.trans e3.symm⟩,
   h.bj.mod hm (fun e => h.jn (.inr e)), h.jn, h.c33⟩
section
variable {w w' : World} {A : VAt} {m m' : Mem} {s : VSt} {f : Items}
theorem VRep.replan (h : VRep w A m s) (hm : Mod A.M.S w w') (hR : MemRep w' A.M m') (e1 : m'.words = m.words) (e2 : m'.writes = m.writes) (e3 : m'.cuts = m.cuts) (e4 : m'.off = m.off) : VRep w' A m' s := by
  obtain ⟨P, p, pc, J, bank, end_, ib, lv, xs, h⟩ := h.ex
  exact (h.jmod (bank' := bank) (end' := end_) (hm.mono fun _ _ e => .inr e) (h.jr.replan hm hR e1 e2 e3 e4) h.of h.st h.bk).rep
theorem VRep.mem (h : VRep w A m s) : MemRep w A.M m ∧ m.off = false ∧ m.Good ∧ m.cuts = A.cuts := by
  obtain ⟨P, p, pc, J, bank, end_, ib, lv, xs, h⟩ := h.ex
  exact ⟨h.jr.pg.ctx.mem, h.jr.pg.ctx.off, h.jr.pg.ctx.good, h.jr.pg.alive.symm.trans h.of.cuts⟩
theorem VRep.noM (h : VRep w A m s) : ¬ A.M.S A.vb := by
  obtain ⟨P, p, pc, J, bank, end_, ib, lv, xs, h⟩ := h.ex
  exact fun e => h.vbJ (.inr e)
/-- A block of another type stays where the vault is called. -/
theorem VRep.keeps {b : Nat} {cs : List Value} {T : TypeId} (h : VRep w A m s) (hb : Blk w b cs T) (hm : Mod A.S w w') (hT : T ≠ 142 ∧ T ≠ 3 ∧ T ≠ 108 ∧ T ≠ 151) (hV : T ≠ 80) : Blk w' b cs T := by
  obtain ⟨P, p, pc, J, bank, end_, ib, lv, xs, h⟩ := h.ex
  exact hb.mod hm fun e => h.shunS hT hV b e _ hb
theorem VDead.stub (h : VDead w A m f) : ∃ P p, VStub w A m P p ∧ alive m p = false := by
  obtain ⟨P, p, pc, J, bank, end_, hP, hO, _⟩ := h.ex
  obtain ⟨b, e, ib, act, lv, hbv⟩ := h.bv
  refine ⟨P, p, ⟨hbv.cell 0, ⟨by rw [hO.pb]; exact h.bj, hP.bp⟩, h.mem⟩, ?_⟩
  unfold alive
  rw [hO.cuts]
  rcases h.off with e | e
  · rw [e]; rfl
  · have : (m.cuts == A.cuts) = false := by simpa using e
    rw [this]; simp
theorem VDead.vmem (h : VDead w A m f) : VMem m A.count A.frames f := by
  obtain ⟨P, p, pc, J, bank, end_, _, _, a, b, c⟩ := h.ex
  exact ⟨pc, J, bank, end_, a, b, c⟩
theorem VMem.of {C N : Nat} (h : VMem m C N f) (e1 : m'.words = m.words) (e2 : m'.writes = m.writes) : VMem m' C N f := by
  obtain ⟨pc, J, bank, end_, a, b, c⟩ := h.ex
  exact ⟨pc, J, bank, end_, by rw [Mem.D_of e1, e2]; exact a, b, c⟩
/-- What a vault that is alive has in its memory. -/
theorem VStub.mod {P : PAt} {p : PSt} (h : VStub w A m P p) (hm : Mod Nowhere w w') : VStub w' A m P p :=
  ⟨(hm.cell (p := ⟨A.vb, 0, none⟩) (cell_lt' h.cell) id).trans h.cell, ⟨h.jb.bj.mod hm id, h.jb.bp.mod hm id⟩, h.mem.mod hm fun _ _ => id⟩
end
end Go.Proofs.YtikkodanpbmmkaaGreat
/-
  The vault: deleting, and what it tells of itself.
-/
namespace Go.Proofs.YtikkodanpbmmkaaGreat
open Go.RowKit
open Jn Vn
attribute [local go_sem] Oper.semAt_some

set_option maxRecDepth 100000 in
set_option maxHeartbeats 2000000 in
theorem vDelete_ok {w : World} {A : VAt} {m : Mem} {s : VSt} (h : VRep w A m s) (hxn : s.l.length ≤ 1000000) (id : Int) (hrm : Room m (vcost A)) :
    Calls Tryz.prog 78 #[ptr A.vb, .int .i64 id] w (VCall w A m s (vDel A.Z s id).1 (vDel A.Z s id).2 (vcost A)) := by
  obtain ⟨P, p, pc, J, bank, end_, ib, lv, xs, h⟩ := h.ex
  have hBg := vBegun_ok h.stub id none 0 0 (by omega)
  have hal : alive m p = true := h.jr.pg.alive_true
  rw [hal] at hBg
  have hrun := h.jr.runs
  have hxl : xs.length = s.l.length := by rw [← h.xl, recs_len]
  have hsame : ∀ W er, Mod Nowhere w W → VCall w A m s s er (vcost A) (.returned (errno er)) W := fun W er hm => VCall.same (h.fresh hm).rep hrun hm.nowhere
  unfold vDel
  by_cases hv : validB id 0 = true
  · rw [if_pos hv]
    rw [if_pos hv, show ((okE true : Nat) : Int) = 0 from rfl] at hBg
    obtain ⟨hrok, hid, hi1, hi2⟩ := validB_none hv
    have hG := fun W (hm : Mod Nowhere w W) => vGet_ok (h.fresh hm) (by omega) id (by omega) (by omega)
    have hCh := fun W (hm : Mod Nowhere w W) => vChange_ok (cv := .slice none 0 0) (r := (id.toNat, none)) (h.fresh hm) hxn (Sl.nil _ _ _) hrok hrm
    have hag : vAgg ((.slice none 0 0 : Value), ((id.toNat, none) : Rec)) = .agg #[.int .i64 id, .slice none 0 0, .bool true] := by
      unfold vAgg
      rw [show (((id.toNat, none) : Rec).1) = id.toNat from rfl, hid]; rfl
    rw [hag] at hCh
    replace hBg := Lib.hid hBg
    replace hG := Lib.hid hG
    replace hCh := Lib.hid hCh
    replace hrok := Lib.hid hrok
    replace hid := Lib.hid hid
    replace hal := Lib.hid hal
    replace hsame := Lib.hid hsame
    replace hv := Lib.hid hv
    replace hag := Lib.hid hag
    generalize at_ (sets s.f s.l) id = o at *
    replace h := Lib.hid h
    cases o with
    | none =>
      rw [if_neg (by simp)]
      go_enter Tryz.func78, Tryz.ntmps78
      go_wp2_with fail
      refine hBg.out.mono ?_
      rintro e w1 ⟨rfl, k, rfl⟩
      have hm1 : Mod Nowhere w (w.drewN k) := (Mod.refl _ w).drewN k
      have hG1 := hG.out _ hm1
      replace hG1 := Lib.hid hG1
      generalize w.drewN k = w1 at *
      go_wp2_with fail
      refine hG1.out.mono ?_
      rintro e w2 ⟨v2, rfl, hown2, hm2⟩
      obtain ⟨a2, c2, rfl, -⟩ := owns_form hown2
      have hfin := hsame.out w2 12 (hm1.trans hm2)
      replace hfin := Lib.hid hfin
      clear hown2
      go_wp2
      go_ret
      exact hfin.out
    | some d0 =>
      rw [if_pos (by rfl)]
      go_enter Tryz.func78, Tryz.ntmps78
      go_wp2_with fail
      refine hBg.out.mono ?_
      rintro e w1 ⟨rfl, k, rfl⟩
      have hm1 : Mod Nowhere w (w.drewN k) := (Mod.refl _ w).drewN k
      have hG1 := hG.out _ hm1
      replace hG1 := Lib.hid hG1
      generalize w.drewN k = w1 at *
      go_wp2_with fail
      refine hG1.out.mono ?_
      rintro e w2 ⟨v2, rfl, hown2, hm2⟩
      obtain ⟨a2, c2, rfl, -⟩ := owns_form hown2
      have hm02 := hm1.trans hm2
      have hCh2 := hCh.out w2 hm02
      replace hCh2 := Lib.hid hCh2
      replace hm02 := Lib.hid hm02
      clear hown2 hm2
      go_wp2_with fail
      refine hCh2.out.mono ?_
      rintro e w3 hpost
      have hfin := hpost.from (hm02.out.nowhere (S := A.S))
      obtain ⟨ne, rfl⟩ := hfin.errno
      replace hfin := Lib.hid hfin
      clear hpost
      go_wp2
      go_ret
      exact hfin.out
  · rw [if_neg hv]
    rw [if_neg hv, show (((1 : Nat)) : Int) = 1 from rfl] at hBg
    replace hBg := Lib.hid hBg
    replace hsame := Lib.hid hsame
    replace h := Lib.hid h
    replace hv := Lib.hid hv
    go_enter Tryz.func78, Tryz.ntmps78
    go_wp2_with fail
    refine hBg.out.mono ?_
    rintro e w1 ⟨rfl, k, rfl⟩
    have hfin := hsame.out (w.drewN k) 1 ((Mod.refl _ w).drewN k)
    go_wp2
    go_ret
    exact hfin
set_option maxRecDepth 100000 in
set_option maxHeartbeats 1000000 in
theorem vLeft_at {w : World} {A : VAt} {m : Mem} {s : VSt} (h : VRep w A m s) (hxn : s.l.length ≤ 1000000) {nd : Nat} (hnd : Vn.need s.l = nd) :
    Calls Tryz.prog 45 #[ptr A.vb] w fun e w' => e = .returned (.int .i64 (4096 - (nd : Int))) ∧ Mod Nowhere w w' := by
  obtain ⟨P, p, pc, J, bank, end_, ib, lv, xs, h⟩ := h.ex
  have hR := vReady_ok h.stub
  rw [h.jr.pg.alive_true, show ((okE true : Nat) : Int) = 0 from rfl] at hR
  have hxl : xs.length = s.l.length := by rw [← h.xl, recs_len]
  have hokx : ∀ x ∈ xs, ROk x.2 := fun x hx => h.ok _ (by rw [← h.xl]; exact List.mem_map_of_mem hx)
  have hN := fun W (hm : Mod Nowhere w W) => vNeed_ok (h.fresh hm).ls hokx (by omega)
  have hle := need_le h.ok
  rw [h.xl, hnd] at hN
  rw [hnd] at hle
  replace hnd := Lib.hid hnd
  replace hxl := Lib.hid hxl
  have hw : IntKind.i64.wrap (4096 - (nd : Int)) = 4096 - (nd : Int) := by rw [IntKind.wrap_i64]; omega
  replace hle := Lib.hid hle
  have c5 := fun W (hm : Mod Nowhere w W) => (h.fresh hm).bv.cell 5
  have hvl := h.bv.lt
  obtain ⟨la, lc, rfl, -, -, -⟩ := h.ls.sl.gen
  replace hR := Lib.hid hR
  replace hN := Lib.hid hN
  replace c5 := Lib.hid c5
  replace h := Lib.hid h
  replace hokx := Lib.hid hokx
  go_enter Tryz.func45, Tryz.ntmps45
  go_wp2_with fail
  refine hR.out.mono ?_
  rintro e w1 ⟨rfl, k, rfl⟩
  have hm1 : Mod Nowhere w (w.drewN k) := (Mod.refl _ w).drewN k
  have k5 : (w.drewN k).cell? ⟨A.vb, 5, none⟩ = some (.slice la xs.length lc) := c5.out _ hm1
  have hN1 := hN.out _ hm1
  replace hN1 := Lib.hid hN1
  generalize w.drewN k = w1 at *
  go_wp2_with fail
  refine hN1.out.mono ?_
  rintro e w2 ⟨rfl, hm2⟩
  go_wp2
  go_ret
  exact ⟨rfl, hm1.trans hm2⟩
theorem vLeft_ok {w : World} {A : VAt} {m : Mem} {s : VSt} (h : VRep w A m s) (hxn : s.l.length ≤ 1000000) :
    Calls Tryz.prog 45 #[ptr A.vb] w fun e w' => e = .returned (.int .i64 (4096 - (Vn.need s.l : Int))) ∧ Mod Nowhere w w' := vLeft_at h hxn rfl
set_option maxRecDepth 100000 in
set_option maxHeartbeats 1000000 in
theorem vUsed_ok {w : World} {A : VAt} {m : Mem} {s : VSt} (h : VRep w A m s) :
    Calls Tryz.prog 57 #[ptr A.vb] w fun e w' => e = .returned (.int .i64 (wt s.f : Nat)) ∧ Mod Nowhere w w' := by
  obtain ⟨P, p, pc, J, bank, end_, ib, lv, xs, h⟩ := h.ex
  have hR := vReady_ok h.stub
  rw [h.jr.pg.alive_true, show ((okE true : Nat) : Int) = 0 from rfl] at hR
  have hN := fun W (hm : Mod Nowhere w W) => vWeight_ok (h.fresh hm).im h.bk.iok
  have c3 := fun W (hm : Mod Nowhere w W) => (h.fresh hm).bv.cell 3
  have hvl := h.bv.lt
  generalize wt s.f = nd at *
  replace hR := Lib.hid hR
  replace hN := Lib.hid hN
  replace c3 := Lib.hid c3
  replace h := Lib.hid h
  go_enter Tryz.func57, Tryz.ntmps57
  go_wp2_with fail
  refine hR.out.mono ?_
  rintro e w1 ⟨rfl, k, rfl⟩
  have hm1 : Mod Nowhere w (w.drewN k) := (Mod.refl _ w).drewN k
  have k3 : (w.drewN k).cell? ⟨A.vb, 3, none⟩ = some (.map (some ib)) := c3.out _ hm1
  have hN1 := hN.out _ hm1
  replace hN1 := Lib.hid hN1
  generalize w.drewN k = w1 at *
  go_wp2_with fail
  refine hN1.out.mono ?_
  rintro e w2 ⟨rfl, hm2⟩
  go_wp2
  go_ret
  exact ⟨rfl, hm1.trans hm2⟩
set_option maxRecDepth 100000 in
set_option maxHeartbeats 1000000 in
theorem vRoomP_ok {w : World} {A : VAt} {m : Mem} {s : VSt} (h : VRep w A m s) :
    Calls Tryz.prog 58 #[ptr A.vb] w fun e w' => e = .returned (.int .i64 (A.Z / 2 : Nat)) ∧ Mod Nowhere w w' := by
  obtain ⟨P, p, pc, J, bank, end_, ib, lv, xs, h⟩ := h.ex
  have hR := vReady_ok h.stub
  rw [h.jr.pg.alive_true, show ((okE true : Nat) : Int) = 0 from rfl] at hR
  have h33 := h.jr.c33
  have h16 := h.jr.pg.rep.c16
  rw [h.of.count] at h33 h16
  have hN := fun W (hm : Mod Nowhere w W) => vRoom_ok (h.fresh hm).stub h.of h33 h16
  generalize A.Z / 2 = nd at *
  replace hR := Lib.hid hR
  replace hN := Lib.hid hN
  replace h := Lib.hid h
  go_enter Tryz.func58, Tryz.ntmps58
  go_wp2_with fail
  refine hR.out.mono ?_
  rintro e w1 ⟨rfl, k, rfl⟩
  have hm1 : Mod Nowhere w (w.drewN k) := (Mod.refl _ w).drewN k
  have hN1 := hN.out _ hm1
  replace hN1 := Lib.hid hN1
  generalize w.drewN k = w1 at *
  go_wp2_with fail
  refine hN1.out.mono ?_
  rintro e w2 ⟨rfl, rfl⟩
  go_wp2
  go_ret
  exact ⟨rfl, hm1⟩
/-- The numbers of all items, as a slice. -/
def IdsPost (w : World) (f : Items) (e : Ending) (w' : World) : Prop :=
  ∃ v, e = .returned v ∧ w'.ownsRow w.heap.size 3 1 v (dom f).length ((dom f).map fun k : Nat => Value.int .i64 (k : Int)) ∧ Mod Nowhere w w'
set_option maxRecDepth 100000 in
set_option maxHeartbeats 1000000 in
theorem vIDs_ok {w : World} {A : VAt} {m : Mem} {s : VSt} (h : VRep w A m s) (hxn : s.l.length ≤ 1000000) :
    Calls Tryz.prog 59 #[ptr A.vb] w (IdsPost w (sets s.f s.l)) := by
  obtain ⟨P, p, pc, J, bank, end_, ib, lv, xs, h⟩ := h.ex
  have hR := vReady_ok h.stub
  rw [h.jr.pg.alive_true, show ((okE true : Nat) : Int) = 0 from rfl] at hR
  have hxl : xs.length = s.l.length := by rw [← h.xl, recs_len]
  have hN := fun W (hm : Mod Nowhere w W) => vSeen_ok (h.fresh hm) (by omega)
  replace hR := Lib.hid hR
  replace hN := Lib.hid hN
  replace h := Lib.hid h
  go_enter Tryz.func59, Tryz.ntmps59
  go_wp2_with fail
  refine hR.out.mono ?_
  rintro e w1 ⟨rfl, k, rfl⟩
  have hm1 : Mod Nowhere w (w.drewN k) := (Mod.refl _ w).drewN k
  have hN1 := hN.out _ hm1
  replace hN1 := Lib.hid hN1
  generalize w.drewN k = w1 at *
  go_wp2_with fail
  refine hN1.out.mono ?_
  rintro e w2 ⟨b2, rfl, hb2, hmp, hm2⟩
  obtain ⟨g, hg, hgf⟩ := hmp.ex
  have hS := vSorted_ok hg
  have hdm := VMap.dom hgf
  have hm02 := hm1.trans hm2
  replace hS := Lib.hid hS
  replace hm02 := Lib.hid hm02
  clear hg hgf hmp hN1
  go_wp2_with fail
  refine hS.out.mono ?_
  rintro e w3 ⟨v, rfl, hown, hm3⟩
  rw [hdm] at hown
  have hfin : IdsPost w (sets s.f s.l) (.returned v) w3 := ⟨v, rfl, ownsRow_base_a hown (Nat.le_trans hm1.size hm2.size), hm02.out.trans hm3⟩
  obtain ⟨va, vc, rfl, -⟩ := owns_form hown
  replace hfin := Lib.hid hfin
  clear hown hm3
  go_wp2
  go_ret
  exact hfin.out
set_option maxRecDepth 100000 in
set_option maxHeartbeats 1000000 in
theorem vSave_ok {w : World} {A : VAt} {m : Mem} {s : VSt} (h : VRep w A m s) :
    Calls Tryz.prog 43 #[ptr A.vb] w fun e w' => e = .returned (.int .i64 (s.l.length : Nat)) ∧ Mod Nowhere w w' := by
  obtain ⟨P, p, pc, J, bank, end_, ib, lv, xs, h⟩ := h.ex
  have hA := vActive_ok h.stub (show w.cell? ⟨A.vb, 4, none⟩ = some (.bool s.act) from h.bv.cell 4)
  rw [h.jr.pg.alive_true, Bool.true_and] at hA
  have hxl : xs.length = s.l.length := by rw [← h.xl, recs_len]
  have hid : s.act = false → s.l.length = 0 := fun e => by rw [h.idle e]; rfl
  have c5 := fun W (hm : Mod Nowhere w W) => (h.fresh hm).bv.cell 5
  have hvl := h.bv.lt
  obtain ⟨la, lc, rfl, -, -, -⟩ := h.ls.sl.gen
  replace hA := Lib.hid hA
  replace c5 := Lib.hid c5
  replace h := Lib.hid h
  generalize s.l.length = n at *
  cases hact : s.act
  · rw [hact] at hA hid
    have hn : n = 0 := hid rfl
    replace hn := Lib.hid hn
    clear hid
    go_enter Tryz.func43, Tryz.ntmps43
    go_wp2_with fail
    refine hA.out.mono ?_
    rintro e w1 ⟨rfl, k, rfl⟩
    go_wp2
    go_ret
    exact ⟨ret_int (by rw [hn.out]; rfl), (Mod.refl _ w).drewN k⟩
  · rw [hact] at hA
    go_enter Tryz.func43, Tryz.ntmps43
    go_wp2_with fail
    refine hA.out.mono ?_
    rintro e w1 ⟨rfl, k, rfl⟩
    have hm1 : Mod Nowhere w (w.drewN k) := (Mod.refl _ w).drewN k
    have k5 : (w.drewN k).cell? ⟨A.vb, 5, none⟩ = some (.slice la xs.length lc) := c5.out _ hm1
    generalize w.drewN k = w1 at *
    go_wp2
    go_ret
    exact ⟨rfl, hm1⟩
end Go.Proofs.YtikkodanpbmmkaaGreat
/-
  The vault: changes whose data come from any slice; going back.
-/
namespace Go.Proofs.YtikkodanpbmmkaaGreat
open Go.RowKit
open Jn Vn
attribute [local go_sem] Oper.semAt_some

set_option maxRecDepth 100000 in
set_option maxHeartbeats 2000000 in
theorem vPutS_ok {w : World} {A : VAt} {m : Mem} {s : VSt} (h : VRep w A m s) (hxn : s.l.length ≤ 1000000) (id : Int) {v : Value} {d : List Nat} (hd : Src w v d) (hb : Bytes d) (hdn : d.length ≤ 1099511627776) (hrm : Room m (vcost A)) :
    Calls Tryz.prog 72 #[ptr A.vb, .int .i64 id, v] w (VCall w A m s (vPut A.Z s id d).1 (vPut A.Z s id d).2 (vcost A)) := by
  obtain ⟨P, p, pc, J, bank, end_, ib, lv, xs, h⟩ := h.ex
  have hd0 := hd
  obtain ⟨va, vc, rfl, -⟩ := hd
  have hBg := vBegun_ok h.stub id va d.length vc hdn
  have hal : alive m p = true := h.jr.pg.alive_true
  rw [hal] at hBg
  have hrun := h.jr.runs
  unfold vPut
  by_cases hv : validB id d.length = true
  · rw [if_pos hv]
    rw [if_pos hv, show ((okE true : Nat) : Int) = 0 from rfl] at hBg
    obtain ⟨hrok, hid⟩ := validB_ok hv hb
    have hcl := fun n => Clone_src (hd0.fresh ((Mod.refl Nowhere w).drewN n)) hdn
    replace hBg := Lib.hid hBg
    replace hcl := Lib.hid hcl
    replace h := Lib.hid h
    replace hd0 := Lib.hid hd0
    replace hrok := Lib.hid hrok
    replace hid := Lib.hid hid
    replace hal := Lib.hid hal
    obtain ⟨dl, hdl⟩ : ∃ dl, d.length = dl := ⟨_, rfl⟩
    rw [hdl] at hBg hcl ⊢
    replace hdl := Lib.hid hdl
    replace hv := Lib.hid hv
    go_enter Tryz.func72, Tryz.ntmps72
    go_wp2_with fail
    refine hBg.out.mono ?_
    rintro e w1 ⟨rfl, k, rfl⟩
    have hm1 : Mod Nowhere w (w.drewN k) := (Mod.refl _ w).drewN k
    have hcl1 := hcl.out k
    replace hcl1 := Lib.hid hcl1
    generalize w.drewN k = w1 at *
    go_wp2_with fail
    refine hcl1.out.mono ?_
    rintro e w2 ⟨a2, c2, rfl, hown2, hm2⟩
    have hm02 := hm1.trans hm2
    have hds : DSl w2 (.slice a2 dl c2) d := by
      have h9 := Sl.of_owns hown2
      rw [DSl, hdl.out]; exact h9
    have hCh := vChange_ok (cv := .slice a2 dl c2) (r := (id.toNat, some d)) (h.out.fresh hm02) hxn hds hrok.out hrm
    have hag : vAgg ((.slice a2 dl c2 : Value), ((id.toNat, some d) : Rec)) = .agg #[.int .i64 id, .slice a2 dl c2, .bool false] := by
      unfold vAgg
      rw [show (((id.toNat, some d) : Rec).1) = id.toNat from rfl, hid.out]; rfl
    rw [hag] at hCh
    replace hCh := Lib.hid hCh
    replace hm02 := Lib.hid hm02
    clear hown2 hm2 hds hag
    go_wp2_with fail
    refine hCh.out.mono ?_
    rintro e w3 hpost
    have hfin := hpost.from (hm02.out.nowhere (S := A.S))
    obtain ⟨ne, rfl⟩ := hfin.errno
    replace hfin := Lib.hid hfin
    clear hpost
    go_wp2
    go_ret
    exact hfin.out
  · rw [if_neg hv]
    rw [if_neg hv, show (((1 : Nat)) : Int) = 1 from rfl] at hBg
    have hfin : ∀ k, VCall w A m s s 1 (vcost A) (.returned (errno 1)) (w.drewN k) := fun k => VCall.same (h.fresh ((Mod.refl Nowhere w).drewN k)).rep hrun ((Mod.refl A.S w).drewN k)
    replace hBg := Lib.hid hBg
    replace hfin := Lib.hid hfin
    replace h := Lib.hid h
    replace hd0 := Lib.hid hd0
    replace hal := Lib.hid hal
    replace hv := Lib.hid hv
    go_enter Tryz.func72, Tryz.ntmps72
    go_wp2_with fail
    refine hBg.out.mono ?_
    rintro e w1 ⟨rfl, k, rfl⟩
    have hf := hfin.out k
    replace hf := Lib.hid hf
    clear hfin
    go_wp2
    go_ret
    exact hf.out

/-! ### Is there a change of this number? -/
set_option maxRecDepth 100000 in
set_option maxHeartbeats 1000000 in
theorem IndexFunc_vc {w : World} {v : Value} {xs : List Vx} (h : VcSl w v xs) (hl : xs.length ≤ 1099511627776) (g : FuncId) (cap : Array Value) (hent : ∀ args w, (callFunc g args).run Tryz.prog w = .ok (.enter g args) w) (pd : Vx → Bool)
    (hcall : ∀ x ∈ xs, ∀ wr, Mod Nowhere w wr → Calls Tryz.prog g (#[.agg #[.int .i64 x.2.1, x.1, .bool x.2.2.isNone]] ++ cap) wr fun e w' => e = .returned (.bool (pd x)) ∧ Mod Nowhere wr w') :
    Calls Tryz.prog 136 #[v, .func (.func g) #[] cap] w fun e w' => ∃ r : Int, e = .returned (.int .i64 r) ∧ decide (0 ≤ r) = xs.any pd ∧ Mod Nowhere w w' := by
  obtain ⟨a, vc, rfl, h1, h2, _⟩ := h.sl.gen
  replace h := Lib.hid h
  replace hcall := Lib.hid hcall
  go_enter Tryz.func136, Tryz.ntmps136
  go_wp2
  go_loopw [8] (fun i wr => ∃ k : Nat, k ≤ xs.length ∧ i = .int .i64 k ∧ (xs.take k).any pd = false ∧ Mod Nowhere w wr) (fun i _ => xs.length - (intOf i).toNat)
  case atStart => exact ⟨0, by omega, rfl, rfl, Mod.refl _ _⟩
  case round =>
    obtain ⟨k, hk, rfl, hno, hm⟩ := hrel
    replace hno := Lib.hid hno
    by_cases hlt : k < xs.length
    · obtain ⟨b, off, cap', xa, xc, e0, hb, _, _, c1, c2, c3, e3⟩ := (h.out.fresh hm).at_ hlt
      have hC := hcall.out xs[k] (List.getElem_mem hlt) wr hm
      have htk : (xs.take (k + 1)).any pd = ((xs.take k).any pd || pd xs[k]) := by rw [List.take_succ_eq_append_getElem hlt, List.any_append]; simp only [List.any_cons, List.any_nil, Bool.or_false]
      obtain ⟨rfl, rfl⟩ : a = some ⟨b, off, none⟩ ∧ vc = cap' := by
        simp at e0; exact ⟨e0.1, e0.2⟩
      have hany : pd xs[k] = true → xs.any pd = true := fun hp => List.any_eq_true.2 ⟨xs[k], List.getElem_mem hlt, hp⟩
      rw [e3] at c2 hC
      generalize (xs[k].2.2.getD []).length = q at *
      generalize xs[k].2.2.isNone = gn at *
      generalize xs[k].2.1 = o at *
      replace e3 := Lib.hid e3
      replace hC := Lib.hid hC
      replace hm := Lib.hid hm
      replace htk := Lib.hid htk
      cases hp : pd xs[k]
      · rw [hp] at hC
        replace hp := Lib.hid hp
        go_wp2_with fail
        refine hC.out.mono ?_
        rintro e w1 ⟨rfl, hm1⟩
        go_wp2
        go_roundw
        case rel => exact ⟨k + 1, by omega, by go_num, by rw [htk.out, hno.out, hp.out]; rfl, hm.out.trans hm1⟩
        case measure => simp [intOf]; omega
      · rw [hp] at hC
        have hany2 := hany hp
        replace hany2 := Lib.hid hany2
        clear hany
        replace hp := Lib.hid hp
        go_wp2_with fail
        refine hC.out.mono ?_
        rintro e w1 ⟨rfl, hm1⟩
        go_wp2
        go_ret
        exact ⟨_, rfl, by rw [hany2.out]; simp, hm.out.trans hm1⟩
    · obtain rfl : k = xs.length := by omega
      rw [List.take_length] at hno
      replace hm := Lib.hid hm
      go_wp2
      go_ret
      exact ⟨_, rfl, by rw [hno.out]; rfl, hm.out⟩
set_option maxRecDepth 100000 in
set_option maxHeartbeats 1000000 in
theorem ContainsFunc_vc {w : World} {v : Value} {xs : List Vx} (h : VcSl w v xs) (hl : xs.length ≤ 1099511627776) (g : FuncId) (cap : Array Value) (hent : ∀ args w, (callFunc g args).run Tryz.prog w = .ok (.enter g args) w) (pd : Vx → Bool)
    (hcall : ∀ x ∈ xs, ∀ wr, Mod Nowhere w wr → Calls Tryz.prog g (#[.agg #[.int .i64 x.2.1, x.1, .bool x.2.2.isNone]] ++ cap) wr fun e w' => e = .returned (.bool (pd x)) ∧ Mod Nowhere wr w') :
    Calls Tryz.prog 97 #[v, .func (.func g) #[] cap] w fun e w' => e = .returned (.bool (xs.any pd)) ∧ Mod Nowhere w w' := by
  have hI := IndexFunc_vc h hl g cap hent pd hcall
  replace hI := Lib.hid hI
  clear hcall h hent
  go_enter Tryz.func97, Tryz.ntmps97
  go_wp2_with fail
  refine hI.out.mono ?_
  rintro e w1 ⟨r, rfl, hr, hm1⟩
  cases ha : xs.any pd
  · rw [ha] at hr
    go_wp2
    go_ret
    exact ⟨ret_bool ha.symm, hm1⟩
  · rw [ha] at hr
    go_wp2
    go_ret
    exact ⟨ret_bool ha.symm, hm1⟩
set_option maxRecDepth 100000 in
set_option maxHeartbeats 400000 in
theorem vSameId_ok {w : World} {bx : Nat} {id : Int} (hbx : w.cell? ⟨bx, 0, none⟩ = some (.int .i64 id)) (x : Vx) {a : Option Addr} {c n : Nat} (hx : x.1 = .slice a n c) :
    Calls Tryz.prog 98 #[.agg #[.int .i64 x.2.1, x.1, .bool x.2.2.isNone], .pointer (some ⟨bx, 0, none⟩)] w fun e w' => e = .returned (.bool (decide (((x.2.1 : Nat) : Int) = id))) ∧ Mod Nowhere w w' := by
  have hbl := cell_lt' hbx
  rw [hx]
  generalize x.2.2.isNone = gn
  generalize x.2.1 = o
  go_enter Tryz.func98, Tryz.ntmps98
  go_wp2
  go_ret
  exact ⟨ret_bool (by first | rfl | simp), (Mod.refl _ _).alloc _⟩

/-! ### Going back -/
theorem run_uptoN {P : Program} {t e : TypeId} {z : Value} {sz bytes : Nat} (ht : P.underlying t = some (.slice e)) (hi : (P.info? e).map (fun i => (i.zero, i.size, i.bytes)) = some (some z, sz, bytes)) (b off n cap j : Nat) (hj : j ≤ cap) (W : World) :
    (Instr.slice t (.slice (some ⟨b, off, none⟩) n cap) none (some (.int .i64 j)) none).run P W = .ok (.slice (some ⟨b, off, none⟩) j cap) W := by
  obtain ⟨i0, hi0, hz0, hz1, hz2⟩ := info_parts hi
  simp [Instr.slice, Instr.sliceBounds, Instr.sliceBound, run_underlying ht, asIntOf, sizeOf, typeInfo, hi0, hz1, add_lit, show ¬ cap < j by omega]
  all_goals (try (cases j <;> simp))
theorem VcSl.take {w : World} {b off n cap : Nat} {xs : List Vx} (h : VcSl w (.slice (some ⟨b, off, none⟩) n cap) xs) {k : Nat} (hk : k ≤ xs.length) : VcSl w (.slice (some ⟨b, off, none⟩) k cap) (xs.take k) := by
  refine ⟨?_, fun x hx => h.data x (List.mem_of_mem_take hx)⟩
  have hl : (xs.take k).length = k := by rw [List.length_take]; omega
  rw [hl]
  have h1 := vcsCells_len xs
  have e : (vcsCells xs).take (k * 3) = vcsCells (xs.take k) := by
    have h2 := vcsCells_append (xs.take k) (xs.drop k)
    rw [List.take_append_drop] at h2
    rw [h2, List.take_left' (by rw [vcsCells_len, hl])]
  obtain ⟨ha, hb⟩ := h.sl
  refine ⟨by rw [vcsCells_len, hl], ?_⟩
  rcases hb with ⟨hb, _⟩ | ⟨b', off', cap', cs, hb, h3, h4, h5, h6, h7⟩
  · cases hb
  · simp at hb
    obtain ⟨⟨rfl, rfl⟩, rfl, rfl⟩ := hb
    refine .inr ⟨b, off, cap, cs, rfl, h3, by omega, h5, h6, ?_⟩
    rw [← e, ← h7, List.take_take, Nat.min_eq_left (by omega)]
end Go.Proofs.YtikkodanpbmmkaaGreat
