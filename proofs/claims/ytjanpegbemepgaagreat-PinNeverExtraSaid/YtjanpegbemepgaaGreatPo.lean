/-
  The PINs: several changes together (atomic).
-/
import Derived.Test.YtjanpegbemepgaaGreatG33
set_option linter.unusedVariables false
set_option linter.unusedSimpArgs false
namespace Go.Proofs.YtjanpegbemepgaaGreat
open Go.RowKit
open Jn Vn
attribute [local go_sem] Oper.semAt_some

theorem VDead.fresh {w w' : World} {A : VAt} {m : Mem} {f : Items} (h : VDead w A m f) (hm : Mod Nowhere w w') : VDead w' A m f := by
  obtain ⟨P, p, pc_of, J, bank, end_, h1, h2, h3, h4, h5⟩ := h.ex
  obtain ⟨b, e, ib, act, lv, hb⟩ := h.bv
  exact ⟨⟨P, p, pc_of, J, bank, end_, h1.mod hm (fun _ _ => id) (fun _ _ => id), h2, h3, h4, h5⟩, h.mem.mod hm (fun _ _ => id), h.bj.mod hm (fun e => e), ⟨b, e, ib, act, lv, hb.mod hm (fun e => e)⟩, h.off⟩
set_option maxRecDepth 100000 in
set_option maxHeartbeats 16000000 in
/-- A transaction, or one of one's own. -/
theorem pinAtomic_ok {w : World} {pb : Nat} {A : VAt} {m : Mem} {s : VSt} (hp : PnAt w pb A.vb) (h : VRep w A m s) (hxn : s.l.length ≤ 90000) {K : Nat} (hrm : Room m (K + vcost A)) (np : ¬ A.S pb) (g : FuncId) (cap : Array Value) (hent : ∀ args w, (callFunc g args).run Tryz.prog w = .ok (.enter g args) w) (F : VSt → VSt × Nat)
    (hF : ∀ s1, (F s1).1.l.length ≤ s1.l.length + 10) (hFf : (F { s with act := true, l := [] }).1.f = s.f)
    (hf : ∀ W s1, Mod A.S w W → VRep W A m s1 → s1.act = true → s1.f = s.f → (s1 = s ∨ s1 = { s with act := true, l := [] }) → Calls Tryz.prog g cap W (PC (fun f => f = s.f) W A m (F s1).1 (F s1).2 K)) :
    Calls Tryz.prog 63 #[ptr pb, .func (.func g) #[] cap] w (PC (fun f => f = s.f ∨ f = (vAtomic A.Z s F).1.f) w A m (vAtomic A.Z s F).1 (vAtomic A.Z s F).2 (K + vcost A)) := by
  have k0 := Blk.cell hp 0
  simp only [List.getElem?_cons_zero] at k0
  have l0 := Blk.lt hp
  have hrun0 : Runs m m 0 := by
    obtain ⟨P, p, pc, J, bank, end_, ib, lv, xs, hV⟩ := h.ex
    exact hV.jr.runs
  have hAc := vActive_rep h
  have hcell : ∀ W, Mod A.S w W → W.cell? ⟨pb, 0, none⟩ = some (ptr A.vb) ∧ pb < W.heap.size := fun W hm => by
    have c := Blk.cell (Blk.mod hp hm np) 0
    simp only [List.getElem?_cons_zero] at c
    exact ⟨c, Nat.lt_of_lt_of_le l0 hm.size⟩
  cases hact : s.act
  · rw [hact] at hAc
    have hat : ∀ q, F { s with act := true, l := [] } = q → vAtomic A.Z s F = (if q.2 = 0 then (if (vCommit A.Z q.1).2 = 0 then vCommit A.Z q.1 else ((vAbort (vCommit A.Z q.1).1).1, (vCommit A.Z q.1).2)) else ((vAbort q.1).1, q.2)) := fun q hq => by
      unfold vAtomic
      rw [if_neg (by rw [hact]; decide), hq]
    have hBg : ∀ W, Mod Nowhere w W → Calls Tryz.prog 10 #[ptr A.vb] W fun e w' => e = .returned (errno 0) ∧ VRep w' A m { s with act := true, l := [] } ∧ Mod A.S W w' := fun W hm => by
      have := vBegin_is (h.fresh hm)
      unfold vBegin at this
      rw [if_neg (by rw [hact]; decide)] at this
      exact this
    have hln := hF { s with act := true, l := [] }
    obtain ⟨q, hq⟩ : ∃ q, F { s with act := true, l := [] } = q := ⟨_, rfl⟩
    have hat := hat q hq
    have hfs := fun W (hm : Mod A.S w W) hv => hf W { s with act := true, l := [] } hm hv rfl rfl (.inr rfl)
    simp only [hq] at hfs hln hFf
    replace hln : q.1.l.length ≤ 10 := by simpa using hln
    replace hBg := Lib.hid hBg
    replace hfs := Lib.hid hfs
    replace hAc := Lib.hid hAc
    replace h := Lib.hid h
    replace hp := Lib.hid hp
    replace hF := Lib.hid hF
    replace hf := Lib.hid hf
    replace hcell := Lib.hid hcell
    replace hq := Lib.hid hq
    replace hact := Lib.hid hact
    replace hat := Lib.hid hat
    replace hFf := Lib.hid hFf
    go_enter Tryz.func63, Tryz.ntmps63
    go_wp2_with fail
    refine hAc.out.mono ?_
    rintro e w1 ⟨rfl, hm1⟩
    have hS1 := hBg.out w1 hm1
    obtain ⟨k1, l1⟩ := hcell.out w1 hm1.nowhere
    replace hS1 := Lib.hid hS1
    replace hm1 := Lib.hid hm1
    go_wp2_with fail
    refine hS1.out.mono ?_
    rintro e w2 ⟨rfl, hv2, hm2⟩
    have hm02 : Mod A.S w w2 := hm1.out.nowhere.trans hm2
    have hf2 := hfs.out w2 hm02 hv2
    obtain ⟨k2, l2⟩ := hcell.out w2 hm02
    replace hm2 := Lib.hid hm2
    replace hm02 := Lib.hid hm02
    replace hv2 := Lib.hid hv2
    replace hf2 := Lib.hid hf2
    go_wp2_with fail
    refine hf2.out.mono ?_
    rintro e w3 hc
    rcases hc with ⟨m', j, rfl, hv, hk, hr, hm3⟩ | ⟨m', f, rfl, hfe, hd, hst, hm3⟩
    · have hm03 : Mod A.S w w3 := hm02.out.trans hm3
      obtain ⟨k3, l3⟩ := hcell.out w3 hm03
      by_cases h0' : q.2 = 0
      · have hC := vCommit_ok hv (by omega) (hrm.runs hr (by omega))
        replace hat := hat.out
        rw [if_pos h0'] at hat
        obtain ⟨r, hr2⟩ : ∃ r, vCommit A.Z q.1 = r := ⟨_, rfl⟩
        have hr10 : r.2 ≠ 0 → r.1 = q.1 := fun hne => by
          rw [← hr2] at hne ⊢
          unfold vCommit at hne ⊢
          split at hne
          · split at hne
            · rename_i h1 h2; rw [if_pos h1, if_pos h2]
            · exact (hne rfl).elim
          · rename_i h1; rw [if_neg h1]
        have hrl : r.1.l.length ≤ 10 := by
          rw [← hr2]
          unfold vCommit
          split
          · split
            · exact hln
            · exact Nat.zero_le _
          · exact hln
        simp only [hr2] at hat hC
        rw [h0']
        replace hC := Lib.hid hC
        replace hv := Lib.hid hv
        replace hr := Lib.hid hr
        replace hm3 := Lib.hid hm3
        replace hm03 := Lib.hid hm03
        replace hk := Lib.hid hk
        replace hr10 := Lib.hid hr10
        go_wp2_with fail
        refine hC.out.mono ?_
        rintro e w4 hc4
        rcases hc4 with ⟨m2, j2, rfl, hv4, hk4, hr4, hm4⟩ | ⟨m2, f, rfl, hfe, hd, hst, hm4⟩
        · have hm04 : Mod A.S w w4 := hm03.out.trans hm4
          obtain ⟨k4, l4⟩ := hcell.out w4 hm04
          have hrr := hr.out.trans hr4
          have hkk : j + j2 ≤ K + vcost A := by have := hk.out; omega
          by_cases hr0 : r.2 = 0
          · rw [if_pos hr0] at hat
            have hfin : PC (fun f => f = s.f ∨ f = (vAtomic A.Z s F).1.f) w A m (vAtomic A.Z s F).1 (vAtomic A.Z s F).2 (K + vcost A) (.returned (errno 0)) w4 := by
              rw [hat]
              exact .inl ⟨m2, j + j2, by rw [hr0]; rfl, hv4, hkk, hrr, hm04⟩
            rw [hr0]
            replace hfin := Lib.hid hfin
            replace hv4 := Lib.hid hv4
            replace hr4 := Lib.hid hr4
            replace hm4 := Lib.hid hm4
            replace hm04 := Lib.hid hm04
            replace hrr := Lib.hid hrr
            go_wp2
            go_ret
            exact hfin.out
          · rw [if_neg hr0] at hat
            have hz : (((r.2 : Nat) : Int) != 0) = true := by simp; omega
            have hB := vAbort_is hv4
            have hfin : ∀ w5, VRep w5 A m2 (vAbort r.1).1 → Mod A.S w4 w5 → PC (fun f => f = s.f ∨ f = (vAtomic A.Z s F).1.f) w A m (vAtomic A.Z s F).1 (vAtomic A.Z s F).2 (K + vcost A) (.returned (errno r.2)) w5 := by
              intro w5 hv5 hm5
              rw [hat]
              exact .inl ⟨m2, j + j2, rfl, hv5, hkk, hrr, hm04.trans hm5⟩
            replace hfin := Lib.hid hfin
            replace hB := Lib.hid hB
            replace hv4 := Lib.hid hv4
            replace hr4 := Lib.hid hr4
            replace hm4 := Lib.hid hm4
            replace hm04 := Lib.hid hm04
            replace hrr := Lib.hid hrr
            go_wp2_with fail
            refine hB.out.mono ?_
            rintro e w5 ⟨rfl, hv5, hm5⟩
            have hfn := hfin.out w5 hv5 hm5
            replace hfn := Lib.hid hfn
            replace hv5 := Lib.hid hv5
            replace hm5 := Lib.hid hm5
            go_wp2
            go_ret
            exact hfn.out
        · have hm04 : Mod A.S w w4 := hm03.out.trans hm4
          obtain ⟨k4, l4⟩ := hcell.out w4 hm04
          have hB := sAbort_ok (Shut.dead hd)
          have hDf : f = s.f ∨ f = (vAtomic A.Z s F).1.f := by
            rw [hat]
            rcases hfe with rfl | rfl
            · exact .inl hFf.out
            · by_cases hr0 : r.2 = 0
              · rw [if_pos hr0]; exact .inr rfl
              · rw [hr10.out hr0]; exact .inl hFf.out
          have hfin : ∀ w5, Mod Nowhere w4 w5 → PC (fun f => f = s.f ∨ f = (vAtomic A.Z s F).1.f) w A m (vAtomic A.Z s F).1 (vAtomic A.Z s F).2 (K + vcost A) (.returned (errno 7)) w5 := fun w5 hm5 => .inr ⟨m2, f, rfl, hDf, hd.fresh hm5, hr.out.stopped hst (by have := hk.out; omega), hm04.trans hm5.nowhere⟩
          replace hfin := Lib.hid hfin
          replace hB := Lib.hid hB
          replace hd := Lib.hid hd
          replace hst := Lib.hid hst
          replace hm4 := Lib.hid hm4
          replace hm04 := Lib.hid hm04
          replace hDf := Lib.hid hDf
          clear hfe
          go_wp2_with fail
          refine hB.out.mono ?_
          rintro e w5 ⟨rfl, hm5⟩
          have hfn := hfin.out w5 hm5
          replace hfn := Lib.hid hfn
          replace hm5 := Lib.hid hm5
          go_wp2
          go_ret
          exact hfn.out
      · have hz : (((q.2 : Nat) : Int) != 0) = true := by simp; omega
        have hz2 : (((q.2 : Nat) : Int) == 0) = false := by simp; omega
        replace hat := hat.out
        rw [if_neg h0'] at hat
        have hB := vAbort_is hv
        have hfin : ∀ w5, VRep w5 A m' (vAbort q.1).1 → Mod A.S w3 w5 → PC (fun f => f = s.f ∨ f = (vAtomic A.Z s F).1.f) w A m (vAtomic A.Z s F).1 (vAtomic A.Z s F).2 (K + vcost A) (.returned (errno q.2)) w5 := by
          intro w5 hv5 hm5
          rw [hat]
          exact .inl ⟨m', j, rfl, hv5, by omega, hr, hm03.trans hm5⟩
        replace hfin := Lib.hid hfin
        replace hB := Lib.hid hB
        replace hv := Lib.hid hv
        replace hr := Lib.hid hr
        replace hm3 := Lib.hid hm3
        replace hm03 := Lib.hid hm03
        replace hk := Lib.hid hk
        go_wp2_with fail
        refine hB.out.mono ?_
        rintro e w5 ⟨rfl, hv5, hm5⟩
        have hfn := hfin.out w5 hv5 hm5
        replace hfn := Lib.hid hfn
        replace hv5 := Lib.hid hv5
        replace hm5 := Lib.hid hm5
        go_wp2
        go_ret
        exact hfn.out
    · have hm03 : Mod A.S w w3 := hm02.out.trans hm3
      obtain ⟨k3, l3⟩ := hcell.out w3 hm03
      have hB := sAbort_ok (Shut.dead hd)
      have hfin : ∀ w5, Mod Nowhere w3 w5 → PC (fun f => f = s.f ∨ f = (vAtomic A.Z s F).1.f) w A m (vAtomic A.Z s F).1 (vAtomic A.Z s F).2 (K + vcost A) (.returned (errno 7)) w5 := fun w5 hm5 => .inr ⟨m', f, rfl, .inl hfe, hd.fresh hm5, hst.mono (by omega), hm03.trans hm5.nowhere⟩
      replace hfin := Lib.hid hfin
      replace hB := Lib.hid hB
      replace hd := Lib.hid hd
      replace hst := Lib.hid hst
      replace hm3 := Lib.hid hm3
      replace hm03 := Lib.hid hm03
      clear hfe
      go_wp2_with fail
      refine hB.out.mono ?_
      rintro e w5 ⟨rfl, hm5⟩
      have hfn := hfin.out w5 hm5
      replace hfn := Lib.hid hfn
      replace hm5 := Lib.hid hm5
      go_wp2
      go_ret
      exact hfn.out
  · rw [hact] at hAc
    have hSv := fun W (hm : Mod Nowhere w W) => vSave_ok (h.fresh hm)
    have hfs := fun W (hm : Mod Nowhere w W) => hf W s hm.nowhere (h.fresh hm) hact rfl (.inl rfl)
    have hln := hF s
    obtain ⟨q, hq⟩ : ∃ q, F s = q := ⟨_, rfl⟩
    simp only [hq] at hfs hln
    obtain ⟨n, hn⟩ : ∃ n, s.l.length = n := ⟨_, rfl⟩
    simp only [hn] at hSv hln
    replace hSv := Lib.hid hSv
    replace hfs := Lib.hid hfs
    replace hAc := Lib.hid hAc
    replace h := Lib.hid h
    replace hp := Lib.hid hp
    replace hF := Lib.hid hF
    replace hf := Lib.hid hf
    replace hcell := Lib.hid hcell
    replace hq := Lib.hid hq
    replace hn := Lib.hid hn
    replace hact := Lib.hid hact
    replace hln := Lib.hid hln
    go_enter Tryz.func63, Tryz.ntmps63
    go_wp2_with fail
    refine hAc.out.mono ?_
    rintro e w1 ⟨rfl, hm1⟩
    have hS1 := hSv.out w1 hm1
    obtain ⟨k1, l1⟩ := hcell.out w1 hm1.nowhere
    replace hS1 := Lib.hid hS1
    replace hm1 := Lib.hid hm1
    go_wp2_with fail
    refine hS1.out.mono ?_
    rintro e w2 ⟨rfl, hm2⟩
    have hm12 := hm1.out.trans hm2
    have hf2 := hfs.out w2 hm12
    replace hm2 := Lib.hid hm2
    replace hm12 := Lib.hid hm12
    replace hf2 := Lib.hid hf2
    go_wp2_with fail
    refine hf2.out.mono ?_
    rintro e w3 hc
    rcases hc with ⟨m', j, rfl, hv, hk, hr, hm3⟩ | ⟨m', f, rfl, hfe, hd, hst, hm3⟩
    · have hm03 : Mod A.S w w3 := hm12.out.nowhere.trans hm3
      obtain ⟨k3, l3⟩ := hcell.out w3 hm03
      by_cases h0' : q.2 = 0
      · have hfin : PC (fun f => f = s.f ∨ f = (vAtomic A.Z s F).1.f) w A m (vAtomic A.Z s F).1 (vAtomic A.Z s F).2 (K + vcost A) (.returned (errno 0)) w3 := by
          unfold vAtomic
          rw [if_pos hact.out, hq.out, if_pos h0']
          exact .inl ⟨m', j, by rw [h0']; rfl, hv, by omega, hr, hm03⟩
        rw [h0']
        replace hfin := Lib.hid hfin
        replace hv := Lib.hid hv
        replace hr := Lib.hid hr
        replace hm3 := Lib.hid hm3
        replace hm03 := Lib.hid hm03
        replace hk := Lib.hid hk
        go_wp2
        go_ret
        exact hfin.out
      · have hz : (((q.2 : Nat) : Int) != 0) = true := by simp; omega
        have hB := vBack_is hv (by have := hln.out; have := hn.out; omega) (n : Int)
        have hfin : ∀ w4, VRep w4 A m' (vBack q.1 (n : Int)).1 → Mod A.S w3 w4 → PC (fun f => f = s.f ∨ f = (vAtomic A.Z s F).1.f) w A m (vAtomic A.Z s F).1 (vAtomic A.Z s F).2 (K + vcost A) (.returned (errno q.2)) w4 := by
          intro w4 hv4 hm4
          unfold vAtomic
          rw [if_pos hact.out, hq.out, if_neg h0', hn.out]
          exact .inl ⟨m', j, rfl, hv4, by omega, hr, hm03.trans hm4⟩
        replace hfin := Lib.hid hfin
        replace hB := Lib.hid hB
        replace hv := Lib.hid hv
        replace hr := Lib.hid hr
        replace hm3 := Lib.hid hm3
        replace hm03 := Lib.hid hm03
        replace hk := Lib.hid hk
        go_wp2_with fail
        refine hB.out.mono ?_
        rintro e w4 ⟨rfl, hv4, hm4⟩
        have hfn := hfin.out w4 hv4 hm4
        replace hfn := Lib.hid hfn
        replace hv4 := Lib.hid hv4
        replace hm4 := Lib.hid hm4
        go_wp2
        go_ret
        exact hfn.out
    · have hm03 : Mod A.S w w3 := hm12.out.nowhere.trans hm3
      obtain ⟨k3, l3⟩ := hcell.out w3 hm03
      have hB := sBack_ok (Shut.dead hd) (n : Int)
      have hfin : ∀ w4, Mod Nowhere w3 w4 → PC (fun f => f = s.f ∨ f = (vAtomic A.Z s F).1.f) w A m (vAtomic A.Z s F).1 (vAtomic A.Z s F).2 (K + vcost A) (.returned (errno 7)) w4 := fun w4 hm4 => .inr ⟨m', f, rfl, .inl hfe, hd.fresh hm4, hst.mono (by omega), hm03.trans hm4.nowhere⟩
      replace hfin := Lib.hid hfin
      replace hB := Lib.hid hB
      replace hd := Lib.hid hd
      replace hst := Lib.hid hst
      replace hm3 := Lib.hid hm3
      replace hm03 := Lib.hid hm03
      clear hfe
      go_wp2_with fail
      refine hB.out.mono ?_
      rintro e w4 ⟨rfl, hm4⟩
      have hfn := hfin.out w4 hm4
      replace hfn := Lib.hid hfn
      replace hm4 := Lib.hid hm4
      go_wp2
      go_ret
      exact hfn.out
end Go.Proofs.YtjanpegbemepgaaGreat
