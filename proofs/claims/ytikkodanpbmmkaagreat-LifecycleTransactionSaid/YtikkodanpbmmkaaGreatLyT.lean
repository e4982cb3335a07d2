/-
  The law of chapter 25 about transactions: the walk.
-/
import Derived.Test.YtikkodanpbmmkaaGreatG21
import Derived.Test.YtikkodanpbmmkaaGreatG20
set_option linter.unusedVariables false
set_option linter.unusedSimpArgs false
namespace Go.Proofs.YtikkodanpbmmkaaGreat
open Go.RowKit
open Jn Vn
attribute [local go_sem] Oper.semAt_some

theorem vcall_sure {w w' : World} {A : VAt} {m : Mem} {s s' : VSt} {er k : Nat} {e : Ending} (hc : VCall w A m s s' er k e w') (hp : m.pending = false) :
    ∃ m' j, e = .returned (errno er) ∧ VRep w' A m' s' ∧ j ≤ k ∧ Runs m m' j ∧ Mod A.S w w' := by
  rcases hc with h | ⟨m', g, a, b, c, d, f⟩
  · exact h
  · exact absurd (d.pend.symm.trans hp) (by simp)
theorem Up.next {w w' : World} {A : VAt} {m m' : Mem} {s s' : VSt} {n j k : Nat} (h : Up w A m s (n + k)) (hr : VRep w' A m' s') (hj : j ≤ k) (hm : Runs m m' j) (hi : LInv s') (hid : s'.act = false → s'.l = []) (hl : s'.l.length ≤ 100) : Up w' A m' s' n :=
  ⟨hr, hi, hid, hl, h.room.runs hm (by omega), hm.clean h.clean, hm.size.trans h.size, h.cnt, h.frm⟩
theorem lSet_f {Z : Nat} {s : VSt} (ha : s.act = true) (t : Int) : (lSet Z s t).1.f = s.f := by
  unfold lSet
  split
  · rfl
  · split
    · rfl
    · unfold vPut
      split
      · unfold vChange
        split
        · rfl
        · split
          · rfl
          · rfl
      · rfl
theorem LInv.wt_le {s : VSt} (h : LInv s) : wt (sets s.f s.l) ≤ 17 := by
  rcases h.item with e | ⟨x, _, _, e⟩
  · have : dom (sets s.f s.l) = [] := by
      unfold dom
      refine List.filter_eq_nil_iff.2 fun k _ => ?_
      by_cases hk : k = 1
      · rw [hk, e]; simp
      · rw [h.rest hk]; simp
    unfold wt; rw [this]; simp
  · rw [wt_one (fun k hk => h.rest hk) e]
    exact Nat.le_refl _
theorem LInv.commit {s : VSt} (h : LInv s) {Z : Nat} (hZ : 48 ≤ Z) (ha : s.act = true) :
    vCommit Z s = ({ f := sets s.f s.l, act := false, l := [] }, 0) ∧ LInv { f := sets s.f s.l, act := false, l := [] } ∧ cur { f := sets s.f s.l, act := false, l := [] } = cur s := by
  refine ⟨?_, ⟨fun k hk => h.rest hk, h.item, fun r hr => (List.not_mem_nil hr).elim⟩, rfl⟩
  unfold vCommit
  rw [if_pos ha, if_neg (by have := h.wt_le; omega)]
theorem linv_begin : LInv { f := none_, act := true, l := [] } := ⟨fun _ _ => rfl, .inl rfl, fun r hr => (List.not_mem_nil hr).elim⟩
set_option maxRecDepth 100000 in
set_option maxHeartbeats 4000000 in
theorem lawTransaction_ok (t : Int) (cm : Bool) (w : World) : Calls Tryz.prog 15 #[.int .i64 t, .bool cm] w fun e w' => e = .returned (.bool true) ∧ Below w.heap.size w w' := by
  have hM := fun W => memory25_ok W
  have hN := fun W => vNew_ok (w := W) (n := 16384) (e := 1073741824) (by omega) (by omega) (by omega) (by omega)
  have hR := fun W => rSet_ok (w := W) 1 t
  have hE := fun W => example25_ok W
  have hbl : ∀ W : World, Mod Nowhere w W → Below w.heap.size w W := fun W h => h.below
  obtain ⟨sn, hsn⟩ : ∃ sn, (setR 1 t).1 = sn := ⟨_, rfl⟩
  obtain ⟨er, her⟩ : ∃ er, (setR 1 t).2 = er := ⟨_, rfl⟩
  simp only [hsn, her] at hR
  replace hM := Lib.hid hM
  replace hN := Lib.hid hN
  replace hR := Lib.hid hR
  replace hE := Lib.hid hE
  replace hbl := Lib.hid hbl
  replace hsn := Lib.hid hsn
  replace her := Lib.hid her
  go_enter Tryz.func15, Tryz.ntmps15
  go_wp2_with fail
  refine (hM.out _).mono ?_
  rintro e w1 ⟨rfl, hm1⟩
  replace hm1 := Lib.hid hm1
  go_wp2_with fail
  refine (hN.out _).mono ?_
  rintro e w2 hv
  obtain ⟨A, m, rfl, hup, hpd, hAS, hm2⟩ := hv.up
  clear hv
  have hm02 := hm1.out.trans hm2
  have hAn : ∀ k, A.S k → w.heap.size ≤ k := fun k hk => Nat.le_trans hm1.out.size (hAS k hk)
  have hO := lOpen_ok hup.rep hup.inv (by have := hup.len; omega)
  replace hO := Lib.hid hO
  replace hup := Lib.hid hup
  replace hpd := Lib.hid hpd
  replace hAn := Lib.hid hAn
  replace hm02 := Lib.hid hm02
  clear hAS hm2
  go_wp2_with fail
  refine hO.out.mono ?_
  rintro e w3 ⟨lb, rfl, hlb, hbl3, hm3⟩
  have hup3 := hup.out.fresh hm3
  have hm03 := hm02.out.trans hm3
  have hB := vBegin_ok hup3.rep
  replace hB := Lib.hid hB
  replace hup3 := Lib.hid hup3
  replace hbl3 := Lib.hid hbl3
  replace hm03 := Lib.hid hm03
  clear hm3 hO
  go_wp2_with fail
  refine hB.out.mono ?_
  rintro e w4 hc4
  obtain ⟨m4, j4, rfl, hv4, hj4, hr4, hm4⟩ := vcall_sure hc4 hpd.out
  have hup4 : Up w4 A m4 { f := none_, act := true, l := [] } 1000000000 := (show Up w3 A m (vst0 none_) (1000000000 + 0) from hup3.out).next hv4 hj4 hr4 linv_begin (fun e => by cases e) (by show 0 ≤ 100; omega)
  have hpd4 : m4.pending = false := hr4.pend.trans hpd.out
  have hbl4 := hup3.out.life hbl3.out hm4
  have hm04 := hm03.out.step hm4 fun i hi e => absurd hi (by have := hAn.out i e; omega)
  have hz4 := hup4.z
  obtain ⟨q1, q2, q3, q4, q5, q6⟩ := hup4.inv.set t hz4 hup4.idle
  have qf := lSet_f (Z := A.Z) (s := { f := none_, act := true, l := [] }) rfl t
  rw [show cur { f := none_, act := true, l := [] } = 1 from rfl] at q1 q3
  rw [hsn.out] at q3
  rw [her.out] at q1
  have hC := lset_up (n := 990000000) (hup4.less (by omega)) (by show 0 ≤ 99; omega) hbl4 t
  rw [show cur { f := none_, act := true, l := [] } = 1 from rfl, her.out] at hC
  generalize (lSet A.Z { f := none_, act := true, l := [] } t).1 = s5 at *
  replace hC := Lib.hid hC
  replace hup4 := Lib.hid hup4
  replace hbl4 := Lib.hid hbl4
  replace hm04 := Lib.hid hm04
  replace q1 := Lib.hid q1
  replace q2 := Lib.hid q2
  replace q3 := Lib.hid q3
  replace q4 := Lib.hid q4
  replace q5 := Lib.hid q5
  replace q6 := Lib.hid q6
  replace qf := Lib.hid qf
  replace hpd4 := Lib.hid hpd4
  clear hm4 hB hc4 hv4 hr4
  go_wp2_with fail
  refine hC.out.mono ?_
  rintro e w5 (⟨m5, rfl, hup5, hp5, -, hm5⟩ | ⟨m5, f5, rfl, -, -, hst5, -⟩)
  case inr => exact absurd (hst5.pend.symm.trans hpd4.out) (by simp)
  have hbl5 := hup4.out.life hbl4.out hm5
  have hpd5 : m5.pending = false := hp5.trans hpd4.out
  have hm05 := hm04.out.step hm5 fun i hi e => absurd hi (by have := hAn.out i e; omega)
  replace hup5 := Lib.hid hup5
  replace hbl5 := Lib.hid hbl5
  replace hm05 := Lib.hid hm05
  replace hpd5 := Lib.hid hpd5
  clear hm5 hC hup4 hbl4
  go_wp2_with fail
  refine (hR.out _).mono ?_
  rintro e w6 ⟨rfl, rfl⟩
  have hS5 := lState_ok hup5.out.rep hup5.out.inv (by have := hup5.out.len; omega) hbl5.out
  rw [q3.out] at hS5
  replace hS5 := Lib.hid hS5
  go_wp2_with fail
  refine hS5.out.mono ?_
  rintro e w7 ⟨rfl, hm7⟩
  have hup7 := hup5.out.fresh hm7
  have hbl7 := hbl5.out.mod hm7 id
  have hm07 := hm05.out.trans hm7
  obtain ⟨P, p, pc, J, bank, end_, ib, lv, xs, hV7⟩ := hup7.rep.ex
  have k4 : w7.cell? ⟨A.vb, 4, none⟩ = some (.bool true) := by have h := hV7.bv.cell 4; rw [show s5.act = true from q4.out] at h; exact h
  have hAc := vActive_ok hV7.stub k4
  rw [hV7.jr.pg.alive_true] at hAc
  replace hAc := Lib.hid hAc
  replace hup7 := Lib.hid hup7
  replace hbl7 := Lib.hid hbl7
  replace hm07 := Lib.hid hm07
  clear hm7 hV7 hS5 hup5 hbl5 k4
  go_wp2_with fail
  refine hAc.out.mono ?_
  rintro e w8 ⟨rfl, k8, rfl⟩
  have hm78 : Mod Nowhere w7 (w7.drewN k8) := (Mod.refl Nowhere w7).drewN k8
  generalize w7.drewN k8 = w8 at *
  have hup8 := hup7.out.fresh hm78
  have hbl8 := hbl7.out.mod hm78 id
  have hm08 := hm07.out.trans hm78
  clear hm78 hAc hup7 hbl7
  cases cm
  · have hAb := vAbort_ok hup8.rep
    unfold vAbort at hAb
    simp only [show s5.act = true from q4.out, if_true] at hAb
    replace hAb := Lib.hid hAb
    replace hup8 := Lib.hid hup8
    replace hbl8 := Lib.hid hbl8
    replace hm08 := Lib.hid hm08
    go_wp2_with fail
    refine hAb.out.mono ?_
    rintro e w9 hc9
    obtain ⟨m9, j9, rfl, hv9, hj9, hr9, hm9⟩ := vcall_sure hc9 hpd5.out
    have hup9 : Up w9 A m9 { f := s5.f, act := false, l := [] } 900000000 := (show Up w8 A m5 s5 (900000000 + 0) from hup8.out.less (by omega)).next hv9 hj9 hr9 ⟨by rw [show s5.f = none_ from qf.out]; exact fun _ _ => rfl, by rw [show s5.f = none_ from qf.out]; exact .inl rfl, fun r hr => (List.not_mem_nil hr).elim⟩ (fun _ => rfl) (by show 0 ≤ 100; omega)
    have hbl9 := hup8.out.life hbl8.out hm9
    have hm09 := hm08.out.step hm9 fun i hi e => absurd hi (by have := hAn.out i e; omega)
    have hS9 := lState_ok hup9.rep hup9.inv (by have := hup9.len; omega) hbl9
    rw [show cur { f := s5.f, act := false, l := [] } = 1 by rw [show s5.f = none_ from qf.out]; rfl] at hS9
    replace hS9 := Lib.hid hS9
    replace hm09 := Lib.hid hm09
    clear hup9 hbl9 hc9 hv9 hr9 hm9
    go_wp2_with fail
    refine hS9.out.mono ?_
    rintro e w10 ⟨rfl, hm10⟩
    replace hm10 := Lib.hid hm10
    go_wp2_with fail
    refine (hE.out _).mono ?_
    rintro e w11 ⟨rfl, hm11⟩
    have hfin := hbl.out _ ((hm09.out.trans hm10.out).trans hm11)
    go_wp2
    go_ret
    exact ⟨rfl, hfin⟩
  · obtain ⟨c1, c2, c3⟩ := hup8.inv.commit hup8.z q4.out
    have hCo := vCommit_ok hup8.rep (by have := hup8.len; omega) (by rw [vcost_682 hup8.cnt]; exact hup8.room.mono (by omega))
    rw [c1, vcost_682 hup8.cnt] at hCo
    replace hCo := Lib.hid hCo
    replace hup8 := Lib.hid hup8
    replace hbl8 := Lib.hid hbl8
    replace hm08 := Lib.hid hm08
    replace c2 := Lib.hid c2
    replace c3 := Lib.hid c3
    clear c1
    go_wp2_with fail
    refine hCo.out.mono ?_
    rintro e w9 hc9
    obtain ⟨m9, j9, rfl, hv9, hj9, hr9, hm9⟩ := vcall_sure hc9 hpd5.out
    have hup9 : Up w9 A m9 { f := sets s5.f s5.l, act := false, l := [] } 900000000 := (show Up w8 A m5 s5 (900000000 + 1022784) from hup8.out.less (by omega)).next hv9 hj9 hr9 c2.out (fun _ => rfl) (by show 0 ≤ 100; omega)
    have hbl9 := hup8.out.life hbl8.out hm9
    have hm09 := hm08.out.step hm9 fun i hi e => absurd hi (by have := hAn.out i e; omega)
    have hS9 := lState_ok hup9.rep hup9.inv (by have := hup9.len; omega) hbl9
    rw [c3.out, q3.out] at hS9
    replace hS9 := Lib.hid hS9
    replace hm09 := Lib.hid hm09
    clear hup9 hbl9 hc9 hv9 hr9 hm9
    go_wp2_with fail
    refine hS9.out.mono ?_
    rintro e w10 ⟨rfl, hm10⟩
    replace hm10 := Lib.hid hm10
    go_wp2_with fail
    refine (hE.out _).mono ?_
    rintro e w11 ⟨rfl, hm11⟩
    have hfin := hbl.out _ ((hm09.out.trans hm10.out).trans hm11)
    go_wp2
    go_ret
    exact ⟨rfl, hfin⟩
end Go.Proofs.YtikkodanpbmmkaaGreat
