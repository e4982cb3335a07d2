/-
  The law VaultRoom: the walk.
-/
import Derived.Test.YtikkodanpbmmkaaGreatG28
import Derived.Test.YtikkodanpbmmkaaGreatLa
import Derived.Test.YtikkodanpbmmkaaGreatCellC
set_option linter.unusedVariables false
set_option linter.unusedSimpArgs false
namespace Go.Proofs.YtikkodanpbmmkaaGreat
open Go.RowKit
open Jn Vn
attribute [local go_sem] Oper.semAt_some

theorem VRep.vmem {w : World} {A : VAt} {m : Mem} {s : VSt} (h : VRep w A m s) : VMem m A.count A.frames s.f := by
  obtain ⟨P, p, pc, J, bank, end_, ib, lv, xs, h⟩ := h.ex
  have hh := h.jr.pg.inv.h
  rw [h.of.count, h.of.frames] at hh
  exact ⟨pc, J, bank, end_, hh, .inl h.st, h.bk⟩
set_option maxRecDepth 100000 in
set_option maxHeartbeats 16000000 in
theorem lawRoom13_ok (v : Value) (l : List Vop) (large : Bool) (w : World) (hin : InOps w v l) : Calls Tryz.prog 12 #[v, .bool large] w fun e w' => e = .returned (.bool true) ∧ Below w.heap.size w w' := by
  have hL := light_ok hin
  obtain ⟨a, cap, rfl, h1, h2, h3⟩ := hin
  have hE := fun W => example13_ok W
  have hbl : ∀ W : World, Mod Nowhere w W → Below w.heap.size w W := fun W h => h.below
  have hO := fun W => open_ok W large
  obtain ⟨lt, hlt⟩ : ∃ lt, lightB l = lt := ⟨_, rfl⟩
  rw [hlt] at hL
  replace hE := Lib.hid hE
  replace hbl := Lib.hid hbl
  replace hO := Lib.hid hO
  replace h3 := Lib.hid h3
  replace hL := Lib.hid hL
  cases lt
  · replace hlt := Lib.hid hlt
    go_enter Tryz.func12, Tryz.ntmps12
    go_wp2_with fail
    refine (hL.out).mono ?_
    rintro e w1 ⟨rfl, rfl⟩
    go_wp2_with fail
    refine (hE.out _).mono ?_
    rintro e w1 ⟨rfl, hm1⟩
    have hfin := hbl.out _ hm1
    replace hfin := Lib.hid hfin
    go_wp2
    go_ret
    exact ⟨rfl, hfin.out⟩
  obtain ⟨hl60, hl3⟩ := lightB_ok hlt
  replace hlt := Lib.hid hlt
  replace hl3 := Lib.hid hl3
  go_enter Tryz.func12, Tryz.ntmps12
  go_wp2_with fail
  refine (hL.out).mono ?_
  rintro e w1 ⟨rfl, rfl⟩
  go_wp2_with fail
  refine (hO.out _).mono ?_
  rintro e w1 ⟨A, m, rfl, hu, hpd, -, -, hR2, -, hAS, hm1⟩
  obtain ⟨R, hR⟩ : ∃ R, A.Z / 2 = R := ⟨_, rfl⟩
  have hb1 := both_open hu hpd hR2 hR hAS hm1
  have hB : w.heap.size ≤ w1.heap.size := hm1.size
  rw [hR]
  replace hR := Lib.hid hR
  replace hb1 := Lib.hid hb1
  clear hu hpd hR2 hAS hm1
  go_wp2
  generalize w1.alloc (.cells #[.int .i64 R, .slice none 0 0, .bool false, .slice none 0 0] 54) = X at *
  generalize w1.heap.size = B at *
  go_loopw [9] (fun i wr => ∃ (k : Nat) (mk : Mem) (st : VSt), k ≤ l.length ∧ i = .int .i64 k ∧ Both w wr A mk B R ((200 - k) * 1022784) st st ∧ st.l.length ≤ k) (fun i _ => l.length - (RowKit.intOf i).toNat)
  case atStart => exact ⟨0, _, _, by omega, rfl, { hb1.out with vl := hb1.out.vl.less (by omega) }, Nat.le_refl _⟩
  case round =>
    obtain ⟨k, mk, st, hk, rfl, hbk, hsl⟩ := hrel
    by_cases hlt2 : k < l.length
    · obtain ⟨b, off, rfl, hc⟩ := h3.out (by omega)
      obtain ⟨op, nd, da, dl, dc, d, hx, -⟩ := OpAt.of (hc k hlt2) (hl3.out _ (List.getElem_mem hlt2))
      obtain ⟨c0, c1, c2, cl⟩ := hx.cells wr hbk.mod
      have hfin : ∀ W mk' st', Both w W A mk' B R ((200 - (k + 1)) * 1022784) st' st' → st'.l.length ≤ k + 1 → ∃ (k' : Nat) (mk : Mem) (st : VSt), k' ≤ l.length ∧ Value.int .i64 ((k : Int) + 1) = .int .i64 k' ∧ Both w W A mk B R ((200 - k') * 1022784) st st ∧ st.l.length ≤ k' :=
        fun W mk' st' g1 g2 => ⟨k + 1, mk', st', by omega, by go_num, g1, g2⟩
      clear hc
      obtain ⟨q, hq⟩ : ∃ q, vDo A.Z st op nd d = q := ⟨_, rfl⟩
      have hql : q.1.l.length ≤ k + 1 := by rw [← hq]; exact Nat.le_trans (vDo_len _ _ _ _ _) (by omega)
      have hD := (hbk.vl.less (show (200 - (k + 1)) * 1022784 + 1022784 ≤ (200 - k) * 1022784 by omega)).do_ hbk.pend op nd (hx.src wr hbk.mod) hx.bytes hx.short hq (by omega)
      replace hD := Lib.hid hD
      replace hfin := Lib.hid hfin
      replace hbk := Lib.hid hbk
      replace hx := Lib.hid hx
      replace hq := Lib.hid hq
      go_wp2_with fail
      refine hD.out.mono ?_
      rintro e w5 hs5
      obtain ⟨m5, rfl, hb5⟩ := hbk.out.call hs5
      obtain ⟨ia, n, ic, ea, j, ec, act, xs, es, hact, hst, hbB⟩ := hb5.box.get
      have hkB := fun W (hm : Mod Nowhere w5 W) => (hbB.mod hm (fun e => e)).four
      have hkX := fun W (hm : Mod Nowhere w5 W) => hx.out.cells W (hb5.mod.trans hm)
      have hRD := fun W (hm : Mod Nowhere w5 W) => rDo_ok (RRep.mk' (hst.fresh hm) hact) hb5.hR op nd (hx.out.src W (hb5.mod.trans hm)) hx.out.bytes hx.out.short (by omega)
      simp only [hq.out] at hRD
      obtain ⟨k0, k1, k2, k3, kf, kl⟩ := hkB w5 (Mod.refl _ _)
      obtain ⟨k4, k5, k6, kX⟩ := hkX w5 (Mod.refl _ _)
      have hD1 := hRD w5.drew ((Mod.refl Nowhere w5).drew)
      obtain ⟨st', er⟩ := q
      dsimp only at hql hD1
      clear hs5 hst hact hRD
      replace hb5 := Lib.hid hb5
      replace hbB := Lib.hid hbB
      replace hkB := Lib.hid hkB
      replace hkX := Lib.hid hkX
      replace hD1 := Lib.hid hD1
      dsimp only
      go_wp2
      go_region_law (first | (go_simp; go_at_call 39; (with_reducible refine hD1.out.mono ?_); rintro e w6 ⟨v6, rfl, hr6, hm6⟩; obtain ⟨ia6, n6, ic6, ea6, j6, ec6, act6, xs6, es6, hact6, rfl, hst6⟩ := hr6.get; have hb6 := (hb5.out.fresh ((Mod.refl Nowhere w5).drew.trans hm6)).put hst6 hact6; have hbB6 := hbB.out.mod ((Mod.refl Nowhere w5).drew.trans hm6) (fun e => e); obtain ⟨q0, q1, q2, q3, qf, ql⟩ := hbB6.four; replace hb6 := Lib.hid hb6; replace hbB6 := Lib.hid hbB6; clear hr6 hst6 hact6))
      all_goals
        have hf := hfin.out _ m5 st' hb6.out hql
        unfold outW at hf
        clear q0 q1 q2 q3 qf ql hm6
        replace hf := Lib.hid hf
        go_wp2
        go_roundw
        case rel => exact hf.out
        case measure => simp [RowKit.intOf]; omega
    · obtain rfl : k = l.length := by omega
      have hbk0 : Both w wr A mk B R (100 * 1022784) st st := { hbk with vl := hbk.vl.less (by omega) }
      have hCl := Clone_ok hbk.vl.rep.mem.1
      obtain ⟨pc, J, bank, end_, hH, hJ, hBk⟩ := hbk.vl.rep.vmem.ex
      clear hbk
      replace hCl := Lib.hid hCl
      replace hbk0 := Lib.hid hbk0
      replace hH := Lib.hid hH
      replace hJ := Lib.hid hJ
      replace hBk := Lib.hid hBk
      go_wp2_with fail
      refine (hCl.out).mono ?_
      rintro e w2 ⟨M2, rfl, hM2, hS2, hm2⟩
      have hV := hbk0.out.vl
      have hPO := pOpen_ok hM2 hV.rep.mem.2.1 hV.clean hV.rep.mem.2.2.1 hV.c240 hV.cC hV.cN hH.out
      replace hPO := Lib.hid hPO
      replace hS2 := Lib.hid hS2
      replace hm2 := Lib.hid hm2
      clear hM2 hV
      go_wp2_with fail
      refine (hPO.out).mono ?_
      rintro e w3 ⟨P, p, rfl, hpg, hpc, hpn, hm3, s1, s2, s3⟩
      have hm03 := hm2.out.trans hm3
      have hpd := hbk0.out.pend
      have hJO := jOpen_ok hpg (by rw [hpc]; exact hbk0.out.vl.c33) (by rw [hpc]; exact hJ.out) (hbk0.out.vl.room.mono (by omega))
      have hsz2 := hm2.out.size
      have hsz3 := hm3.size
      have hSP : ∀ i, P.S i ∨ M2.S i → wr.heap.size ≤ i := by
        rintro i ((e | e | e) | e)
        · rw [e]; omega
        · rw [e]; omega
        · rw [e]; omega
        · exact hS2.out i e
      replace hJO := Lib.hid hJO
      replace hm03 := Lib.hid hm03
      replace hSP := Lib.hid hSP
      replace hpd := Lib.hid hpd
      clear hpg hm3
      go_wp2_with fail
      refine (hJO.out).mono ?_
      rintro e w4 (⟨jb, m4, P4, p4, k4, pc4, rfl, a0, a1, a2, a3, a4, a5, a6, a7, a8, a9, a10, a11⟩ | ⟨m4, P4, p4, pc4, rfl, b1, b2, b3, b4, b5, b6, b7, b8, b9, b10⟩)
      case inr => exact absurd (b9.pend.symm.trans hpd.out) (by decide)
      have hm04 : Mod Nowhere wr w4 := hm03.out.step a11 fun i hi e => absurd hi (by have := hSP.out i e; omega)
      have hVO := vOpen_ok a1 (by rw [a5]; exact a10) (by rw [a5, hpc]; exact hBk.out)
      have hJb := a1.jblk
      have hjc : p4.count = A.count := a5.trans hpc
      have hj33 := a1.c33
      have hj16 := a1.pg.rep.c16
      have hsz4 := a11.size
      have hP4 : wr.heap.size ≤ P4.pb := by rw [a2]; omega
      have hruns := a9
      replace hVO := Lib.hid hVO
      replace hm04 := Lib.hid hm04
      replace hJb := Lib.hid hJb
      clear a1 a10 a11 hJO
      go_wp2_with fail
      refine (hVO.out).mono ?_
      rintro e w5 ⟨vb, rfl, c1, c2, c3⟩
      have hm05 : Mod Nowhere wr w5 := hm04.out.step c3 fun i hi e => absurd hi (by have e : i = P4.pb := e; omega)
      have hb5 := hbk0.out.fresh hm05
      have hRm := vRoomP_ok hb5.vl.rep
      have hZ4 : (atOf M2 P4 p4 jb vb).Z = A.Z := by unfold VAt.Z atOf; dsimp only; rw [hjc]
      obtain ⟨P', p', pc', J', bank', end', ib', lv', xs', hVR⟩ := c2.ex
      have hJS := fun W (hm : Mod Nowhere w5 W) => jSize_ok ((hVR.fresh hm).jr.jblk) (by have := hVR.jr.c33; omega) hVR.jr.pg.rep.c16
      have hpc' : p'.count = A.count := hVR.of.count.trans hjc
      rw [show (p'.count - 32) * 48 = A.Z by rw [hpc']; rfl] at hJS
      clear hVR
      have hV2 := fun W (hm : Mod Nowhere w5 W) => c2.fresh hm
      obtain ⟨Z, hZ⟩ : ∃ Z, A.Z = Z := ⟨_, rfl⟩
      have hst0 : R ≤ 2000000 := by obtain ⟨_, _, _, _, _, _, _, _, _, -, hst, -⟩ := hb5.box.get; exact hst.room
      have hZR : ((Z : Nat) : Int) / 2 = (R : Int) := by have := hR.out; rw [hZ] at this; omega
      have hZ0 : (0 : Int) ≤ (Z : Int) := by omega
      have hRb : R ≤ 2000000 := hst0
      have hZ1 : (Z : Int) ≤ 4000001 := by have := hR.out; rw [hZ] at this; omega
      have hZt : (Z : Int).tdiv 2 = (R : Int) := by rw [Int.tdiv_eq_ediv_of_nonneg hZ0]; exact hZR
      have hR4 : (atOf M2 P4 p4 jb vb).Z / 2 = R := by rw [hZ4]; exact hR.out
      rw [hZ] at hRm
      rw [show ((Z / 2 : Nat) : Int) = (R : Int) by omega] at hRm
      simp only [hZ] at hJS
      obtain ⟨ia, n, ic, ea, j, ec, act, xs, es, hact, hst, hbB⟩ := hb5.box.get
      have hcB := fun W (hm : Mod Nowhere w5 W) => (hbB.mod hm (fun e => e)).four
      obtain ⟨k0, k1, k2, k3, kf, kl⟩ := hbB.four
      have hr1 := fun W (hm : Mod Nowhere w5 W) => (hst.fresh hm).out (hst.fresh hm).it hst.its hst.iok
      have hr2 := fun W (hm : Mod Nowhere w5 W) => RRep.mk' (hst.fresh hm) hact
      clear hst hbB c2 c3
      replace hRm := Lib.hid hRm
      replace hb5 := Lib.hid hb5
      replace hJS := Lib.hid hJS
      replace hV2 := Lib.hid hV2
      replace hZ := Lib.hid hZ
      replace hR4 := Lib.hid hR4
      replace hcB := Lib.hid hcB
      replace hr1 := Lib.hid hr1
      replace hr2 := Lib.hid hr2
      replace hact := Lib.hid hact
      replace hm05 := Lib.hid hm05
      go_wp2_with fail
      refine hRm.out.mono ?_
      rintro e w6 ⟨rfl, hm6⟩
      have hJ6 := hJS.out w6 hm6
      replace hJ6 := Lib.hid hJ6
      replace hm6 := Lib.hid hm6
      go_wp2_with fail
      refine hJ6.out.mono ?_
      rintro e w6' ⟨rfl, rfl⟩
      have hA1 := agrees_ok (hV2.out w6 hm6.out) (hr1.out w6 hm6.out) hR4.out (by show 0 ≤ 1000000; omega) rfl rfl rfl
      obtain ⟨k0, k1, k2, k3, kf, kl⟩ := hcB.out w6 hm6.out
      replace hA1 := Lib.hid hA1
      go_wp2_with fail
      refine hA1.out.mono ?_
      rintro e w7 ⟨b7, rfl, hb7, hm7⟩
      obtain rfl : b7 = true := hb7 rfl
      have hm57 := hm6.out.trans hm7
      have hA2 := agrees_ok (hb5.out.vl.rep.fresh hm57) (hr2.out w7 hm57) hR.out hb5.out.vl.long rfl rfl rfl
      obtain ⟨k0, k1, k2, k3, kf, kl⟩ := hcB.out w7 hm57
      clear hb7 hm7
      replace hm57 := Lib.hid hm57
      replace hA2 := Lib.hid hA2
      go_wp2_with fail
      refine hA2.out.mono ?_
      rintro e w8 ⟨b8, rfl, hb8, hm8⟩
      obtain rfl : b8 = true := by simpa using hb8
      have hm08 := (hb5.out.mod.trans hm57.out).trans hm8
      clear hb8 hm8
      replace hm08 := Lib.hid hm08
      go_wp2_with fail
      refine (hE.out _).mono ?_
      rintro e w9 ⟨rfl, hm9⟩
      have hfin := hbl.out _ (hm08.out.trans hm9)
      replace hfin := Lib.hid hfin
      go_wp2
      go_ret
      exact ⟨rfl, hfin.out⟩
end Go.Proofs.YtikkodanpbmmkaaGreat
