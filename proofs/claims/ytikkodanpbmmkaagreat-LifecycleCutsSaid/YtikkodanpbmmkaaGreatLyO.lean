/-
  The law of chapter 25 about the order of states: the walk.
-/
import Derived.Test.YtikkodanpbmmkaaGreatG21
import Derived.Test.YtikkodanpbmmkaaGreatG20
import Derived.Test.YtikkodanpbmmkaaGreatInp
set_option linter.unusedVariables false
set_option linter.unusedSimpArgs false
namespace Go.Proofs.YtikkodanpbmmkaaGreat
open Go.RowKit
open Jn Vn
attribute [local go_sem] Oper.semAt_some

theorem setR_range {c t : Int} (h1 : 1 ≤ c) (h5 : c ≤ 5) : 1 ≤ (setR c t).1 ∧ (setR c t).1 ≤ 5 ∧ ((setR c t).1 < c → ¬ (setR c t).1 < 3) ∧ (c = 5 → (setR c t).1 = 5) := by
  by_cases ht : hasB 0 t = false
  · unfold setR
    rw [if_pos ht]
    exact ⟨h1, h5, fun h => absurd h (by show ¬ c < c; omega), fun h => h⟩
  · have hr : 1 ≤ t ∧ t ≤ 5 := by rw [hasB_card] at ht; simpa using ht
    clear ht
    obtain rfl | rfl | rfl | rfl | rfl : c = 1 ∨ c = 2 ∨ c = 3 ∨ c = 4 ∨ c = 5 := by omega
    all_goals (obtain rfl | rfl | rfl | rfl | rfl : t = 1 ∨ t = 2 ∨ t = 3 ∨ t = 4 ∨ t = 5 := by omega) <;> decide
set_option maxRecDepth 100000 in
set_option maxHeartbeats 8000000 in
theorem lawOrder_ok (v : Value) (zs : List Int) (w : World) (hin : InRow w v zs) : Calls Tryz.prog 4 #[v] w fun e w' => e = .returned (.bool true) ∧ Below w.heap.size w w' := by
  obtain ⟨a, cap, rfl, h1, h2, h3⟩ := hin
  have hE := fun W => example25_ok W
  have hbl : ∀ W : World, Mod Nowhere w W → Below w.heap.size w W := fun W h => h.below
  replace hE := Lib.hid hE
  replace hbl := Lib.hid hbl
  by_cases hn : 100 < zs.length
  · have hni : (100 : Int) < (zs.length : Int) := by omega
    go_enter Tryz.func4, Tryz.ntmps4
    go_wp2_with fail
    refine (hE.out _).mono ?_
    rintro e w1 ⟨rfl, hm1⟩
    go_wp2
    go_ret
    exact ⟨rfl, hm1.below⟩
  have hni : ¬ (100 : Int) < (zs.length : Int) := by omega
  have hM := fun W => memory25_ok W
  have hN := fun W => vNew_ok (w := W) (n := 16384) (e := 1073741824) (by omega) (by omega) (by omega) (by omega)
  have hR := fun W c t => rSet_ok (w := W) c t
  replace hM := Lib.hid hM
  replace hN := Lib.hid hN
  replace hR := Lib.hid hR
  replace h3 := Lib.hid h3
  go_enter Tryz.func4, Tryz.ntmps4
  go_wp2_with fail
  refine (hM.out _).mono ?_
  rintro e w1 ⟨rfl, hm1⟩
  replace hm1 := Lib.hid hm1
  go_wp2_with fail
  refine (hN.out _).mono ?_
  rintro e w2 hv
  obtain ⟨A, m, rfl, hup, hpd, hAS, hm2⟩ := hv.up
  clear hv
  have hm02 := hm1.out.trans hm2
  have hAn : ∀ k, A.S k → w.heap.size ≤ k := fun k hk => Nat.le_trans hm1.out.size (hAS k hk)
  have hO := lOpen_ok hup.rep hup.inv (by have := hup.len; omega)
  replace hO := Lib.hid hO
  replace hup := Lib.hid hup
  replace hpd := Lib.hid hpd
  replace hAn := Lib.hid hAn
  replace hm02 := Lib.hid hm02
  clear hAS hm2
  go_wp2_with fail
  refine hO.out.mono ?_
  rintro e w3 ⟨lb, rfl, hlb, hbx3, hm3⟩
  have hup3 := hup.out.fresh hm3
  have hm03 := hm02.out.trans hm3
  have hO3 := lOpen_ok hup3.rep hup3.inv (by have := hup3.len; omega)
  replace hO3 := Lib.hid hO3
  replace hup3 := Lib.hid hup3
  replace hbx3 := Lib.hid hbx3
  replace hm03 := Lib.hid hm03
  clear hm3 hO
  go_wp2_with fail
  refine hO3.out.mono ?_
  rintro e w4 ⟨lc, rfl, hlc, hby4, hm4⟩
  have hup4 := hup3.out.fresh hm4
  have hm04 := hm03.out.trans hm4
  have hbx4 := hbx3.out.mod hm4 id
  have hst : Up w4 A m (vst0 none_) ((100 - 0) * 1022784) := hup4.less (by omega)
  replace hbx4 := Lib.hid hbx4
  replace hby4 := Lib.hid hby4
  replace hm04 := Lib.hid hm04
  replace hst := Lib.hid hst
  clear hm4 hO3 hup4 hup3 hbx3
  go_wp2
  go_loopw [10, 11] (fun s i wr => ∃ (k : Nat) (mk : Mem) (st : VSt), k ≤ zs.length ∧ i = .int .i64 k ∧ s = .int .i64 (cur st) ∧ Up wr A mk st ((100 - k) * 1022784) ∧ mk.pending = false ∧ st.act = false ∧ Blk wr lb [ptr A.vb] 42 ∧ Blk wr lc [ptr A.vb] 42 ∧ Mod Nowhere w wr) (fun _ i _ => zs.length - (intOf i).toNat)
  case atStart => exact ⟨0, m, vst0 none_, by omega, rfl, rfl, hst.out, hpd.out, rfl, hbx4.out, hby4.out, hm04.out⟩
  case round =>
    obtain ⟨k, mk, st, hk, rfl, rfl, hupk, hpdk, hact, hbx, hby, hmk⟩ := hrel
    by_cases hlt : k < zs.length
    · obtain ⟨b, off, rfl, hb, hcell⟩ := h3.out (by omega)
      have hc := (hmk.cell (p := ⟨b, off + k, none⟩) hb id).trans (hcell k hlt)
      have hb2 : b < wr.heap.size := Nat.lt_of_lt_of_le hb hmk.size
      obtain ⟨r1, r2, r3, r4⟩ := setR_range (t := zs.getD k 0) hupk.inv.cur_range.1 hupk.inv.cur_range.2
      have hck := hcell k hlt
      clear hcell
      generalize zs.getD k 0 = t at *
      have hS := lset_sure (n := (100 - (k + 1)) * 1022784) (hupk.less (by omega)) hpdk (by rw [hupk.idle hact]; decide) hbx t
      have hRk := fun W => hR.out W (cur st) t
      generalize cur st = c at *
      generalize (setR c t).1 = c' at *
      generalize (setR c t).2 = er at *
      replace hS := Lib.hid hS
      replace hRk := Lib.hid hRk
      replace hby := Lib.hid hby
      replace hmk := Lib.hid hmk
      replace hact := Lib.hid hact
      replace r1 := Lib.hid r1
      replace r2 := Lib.hid r2
      replace r3 := Lib.hid r3
      replace r4 := Lib.hid r4
      replace hck := Lib.hid hck
      replace hbx := Lib.hid hbx
      clear hupk hpdk
      go_wp2_with fail
      refine hS.out.mono ?_
      rintro e w5 ⟨rfl, m5, s5, hup5, hpd5, hc5, ha5, hl5, hm5, hk5⟩
      have hbx5 := hk5 lb hbx.out
      have hby5 := hk5 lc hby.out
      have hm05 := hmk.out.step hm5 fun i hi e => absurd hi (by have := hAn.out i e; omega)
      have hcz : w5.cell? ⟨b, off + k, none⟩ = some (.int .i64 t) := (hm05.cell (p := ⟨b, off + k, none⟩) hb id).trans hck.out
      have hb5 : b < w5.heap.size := Nat.lt_of_lt_of_le hb hm05.size
      have hS5 := lState_ok hup5.rep hup5.inv (by have := hup5.len; omega) hbx5
      have hT5 := fun W (hm : Mod Nowhere w5 W) => lState_ok (hup5.fresh hm).rep hup5.inv (by have := hup5.len; omega) (hby5.mod hm id)
      rw [hc5] at hS5
      simp only [hc5] at hT5
      replace hS5 := Lib.hid hS5
      replace hT5 := Lib.hid hT5
      replace hup5 := Lib.hid hup5
      replace hpd5 := Lib.hid hpd5
      replace hc5 := Lib.hid hc5
      replace hbx5 := Lib.hid hbx5
      replace hby5 := Lib.hid hby5
      replace hm05 := Lib.hid hm05
      replace ha5 := Lib.hid ha5
      clear hm5 hk5 hl5 hS hc
      go_wp2_with fail
      refine (hRk.out _).mono ?_
      rintro e w6 ⟨rfl, rfl⟩
      have hfin : ∀ W, Mod Nowhere w5 W → ∃ (k' : Nat) (mk : Mem) (st : VSt), k' ≤ zs.length ∧ Value.int .i64 ((k : Int) + 1) = .int .i64 k' ∧ Value.int .i64 c' = .int .i64 (cur st) ∧ Up W A mk st ((100 - k') * 1022784) ∧ mk.pending = false ∧ st.act = false ∧ Blk W lb [ptr A.vb] 42 ∧ Blk W lc [ptr A.vb] 42 ∧ Mod Nowhere w W := fun W hm =>
        ⟨k + 1, m5, s5, by omega, by go_num, by rw [hc5.out], hup5.out.fresh hm, hpd5.out, ha5.out.trans hact.out, hbx5.out.mod hm id, hby5.out.mod hm id, hm05.out.trans hm⟩
      replace hfin := Lib.hid hfin
      have key : ((c' < c ∧ ¬ c' < 3) ∨ ¬ c' < c) ∧ ((c = 5 ∧ c' = 5) ∨ ¬ c = 5) := by
        have := r3.out
        have := r4.out
        omega
      clear r1 r2 r3 r4
      obtain ⟨key1, key2⟩ := key
      rcases key1 with ⟨q1, q2⟩ | q1 <;> rcases key2 with ⟨rfl, rfl⟩ | q3
      all_goals
        go_wp2_with fail
        refine hS5.out.mono ?_
        rintro e w7 ⟨rfl, hm7⟩
        have hT7 := hT5.out w7 hm7
        replace hT7 := Lib.hid hT7
        replace hm7 := Lib.hid hm7
        go_wp2_with fail
        refine hT7.out.mono ?_
        rintro e w8 ⟨rfl, hm8⟩
        have hfin8 := hfin.out w8 (hm7.out.trans hm8)
        replace hfin8 := Lib.hid hfin8
        clear hm8 hm7
        go_wp2
        go_roundw
        case rel => exact hfin8.out
        case measure => simp [intOf]; omega
    · obtain rfl : k = zs.length := by omega
      replace hmk := Lib.hid hmk
      go_wp2_with fail
      refine (hE.out _).mono ?_
      rintro e w5 ⟨rfl, hm5⟩
      have hfin := hbl.out _ (hmk.out.trans hm5)
      go_wp2
      go_ret
      exact ⟨rfl, hfin⟩
end Go.Proofs.YtikkodanpbmmkaaGreat
