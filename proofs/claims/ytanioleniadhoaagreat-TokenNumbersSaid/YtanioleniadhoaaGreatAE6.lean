/-
  The law TokenNumbers: the walk.
-/
import Derived.Test.YtanioleniadhoaaGreatAK27
import Derived.Test.YtanioleniadhoaaGreatAK23
import Derived.Test.YtanioleniadhoaaGreatAK1
import Derived.Test.YtanioleniadhoaaGreatAG36
set_option linter.unusedVariables false
set_option linter.unusedSimpArgs false
namespace Go.Proofs.YtanioleniadhoaaGreat
open Go.RowKit
open Jn Vn Rg Tk
attribute [local go_sem] Oper.semAt_some

theorem NGone.less {W0 W : World} {M : MemAt} {m : Mem} {n n' k a b : Nat} (h : NGone W0 W M m n k a b) (hk : n' ≤ n) : NGone W0 W M m n' k a b := { h with room := Nat.le_trans (Nat.add_le_add_left hk _) h.room }
theorem NC.more {W0 W : World} {A : VAt} {m : Mem} {s : VSt} {n k k' last seen : Nat} (h : NC W0 W A m s n k last seen) (hk : k ≤ k') : NC W0 W A m s n k' last seen := { h with cu := Nat.le_trans h.cu hk }
def bud (k : Nat) : Nat := (100 - k) * 1000000
theorem bud_zero : bud 0 ≤ 1000000000 := by decide
theorem bud_succ {k : Nat} (h : k < 100) : bud k = bud (k + 1) + 1000000 := by
  unfold bud
  rw [show 100 - k = (100 - (k + 1)) + 1 by omega, Nat.add_mul, Nat.one_mul]
set_option maxRecDepth 100000 in
set_option maxHeartbeats 16000000 in
theorem lawNumbers' (dv : Value) (d : List Nat) (w : World) (hd : Src w dv d) (bd : Bytes d) : Calls Tryz.prog 7 #[dv] w fun e w' => e = .returned (.bool true) ∧ Mod Nowhere w w' := by
  have hX := fun W => example38_ok W
  obtain ⟨da, dc, rfl, d1, d2, h3⟩ := hd
  by_cases h60 : 60 < d.length
  · have g : (60 : Int) < (d.length : Int) := by omega
    generalize d.length = dn at *
    clear h3 h60
    replace hX := Lib.hid hX
    go_enter Tryz.func7, Tryz.ntmps7
    go_wp2_with fail
    refine (hX.out _).mono ?_
    rintro e w1 ⟨rfl, hm1⟩
    replace hm1 := Lib.hid hm1
    go_wp2
    go_ret
    exact ⟨rfl, hm1.out⟩
  have g : ¬ (60 : Int) < (d.length : Int) := by omega
  have hM := memory38_ok w
  have hN := fun W => vNew_ok (w := W) (n := 1536) (e := 1073741824) (by omega) (by omega) (by omega) (by omega)
  have hNil := fun W => tNextNil_ok W
  have hcells : ∀ W, Mod Nowhere w W → ∀ k, k < d.length → ∃ b off, da = some ⟨b, off, none⟩ ∧ b < W.heap.size ∧ W.cell? ⟨b, off + k, none⟩ = some (.int .u8 ((d.getD k 0 : Nat) : Int)) := fun W hm k hk => by
    obtain ⟨b, off, e, hb, hc⟩ := h3 (by omega)
    exact ⟨b, off, e, Nat.lt_of_lt_of_le hb hm.size, (hm.cell (p := ⟨b, off + k, none⟩) hb id).trans (hc k hk)⟩
  have bx : ∀ k, d.getD k 0 < 256 := fun k => bd k
  generalize d.length = dn at *
  unfold maxLen at d2
  clear h3 bd
  have hdn60 : dn ≤ 60 := by omega
  clear h60
  replace hX := Lib.hid hX
  replace hM := Lib.hid hM
  replace hN := Lib.hid hN
  replace hNil := Lib.hid hNil
  replace hcells := Lib.hid hcells
  replace bx := Lib.hid bx
  go_enter Tryz.func7, Tryz.ntmps7
  go_wp2_with fail
  refine (hM.out).mono ?_
  rintro e w1 ⟨rfl, hm1⟩
  replace hm1 := Lib.hid hm1
  go_wp2_with fail
  refine (hN.out _).mono ?_
  intro e w2 hv
  obtain ⟨A0, m0, rfl, hc0, hp0⟩ := hv.vl64
  clear hv hM hN
  replace hc0 := Lib.hid hc0
  replace hp0 := Lib.hid hp0
  go_wp2
  go_loopw [4, 6, 7] (fun v l i wr => ∃ (k last : Nat) (A : VAt) (m : Mem), k ≤ dn ∧ i = .int .i64 (k : Int) ∧ l = .int .i64 (last : Int) ∧ last ≤ 2 * k ∧ v = ptr A.vb ∧ A.M = A0.M ∧ m.pending = false ∧ NC w1 wr A m (xIdle (nIt last)) (bud k) k last last) (fun _ _ i _ => dn - (intOf i).toNat)
  case atStart => exact ⟨0, 0, A0, m0, Nat.zero_le _, rfl, rfl, Nat.zero_le _, rfl, rfl, hp0.out, hc0.out.less bud_zero⟩
  case round =>
    obtain ⟨k, last, A, m, hk, rfl, rfl, hl2, rfl, hAM, hp, hc⟩ := hrel
    by_cases hlt : k < dn
    · obtain ⟨b, off, rfl, hbl, hck⟩ := hcells.out wr (hm1.out.trans hc.md) k hlt
      have hx := bx.out k
      have hki : (k : Int) < (dn : Int) := by omega
      have hB1 : bud k = bud (k + 1) + 1000000 := bud_succ (by omega)
      rw [hB1] at hc
      generalize hBB : bud (k + 1) = B at hc hB1
      have hB2 := hBB
      generalize d.getD k 0 = x at *
      have hq1 : (x : Int).tmod 2 = ((x % 2 : Nat) : Int) := by rw [Int.tmod_eq_emod_of_nonneg (by omega)]; omega
      have hq2 : (x : Int).tdiv 2 = ((x / 2 : Nat) : Int) := by rw [Int.tdiv_eq_ediv_of_nonneg (by omega)]; omega
      have hq3 : ((x / 2 : Nat) : Int).tmod 2 = ((x / 2 % 2 : Nat) : Int) := by rw [Int.tmod_eq_emod_of_nonneg (by omega)]; omega
      have hq4 : (x : Int).tdiv 4 = ((x / 4 : Nat) : Int) := by rw [Int.tdiv_eq_ediv_of_nonneg (by omega)]; omega
      have hr1 : x % 2 < 2 := Nat.mod_lt _ (by decide)
      have hr2 : x / 2 % 2 < 2 := Nat.mod_lt _ (by decide)
      have hh : x / 2 < 256 := by omega
      have hcc : x / 4 < 64 := by omega
      have hw1 : IntKind.u8.wrap ((x / 2 : Nat) : Int) = ((x / 2 : Nat) : Int) := by rw [IntKind.wrap_u8]; omega
      have hw2 : IntKind.u8.wrap ((x / 4 : Nat) : Int) = ((x / 4 : Nat) : Int) := by rw [IntKind.wrap_u8]; omega
      have hw3 : IntKind.i64.wrap ((x / 4 : Nat) : Int) = ((x / 4 : Nat) : Int) := i64_back _ (by omega)
      obtain ⟨bi, hbi⟩ : ∃ bi, (((x % 2 : Nat) : Int) == 1) = bi := ⟨_, rfl⟩
      obtain ⟨ba, hba⟩ : ∃ ba, (((x / 2 % 2 : Nat) : Int) == 1) = ba := ⟨_, rfl⟩
      generalize x / 2 % 2 = r2 at *
      generalize x % 2 = r1 at *
      generalize x / 2 = hf at *
      generalize x / 4 = c at *
      have hcw : ∀ W, Mod Nowhere wr W → W.cell? ⟨b, off + k, none⟩ = some (.int .u8 (x : Int)) ∧ b < W.heap.size := fun W hW => ⟨(hW.cell (p := ⟨b, off + k, none⟩) hbl id).trans hck, Nat.lt_of_lt_of_le hbl hW.size⟩
      have hcast : ((last + 1 : Nat) : Int) = (last : Int) + 1 := by omega
      have hcast2 : ((last + 1 + 1 : Nat) : Int) = (last : Int) + 2 := by omega
      have hne2 : (((last : Int) + 2) != (last : Int) + 1) = true := by simp
      clear hB1
      replace hc := Lib.hid hc
      replace hcw := Lib.hid hcw
      replace hAM := Lib.hid hAM
      replace hp := Lib.hid hp
      replace hB2 := Lib.hid hB2
      replace hcast := Lib.hid hcast
      replace hcast2 := Lib.hid hcast2
      go_wp2_with fail
      refine wp_region_vals (fun i => match i with | 0 => some (.slice (some ⟨b, off, none⟩) dn dc) | 1 => some (.int .i64 (k : Int)) | 2 => some (.pointer (some ⟨b, off + k, none⟩)) | 3 => some (.int .u8 (x : Int)) | 4 => some (.int .u8 (r1 : Int)) | 5 => some (.bool bi) | 6 => some (.slice (some ⟨b, off, none⟩) dn dc) | 7 => some (.int .i64 (k : Int)) | 8 => some (.pointer (some ⟨b, off + k, none⟩)) | 9 => some (.int .u8 (x : Int)) | 10 => some (.int .u8 (hf : Int)) | 11 => some (.int .u8 (r2 : Int)) | 12 => some (.bool ba) | 13 => some (.slice (some ⟨b, off, none⟩) dn dc) | 14 => some (.int .i64 (k : Int)) | 15 => some (.pointer (some ⟨b, off + k, none⟩)) | 16 => some (.int .u8 (x : Int)) | 17 => some (.int .u8 (c : Int)) | 18 => some (.int .i64 (c : Int)) | 19 => some (.bool bi) | 20 => some (.bool ba) | 21 => some (.int .i64 (c : Int)) | _ => none) (fun i => match i with | 2 => [0, 1] | 3 => [2] | 4 => [3] | 5 => [4] | 8 => [6, 7] | 9 => [8] | 10 => [9] | 11 => [10] | 12 => [11] | 15 => [13, 14] | 16 => [15] | 17 => [16] | 18 => [17] | 19 => [5, 0, 1, 2, 3, 4] | 20 => [12, 19, 0, 1, 2, 3, 4, 5, 6, 7, 8, 9, 10, 11] | 21 => [18, 20, 0, 1, 2, 3, 4, 5, 6, 7, 8, 9, 10, 11, 12, 13, 14, 15, 16, 17, 19] | _ => []) 22 (fun _ _ _ => True) ?A_10_0 (by first | assumption | kernel_rfl) (by kernel_rfl) (by kernel_rfl) (by kernel_rfl) (by rfl) ?hA_10_0 ?hS_10_0 ?hE_10_0
      case hA_10_0 => intro xs; simp [putAll, List.range, List.range.loop, Act.put] <;> rfl
      case hS_10_0 =>
        refine ⟨?_, ?_, ?_, ?q3_10_0, ?_, ?_, ?_, ?_, ?_, ?q9_10_0, ?_, ?_, ?_, ?_, ?_, ?_, ?q16_10_0, ?_, ?_, ?_, ?_, ?_, trivial⟩
        case q3_10_0 =>
          intro yv w' hR hF K hK
          clear hF
          obtain ⟨z, zb⟩ := hcw.out w' ((Mod.refl Nowhere _).drew.trans hR)
          go_simp
          exact hK _ _ (fun _ _ => rfl) (Mod.refl _ _)
        case q9_10_0 =>
          intro yv w' hR hF K hK
          clear hF
          obtain ⟨z, zb⟩ := hcw.out w' ((Mod.refl Nowhere _).drew.trans hR)
          go_simp
          exact hK _ _ (fun _ _ => rfl) (Mod.refl _ _)
        case q16_10_0 =>
          intro yv w' hR hF K hK
          clear hF
          obtain ⟨z, zb⟩ := hcw.out w' ((Mod.refl Nowhere _).drew.trans hR)
          go_simp
          exact hK _ _ (fun _ _ => rfl) (Mod.refl _ _)
        all_goals
          intro yv w' hR hF K hK
          clear hF
          go_simp
          exact hK _ _ (fun _ _ => by first | trivial | exact rfl | simp [*, known]) (Mod.refl _ _)
      case hE_10_0 =>
        intro yv w' hR hF
        clear hF
        simp only [mixN, Option.getD_some, Option.getD_none, Nat.reduceLT, if_true]
        have hcA := hc.out.fresh ((Mod.refl Nowhere _).drew.trans hR)
        clear hR hcw hq1 hq2 hq3 hq4 hw1 hw2 hw3 hbi hba hr1 hr2 hh hx hc hck hbl
        replace hcA := Lib.hid hcA
        cases bi
        · skip
          by_cases hc00 : c = 0
          · have hc0i : ¬ (0 : Int) < (c : Int) := by omega
            have hNx := tNext_ok (hcA.out.less (n' := B + 500000 + 63924) (by omega)) (Nat.zero_le _) (by omega)
            replace hNx := Lib.hid hNx
            go_wp2_with fail
            refine hNx.out.mono ?_
            intro e w5 hq
            obtain ⟨er, xn, rfl, ho, hxe, -⟩ := hq
            clear hNx
            rcases ho with ⟨rfl, m5, hc5, -⟩ | ⟨rfl, -, m5, hg5, hoE⟩
            · obtain rfl := hxe rfl
              rw [hcast.out]
              clear hxe
              have hcE : NC w1 w5 A m5 (xIdle (nIt (last + 1))) (B + 500000) k (last + 1) (last + 1) := by
                rw [xapp_idle] at hc5
                exact hc5
              clear hc5
              have hPw := hcE.power
              have hRs := hcE.restore
              rw [hAM.out] at hPw hRs
              replace hPw := Lib.hid hPw
              replace hRs := Lib.hid hRs
              replace hcE := Lib.hid hcE
              go_wp2_with fail
              refine hPw.out.mono ?_
              rintro e wp ⟨rfl, rfl⟩
              go_wp2_with fail
              refine hRs.out.mono ?_
              rintro e wq ⟨rfl, ⟨mq, hcq, hpq⟩, -⟩
              clear hPw hRs
              replace hcq := Lib.hid hcq
              go_wp2
              go_roundw
              case rel => exact ⟨k + 1, last + 1, A, mq, by omega, by go_num, by first | rfl | (rw [hcast.out]) | go_num, by omega, rfl, hAM.out, hpq, by rw [hB2.out]; exact (hcq.out.less (by omega)).more (Nat.le_succ _)⟩
              case measure => simp [intOf]; omega
            · clear hxe
              have hgE : NGone w1 w5 A.M m5 (B + 500000) (k + 1) last (last + 1) := hg5
              clear hg5
              have hPw := hgE.power hoE
              have hRs := (hgE.less (n' := B + 300000 + 62580) (by omega)).restore
              rw [hAM.out] at hPw hRs
              replace hPw := Lib.hid hPw
              replace hRs := Lib.hid hRs
              replace hgE := Lib.hid hgE
              go_wp2_with fail
              refine hPw.out.mono ?_
              rintro e wp ⟨rfl, rfl⟩
              go_wp2_with fail
              refine hRs.out.mono ?_
              rintro e wq ⟨rfl, ⟨mq, hgq, hoq, hpq⟩, -⟩
              have hMt := hgq.mount hoq hpq (by omega)
              clear hPw hRs hgE
              replace hMt := Lib.hid hMt
              replace hgq := Lib.hid hgq
              go_wp2_with fail
              refine hMt.out.mono ?_
              rintro e wm ⟨A2, m2, j, rfl, hA2, hj, hc2, hp2, -⟩
              clear hMt hgq
              have hNy := (hc2.less (n' := B + 100000 + 63924) (by omega)).nextS (Nat.zero_le _) (by omega) hp2
              rw [xapp_idle] at hNy
              replace hNy := Lib.hid hNy
              replace hc2 := Lib.hid hc2
              go_wp2_with fail
              refine hNy.out.mono ?_
              rintro e wn ⟨rfl, ⟨m3, hc3, hp3⟩, -⟩
              have hc4 : NC w1 wn A2 m3 (xIdle (nIt (j + 1))) (B + 100000) (k + 1) (j + 1) (j + 1) := hc3
              clear hNy hc2 hc3
              rcases hj with hj | hj <;> replace hj := hj.symm <;> subst hj
              · rw [hcast.out]
                replace hc4 := Lib.hid hc4
                replace hA2 := Lib.hid hA2
                go_wp2
                go_roundw
                case rel => exact ⟨k + 1, last + 1, A2, m3, by omega, by go_num, by first | rfl | (rw [hcast.out]) | go_num, by omega, rfl, hA2.out, hp3, by rw [hB2.out]; exact hc4.out.less (by omega)⟩
                case measure => simp [intOf]; omega
              · rw [hcast2.out]
                replace hc4 := Lib.hid hc4
                replace hA2 := Lib.hid hA2
                go_wp2
                go_roundw
                case rel => exact ⟨k + 1, last + 1 + 1, A2, m3, by omega, by go_num, by first | rfl | (rw [hcast2.out]) | go_num, by omega, rfl, hA2.out, hp3, by rw [hB2.out]; exact hc4.out.less (by omega)⟩
                case measure => simp [intOf]; omega
          · have hc0i : (0 : Int) < (c : Int) := by omega
            have hcm : (c : Int) - 1 = ((c - 1 : Nat) : Int) := by omega
            have hCt := hcA.out.cut (c := c - 1) (by omega)
            rw [hAM.out] at hCt
            replace hCt := Lib.hid hCt
            go_wp2_with fail
            refine hCt.out.mono ?_
            rintro e w4 ⟨rfl, ⟨m4, hc4x⟩, -⟩
            clear hCt hcm
            replace hc4x := Lib.hid hc4x
            have hNx := tNext_ok (hc4x.out.less (n' := B + 500000 + 63924) (by omega)) (Nat.zero_le _) (by omega)
            replace hNx := Lib.hid hNx
            go_wp2_with fail
            refine hNx.out.mono ?_
            intro e w5 hq
            obtain ⟨er, xn, rfl, ho, hxe, -⟩ := hq
            clear hNx
            rcases ho with ⟨rfl, m5, hc5, -⟩ | ⟨rfl, -, m5, hg5, hoE⟩
            · obtain rfl := hxe rfl
              rw [hcast.out]
              clear hxe
              have hcE : NC w1 w5 A m5 (xIdle (nIt (last + 1))) (B + 500000) k (last + 1) (last + 1) := by
                rw [xapp_idle] at hc5
                exact hc5
              clear hc5
              have hPw := hcE.power
              have hRs := hcE.restore
              rw [hAM.out] at hPw hRs
              replace hPw := Lib.hid hPw
              replace hRs := Lib.hid hRs
              replace hcE := Lib.hid hcE
              go_wp2_with fail
              refine hPw.out.mono ?_
              rintro e wp ⟨rfl, rfl⟩
              go_wp2_with fail
              refine hRs.out.mono ?_
              rintro e wq ⟨rfl, ⟨mq, hcq, hpq⟩, -⟩
              clear hPw hRs
              replace hcq := Lib.hid hcq
              go_wp2
              go_roundw
              case rel => exact ⟨k + 1, last + 1, A, mq, by omega, by go_num, by first | rfl | (rw [hcast.out]) | go_num, by omega, rfl, hAM.out, hpq, by rw [hB2.out]; exact (hcq.out.less (by omega)).more (Nat.le_succ _)⟩
              case measure => simp [intOf]; omega
            · clear hxe
              have hgE : NGone w1 w5 A.M m5 (B + 500000) (k + 1) last (last + 1) := hg5
              clear hg5
              have hPw := hgE.power hoE
              have hRs := (hgE.less (n' := B + 300000 + 62580) (by omega)).restore
              rw [hAM.out] at hPw hRs
              replace hPw := Lib.hid hPw
              replace hRs := Lib.hid hRs
              replace hgE := Lib.hid hgE
              go_wp2_with fail
              refine hPw.out.mono ?_
              rintro e wp ⟨rfl, rfl⟩
              go_wp2_with fail
              refine hRs.out.mono ?_
              rintro e wq ⟨rfl, ⟨mq, hgq, hoq, hpq⟩, -⟩
              have hMt := hgq.mount hoq hpq (by omega)
              clear hPw hRs hgE
              replace hMt := Lib.hid hMt
              replace hgq := Lib.hid hgq
              go_wp2_with fail
              refine hMt.out.mono ?_
              rintro e wm ⟨A2, m2, j, rfl, hA2, hj, hc2, hp2, -⟩
              clear hMt hgq
              have hNy := (hc2.less (n' := B + 100000 + 63924) (by omega)).nextS (Nat.zero_le _) (by omega) hp2
              rw [xapp_idle] at hNy
              replace hNy := Lib.hid hNy
              replace hc2 := Lib.hid hc2
              go_wp2_with fail
              refine hNy.out.mono ?_
              rintro e wn ⟨rfl, ⟨m3, hc3, hp3⟩, -⟩
              have hc4 : NC w1 wn A2 m3 (xIdle (nIt (j + 1))) (B + 100000) (k + 1) (j + 1) (j + 1) := hc3
              clear hNy hc2 hc3
              rcases hj with hj | hj <;> replace hj := hj.symm <;> subst hj
              · rw [hcast.out]
                replace hc4 := Lib.hid hc4
                replace hA2 := Lib.hid hA2
                go_wp2
                go_roundw
                case rel => exact ⟨k + 1, last + 1, A2, m3, by omega, by go_num, by first | rfl | (rw [hcast.out]) | go_num, by omega, rfl, hA2.out, hp3, by rw [hB2.out]; exact hc4.out.less (by omega)⟩
                case measure => simp [intOf]; omega
              · rw [hcast2.out]
                replace hc4 := Lib.hid hc4
                replace hA2 := Lib.hid hA2
                go_wp2
                go_roundw
                case rel => exact ⟨k + 1, last + 1 + 1, A2, m3, by omega, by go_num, by first | rfl | (rw [hcast2.out]) | go_num, by omega, rfl, hA2.out, hp3, by rw [hB2.out]; exact hc4.out.less (by omega)⟩
                case measure => simp [intOf]; omega
        · skip
          have hBg := (hcA.out.less (n' := B + 800000 + 63924) (by omega)).begin rfl hp.out
          replace hBg := Lib.hid hBg
          go_wp2_with fail
          refine hBg.out.mono ?_
          rintro e w3 ⟨rfl, ⟨m3b, hcB, hpB⟩, -⟩
          clear hBg hcA
          replace hcB := Lib.hid hcB
          replace hpB := Lib.hid hpB
          by_cases hc00 : c = 0
          · have hc0i : ¬ (0 : Int) < (c : Int) := by omega
            have hNx := tNext_ok (hcB.out.less (n' := B + 500000 + 63924) (by omega)) (Nat.zero_le _) (by omega)
            replace hNx := Lib.hid hNx
            go_wp2_with fail
            refine hNx.out.mono ?_
            intro e w5 hq
            obtain ⟨er, xn, rfl, ho, hxe, -⟩ := hq
            clear hNx
            rcases ho with ⟨rfl, m5, hc5, -⟩ | ⟨rfl, -, m5, hg5, hoE⟩
            · obtain rfl := hxe rfl
              rw [hcast.out]
              clear hxe
              have hc6 : NC w1 w5 A m5 ⟨nIt last, true, [nRec last]⟩ (B + 500000) k last (last + 1) := hc5
              clear hc5
              cases ba
              · skip
                have hTx := (hc6.less (n' := B + 400000 + 63924) (by omega)).commit rfl
                replace hTx := Lib.hid hTx
                replace hc6 := Lib.hid hc6
                go_wp2_with fail
                refine hTx.out.mono ?_
                rintro e w6 ⟨er2, rfl, ho2, -⟩
                clear hTx hc6
                rcases ho2 with ⟨rfl, m6, hcE, -⟩ | ⟨rfl, -, m6, hgE, hoE⟩
                · skip
                  have hPw := hcE.power
                  have hRs := hcE.restore
                  rw [hAM.out] at hPw hRs
                  replace hPw := Lib.hid hPw
                  replace hRs := Lib.hid hRs
                  replace hcE := Lib.hid hcE
                  go_wp2_with fail
                  refine hPw.out.mono ?_
                  rintro e wp ⟨rfl, rfl⟩
                  go_wp2_with fail
                  refine hRs.out.mono ?_
                  rintro e wq ⟨rfl, ⟨mq, hcq, hpq⟩, -⟩
                  clear hPw hRs
                  replace hcq := Lib.hid hcq
                  go_wp2
                  go_roundw
                  case rel => exact ⟨k + 1, last + 1, A, mq, by omega, by go_num, by first | rfl | (rw [hcast.out]) | go_num, by omega, rfl, hAM.out, hpq, by rw [hB2.out]; exact (hcq.out.less (by omega)).more (Nat.le_succ _)⟩
                  case measure => simp [intOf]; omega
                · skip
                  have hPw := hgE.power hoE
                  have hRs := (hgE.less (n' := B + 300000 + 62580) (by omega)).restore
                  rw [hAM.out] at hPw hRs
                  replace hPw := Lib.hid hPw
                  replace hRs := Lib.hid hRs
                  replace hgE := Lib.hid hgE
                  go_wp2_with fail
                  refine hPw.out.mono ?_
                  rintro e wp ⟨rfl, rfl⟩
                  go_wp2_with fail
                  refine hRs.out.mono ?_
                  rintro e wq ⟨rfl, ⟨mq, hgq, hoq, hpq⟩, -⟩
                  have hMt := hgq.mount hoq hpq (by omega)
                  clear hPw hRs hgE
                  replace hMt := Lib.hid hMt
                  replace hgq := Lib.hid hgq
                  go_wp2_with fail
                  refine hMt.out.mono ?_
                  rintro e wm ⟨A2, m2, j, rfl, hA2, hj, hc2, hp2, -⟩
                  clear hMt hgq
                  have hNy := (hc2.less (n' := B + 100000 + 63924) (by omega)).nextS (Nat.zero_le _) (by omega) hp2
                  rw [xapp_idle] at hNy
                  replace hNy := Lib.hid hNy
                  replace hc2 := Lib.hid hc2
                  go_wp2_with fail
                  refine hNy.out.mono ?_
                  rintro e wn ⟨rfl, ⟨m3, hc3, hp3⟩, -⟩
                  have hc4 : NC w1 wn A2 m3 (xIdle (nIt (j + 1))) (B + 100000) (k + 1) (j + 1) (j + 1) := hc3
                  clear hNy hc2 hc3
                  rcases hj with hj | hj <;> replace hj := hj.symm <;> subst hj
                  · rw [hcast.out]
                    replace hc4 := Lib.hid hc4
                    replace hA2 := Lib.hid hA2
                    go_wp2
                    go_roundw
                    case rel => exact ⟨k + 1, last + 1, A2, m3, by omega, by go_num, by first | rfl | (rw [hcast.out]) | go_num, by omega, rfl, hA2.out, hp3, by rw [hB2.out]; exact hc4.out.less (by omega)⟩
                    case measure => simp [intOf]; omega
                  · rw [hcast2.out]
                    replace hc4 := Lib.hid hc4
                    replace hA2 := Lib.hid hA2
                    go_wp2
                    go_roundw
                    case rel => exact ⟨k + 1, last + 1 + 1, A2, m3, by omega, by go_num, by first | rfl | (rw [hcast2.out]) | go_num, by omega, rfl, hA2.out, hp3, by rw [hB2.out]; exact hc4.out.less (by omega)⟩
                    case measure => simp [intOf]; omega
              · skip
                have hTx := (hc6.less (n' := B + 400000 + 63924) (by omega)).abort rfl
                replace hTx := Lib.hid hTx
                replace hc6 := Lib.hid hc6
                go_wp2_with fail
                refine hTx.out.mono ?_
                rintro e w6 ⟨er2, rfl, ho2, -⟩
                clear hTx hc6
                rcases ho2 with ⟨rfl, m6, hcE, -⟩ | ⟨rfl, -, m6, hgE, hoE⟩
                · skip
                  have hPw := hcE.power
                  have hRs := hcE.restore
                  rw [hAM.out] at hPw hRs
                  replace hPw := Lib.hid hPw
                  replace hRs := Lib.hid hRs
                  replace hcE := Lib.hid hcE
                  go_wp2_with fail
                  refine hPw.out.mono ?_
                  rintro e wp ⟨rfl, rfl⟩
                  go_wp2_with fail
                  refine hRs.out.mono ?_
                  rintro e wq ⟨rfl, ⟨mq, hcq, hpq⟩, -⟩
                  clear hPw hRs
                  replace hcq := Lib.hid hcq
                  go_wp2
                  go_roundw
                  case rel => exact ⟨k + 1, last, A, mq, by omega, by go_num, by first | rfl | (rw [hcast.out]) | go_num, by omega, rfl, hAM.out, hpq, by rw [hB2.out]; exact (hcq.out.less (by omega)).more (Nat.le_succ _)⟩
                  case measure => simp [intOf]; omega
                · skip
                  have hPw := hgE.power hoE
                  have hRs := (hgE.less (n' := B + 300000 + 62580) (by omega)).restore
                  rw [hAM.out] at hPw hRs
                  replace hPw := Lib.hid hPw
                  replace hRs := Lib.hid hRs
                  replace hgE := Lib.hid hgE
                  go_wp2_with fail
                  refine hPw.out.mono ?_
                  rintro e wp ⟨rfl, rfl⟩
                  go_wp2_with fail
                  refine hRs.out.mono ?_
                  rintro e wq ⟨rfl, ⟨mq, hgq, hoq, hpq⟩, -⟩
                  have hMt := hgq.mount hoq hpq (by omega)
                  clear hPw hRs hgE
                  replace hMt := Lib.hid hMt
                  replace hgq := Lib.hid hgq
                  go_wp2_with fail
                  refine hMt.out.mono ?_
                  rintro e wm ⟨A2, m2, j, rfl, hA2, hj, hc2, hp2, -⟩
                  clear hMt hgq
                  have hNy := (hc2.less (n' := B + 100000 + 63924) (by omega)).nextS (Nat.zero_le _) (by omega) hp2
                  rw [xapp_idle] at hNy
                  replace hNy := Lib.hid hNy
                  replace hc2 := Lib.hid hc2
                  go_wp2_with fail
                  refine hNy.out.mono ?_
                  rintro e wn ⟨rfl, ⟨m3, hc3, hp3⟩, -⟩
                  have hc4 : NC w1 wn A2 m3 (xIdle (nIt (j + 1))) (B + 100000) (k + 1) (j + 1) (j + 1) := hc3
                  clear hNy hc2 hc3
                  rcases hj with hj | hj <;> replace hj := hj.symm <;> subst hj
                  · rw [hcast.out]
                    replace hc4 := Lib.hid hc4
                    replace hA2 := Lib.hid hA2
                    go_wp2
                    go_roundw
                    case rel => exact ⟨k + 1, last + 1, A2, m3, by omega, by go_num, by first | rfl | (rw [hcast.out]) | go_num, by omega, rfl, hA2.out, hp3, by rw [hB2.out]; exact hc4.out.less (by omega)⟩
                    case measure => simp [intOf]; omega
                  · rw [hcast.out]
                    replace hc4 := Lib.hid hc4
                    replace hA2 := Lib.hid hA2
                    go_wp2
                    go_roundw
                    case rel => exact ⟨k + 1, last + 1, A2, m3, by omega, by go_num, by first | rfl | (rw [hcast.out]) | go_num, by omega, rfl, hA2.out, hp3, by rw [hB2.out]; exact hc4.out.less (by omega)⟩
                    case measure => simp [intOf]; omega
            · clear hxe
              have hgE : NGone w1 w5 A.M m5 (B + 500000) (k + 1) last last := hg5
              clear hg5
              have hPw := hgE.power hoE
              have hRs := (hgE.less (n' := B + 300000 + 62580) (by omega)).restore
              rw [hAM.out] at hPw hRs
              replace hPw := Lib.hid hPw
              replace hRs := Lib.hid hRs
              replace hgE := Lib.hid hgE
              go_wp2_with fail
              refine hPw.out.mono ?_
              rintro e wp ⟨rfl, rfl⟩
              go_wp2_with fail
              refine hRs.out.mono ?_
              rintro e wq ⟨rfl, ⟨mq, hgq, hoq, hpq⟩, -⟩
              have hMt := hgq.mount hoq hpq (by omega)
              clear hPw hRs hgE
              replace hMt := Lib.hid hMt
              replace hgq := Lib.hid hgq
              go_wp2_with fail
              refine hMt.out.mono ?_
              rintro e wm ⟨A2, m2, j, rfl, hA2, hj, hc2, hp2, -⟩
              clear hMt hgq
              have hNy := (hc2.less (n' := B + 100000 + 63924) (by omega)).nextS (Nat.zero_le _) (by omega) hp2
              rw [xapp_idle] at hNy
              replace hNy := Lib.hid hNy
              replace hc2 := Lib.hid hc2
              go_wp2_with fail
              refine hNy.out.mono ?_
              rintro e wn ⟨rfl, ⟨m3, hc3, hp3⟩, -⟩
              have hc4 : NC w1 wn A2 m3 (xIdle (nIt (j + 1))) (B + 100000) (k + 1) (j + 1) (j + 1) := hc3
              clear hNy hc2 hc3
              rcases hj with hj | hj <;> replace hj := hj.symm <;> subst hj
              · rw [hcast.out]
                replace hc4 := Lib.hid hc4
                replace hA2 := Lib.hid hA2
                go_wp2
                go_roundw
                case rel => exact ⟨k + 1, last + 1, A2, m3, by omega, by go_num, by first | rfl | (rw [hcast.out]) | go_num, by omega, rfl, hA2.out, hp3, by rw [hB2.out]; exact hc4.out.less (by omega)⟩
                case measure => simp [intOf]; omega
              · rw [hcast.out]
                replace hc4 := Lib.hid hc4
                replace hA2 := Lib.hid hA2
                go_wp2
                go_roundw
                case rel => exact ⟨k + 1, last + 1, A2, m3, by omega, by go_num, by first | rfl | (rw [hcast.out]) | go_num, by omega, rfl, hA2.out, hp3, by rw [hB2.out]; exact hc4.out.less (by omega)⟩
                case measure => simp [intOf]; omega
          · have hc0i : (0 : Int) < (c : Int) := by omega
            have hcm : (c : Int) - 1 = ((c - 1 : Nat) : Int) := by omega
            have hCt := hcB.out.cut (c := c - 1) (by omega)
            rw [hAM.out] at hCt
            replace hCt := Lib.hid hCt
            go_wp2_with fail
            refine hCt.out.mono ?_
            rintro e w4 ⟨rfl, ⟨m4, hc4x⟩, -⟩
            clear hCt hcm
            replace hc4x := Lib.hid hc4x
            have hNx := tNext_ok (hc4x.out.less (n' := B + 500000 + 63924) (by omega)) (Nat.zero_le _) (by omega)
            replace hNx := Lib.hid hNx
            go_wp2_with fail
            refine hNx.out.mono ?_
            intro e w5 hq
            obtain ⟨er, xn, rfl, ho, hxe, -⟩ := hq
            clear hNx
            rcases ho with ⟨rfl, m5, hc5, -⟩ | ⟨rfl, -, m5, hg5, hoE⟩
            · obtain rfl := hxe rfl
              rw [hcast.out]
              clear hxe
              have hc6 : NC w1 w5 A m5 ⟨nIt last, true, [nRec last]⟩ (B + 500000) k last (last + 1) := hc5
              clear hc5
              cases ba
              · skip
                have hTx := (hc6.less (n' := B + 400000 + 63924) (by omega)).commit rfl
                replace hTx := Lib.hid hTx
                replace hc6 := Lib.hid hc6
                go_wp2_with fail
                refine hTx.out.mono ?_
                rintro e w6 ⟨er2, rfl, ho2, -⟩
                clear hTx hc6
                rcases ho2 with ⟨rfl, m6, hcE, -⟩ | ⟨rfl, -, m6, hgE, hoE⟩
                · skip
                  have hPw := hcE.power
                  have hRs := hcE.restore
                  rw [hAM.out] at hPw hRs
                  replace hPw := Lib.hid hPw
                  replace hRs := Lib.hid hRs
                  replace hcE := Lib.hid hcE
                  go_wp2_with fail
                  refine hPw.out.mono ?_
                  rintro e wp ⟨rfl, rfl⟩
                  go_wp2_with fail
                  refine hRs.out.mono ?_
                  rintro e wq ⟨rfl, ⟨mq, hcq, hpq⟩, -⟩
                  clear hPw hRs
                  replace hcq := Lib.hid hcq
                  go_wp2
                  go_roundw
                  case rel => exact ⟨k + 1, last + 1, A, mq, by omega, by go_num, by first | rfl | (rw [hcast.out]) | go_num, by omega, rfl, hAM.out, hpq, by rw [hB2.out]; exact (hcq.out.less (by omega)).more (Nat.le_succ _)⟩
                  case measure => simp [intOf]; omega
                · skip
                  have hPw := hgE.power hoE
                  have hRs := (hgE.less (n' := B + 300000 + 62580) (by omega)).restore
                  rw [hAM.out] at hPw hRs
                  replace hPw := Lib.hid hPw
                  replace hRs := Lib.hid hRs
                  replace hgE := Lib.hid hgE
                  go_wp2_with fail
                  refine hPw.out.mono ?_
                  rintro e wp ⟨rfl, rfl⟩
                  go_wp2_with fail
                  refine hRs.out.mono ?_
                  rintro e wq ⟨rfl, ⟨mq, hgq, hoq, hpq⟩, -⟩
                  have hMt := hgq.mount hoq hpq (by omega)
                  clear hPw hRs hgE
                  replace hMt := Lib.hid hMt
                  replace hgq := Lib.hid hgq
                  go_wp2_with fail
                  refine hMt.out.mono ?_
                  rintro e wm ⟨A2, m2, j, rfl, hA2, hj, hc2, hp2, -⟩
                  clear hMt hgq
                  have hNy := (hc2.less (n' := B + 100000 + 63924) (by omega)).nextS (Nat.zero_le _) (by omega) hp2
                  rw [xapp_idle] at hNy
                  replace hNy := Lib.hid hNy
                  replace hc2 := Lib.hid hc2
                  go_wp2_with fail
                  refine hNy.out.mono ?_
                  rintro e wn ⟨rfl, ⟨m3, hc3, hp3⟩, -⟩
                  have hc4 : NC w1 wn A2 m3 (xIdle (nIt (j + 1))) (B + 100000) (k + 1) (j + 1) (j + 1) := hc3
                  clear hNy hc2 hc3
                  rcases hj with hj | hj <;> replace hj := hj.symm <;> subst hj
                  · rw [hcast.out]
                    replace hc4 := Lib.hid hc4
                    replace hA2 := Lib.hid hA2
                    go_wp2
                    go_roundw
                    case rel => exact ⟨k + 1, last + 1, A2, m3, by omega, by go_num, by first | rfl | (rw [hcast.out]) | go_num, by omega, rfl, hA2.out, hp3, by rw [hB2.out]; exact hc4.out.less (by omega)⟩
                    case measure => simp [intOf]; omega
                  · rw [hcast2.out]
                    replace hc4 := Lib.hid hc4
                    replace hA2 := Lib.hid hA2
                    go_wp2
                    go_roundw
                    case rel => exact ⟨k + 1, last + 1 + 1, A2, m3, by omega, by go_num, by first | rfl | (rw [hcast2.out]) | go_num, by omega, rfl, hA2.out, hp3, by rw [hB2.out]; exact hc4.out.less (by omega)⟩
                    case measure => simp [intOf]; omega
              · skip
                have hTx := (hc6.less (n' := B + 400000 + 63924) (by omega)).abort rfl
                replace hTx := Lib.hid hTx
                replace hc6 := Lib.hid hc6
                go_wp2_with fail
                refine hTx.out.mono ?_
                rintro e w6 ⟨er2, rfl, ho2, -⟩
                clear hTx hc6
                rcases ho2 with ⟨rfl, m6, hcE, -⟩ | ⟨rfl, -, m6, hgE, hoE⟩
                · skip
                  have hPw := hcE.power
                  have hRs := hcE.restore
                  rw [hAM.out] at hPw hRs
                  replace hPw := Lib.hid hPw
                  replace hRs := Lib.hid hRs
                  replace hcE := Lib.hid hcE
                  go_wp2_with fail
                  refine hPw.out.mono ?_
                  rintro e wp ⟨rfl, rfl⟩
                  go_wp2_with fail
                  refine hRs.out.mono ?_
                  rintro e wq ⟨rfl, ⟨mq, hcq, hpq⟩, -⟩
                  clear hPw hRs
                  replace hcq := Lib.hid hcq
                  go_wp2
                  go_roundw
                  case rel => exact ⟨k + 1, last, A, mq, by omega, by go_num, by first | rfl | (rw [hcast.out]) | go_num, by omega, rfl, hAM.out, hpq, by rw [hB2.out]; exact (hcq.out.less (by omega)).more (Nat.le_succ _)⟩
                  case measure => simp [intOf]; omega
                · skip
                  have hPw := hgE.power hoE
                  have hRs := (hgE.less (n' := B + 300000 + 62580) (by omega)).restore
                  rw [hAM.out] at hPw hRs
                  replace hPw := Lib.hid hPw
                  replace hRs := Lib.hid hRs
                  replace hgE := Lib.hid hgE
                  go_wp2_with fail
                  refine hPw.out.mono ?_
                  rintro e wp ⟨rfl, rfl⟩
                  go_wp2_with fail
                  refine hRs.out.mono ?_
                  rintro e wq ⟨rfl, ⟨mq, hgq, hoq, hpq⟩, -⟩
                  have hMt := hgq.mount hoq hpq (by omega)
                  clear hPw hRs hgE
                  replace hMt := Lib.hid hMt
                  replace hgq := Lib.hid hgq
                  go_wp2_with fail
                  refine hMt.out.mono ?_
                  rintro e wm ⟨A2, m2, j, rfl, hA2, hj, hc2, hp2, -⟩
                  clear hMt hgq
                  have hNy := (hc2.less (n' := B + 100000 + 63924) (by omega)).nextS (Nat.zero_le _) (by omega) hp2
                  rw [xapp_idle] at hNy
                  replace hNy := Lib.hid hNy
                  replace hc2 := Lib.hid hc2
                  go_wp2_with fail
                  refine hNy.out.mono ?_
                  rintro e wn ⟨rfl, ⟨m3, hc3, hp3⟩, -⟩
                  have hc4 : NC w1 wn A2 m3 (xIdle (nIt (j + 1))) (B + 100000) (k + 1) (j + 1) (j + 1) := hc3
                  clear hNy hc2 hc3
                  rcases hj with hj | hj <;> replace hj := hj.symm <;> subst hj
                  · rw [hcast.out]
                    replace hc4 := Lib.hid hc4
                    replace hA2 := Lib.hid hA2
                    go_wp2
                    go_roundw
                    case rel => exact ⟨k + 1, last + 1, A2, m3, by omega, by go_num, by first | rfl | (rw [hcast.out]) | go_num, by omega, rfl, hA2.out, hp3, by rw [hB2.out]; exact hc4.out.less (by omega)⟩
                    case measure => simp [intOf]; omega
                  · rw [hcast.out]
                    replace hc4 := Lib.hid hc4
                    replace hA2 := Lib.hid hA2
                    go_wp2
                    go_roundw
                    case rel => exact ⟨k + 1, last + 1, A2, m3, by omega, by go_num, by first | rfl | (rw [hcast.out]) | go_num, by omega, rfl, hA2.out, hp3, by rw [hB2.out]; exact hc4.out.less (by omega)⟩
                    case measure => simp [intOf]; omega
            · clear hxe
              have hgE : NGone w1 w5 A.M m5 (B + 500000) (k + 1) last last := hg5
              clear hg5
              have hPw := hgE.power hoE
              have hRs := (hgE.less (n' := B + 300000 + 62580) (by omega)).restore
              rw [hAM.out] at hPw hRs
              replace hPw := Lib.hid hPw
              replace hRs := Lib.hid hRs
              replace hgE := Lib.hid hgE
              go_wp2_with fail
              refine hPw.out.mono ?_
              rintro e wp ⟨rfl, rfl⟩
              go_wp2_with fail
              refine hRs.out.mono ?_
              rintro e wq ⟨rfl, ⟨mq, hgq, hoq, hpq⟩, -⟩
              have hMt := hgq.mount hoq hpq (by omega)
              clear hPw hRs hgE
              replace hMt := Lib.hid hMt
              replace hgq := Lib.hid hgq
              go_wp2_with fail
              refine hMt.out.mono ?_
              rintro e wm ⟨A2, m2, j, rfl, hA2, hj, hc2, hp2, -⟩
              clear hMt hgq
              have hNy := (hc2.less (n' := B + 100000 + 63924) (by omega)).nextS (Nat.zero_le _) (by omega) hp2
              rw [xapp_idle] at hNy
              replace hNy := Lib.hid hNy
              replace hc2 := Lib.hid hc2
              go_wp2_with fail
              refine hNy.out.mono ?_
              rintro e wn ⟨rfl, ⟨m3, hc3, hp3⟩, -⟩
              have hc4 : NC w1 wn A2 m3 (xIdle (nIt (j + 1))) (B + 100000) (k + 1) (j + 1) (j + 1) := hc3
              clear hNy hc2 hc3
              rcases hj with hj | hj <;> replace hj := hj.symm <;> subst hj
              · rw [hcast.out]
                replace hc4 := Lib.hid hc4
                replace hA2 := Lib.hid hA2
                go_wp2
                go_roundw
                case rel => exact ⟨k + 1, last + 1, A2, m3, by omega, by go_num, by first | rfl | (rw [hcast.out]) | go_num, by omega, rfl, hA2.out, hp3, by rw [hB2.out]; exact hc4.out.less (by omega)⟩
                case measure => simp [intOf]; omega
              · rw [hcast.out]
                replace hc4 := Lib.hid hc4
                replace hA2 := Lib.hid hA2
                go_wp2
                go_roundw
                case rel => exact ⟨k + 1, last + 1, A2, m3, by omega, by go_num, by first | rfl | (rw [hcast.out]) | go_num, by omega, rfl, hA2.out, hp3, by rw [hB2.out]; exact hc4.out.less (by omega)⟩
                case measure => simp [intOf]; omega
    · obtain rfl : k = dn := by omega
      have hmf := hm1.out.trans hc.md
      clear hc hAM hp
      replace hmf := Lib.hid hmf
      go_wp2_with fail
      refine (hNil.out _).mono ?_
      rintro e w8 ⟨rfl, rfl⟩
      go_wp2_with fail
      refine (hX.out _).mono ?_
      rintro e w9 ⟨rfl, hm9⟩
      have hff := hmf.out.trans hm9
      replace hm9 := Lib.hid hm9
      replace hff := Lib.hid hff
      go_wp2
      go_ret
      exact ⟨rfl, hff.out⟩
theorem lawTokenNumbers (dv : Value) (d : List Nat) (w : World) (hd : InBytes w dv d) : Calls Tryz.prog 7 #[dv] w fun e w' => e = .returned (.bool true) ∧ Below w.heap.size w w' := (lawNumbers' dv d w hd.1 hd.2).mono fun _ _ h => ⟨h.1, h.2.below⟩
end Go.Proofs.YtanioleniadhoaaGreat
