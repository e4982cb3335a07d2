/-
  The law VaultBack: the walk.
-/
import Derived.Test.YtikkodanpbmmkaaGreatLo
set_option linter.unusedVariables false
set_option linter.unusedSimpArgs false
namespace Go.Proofs.YtikkodanpbmmkaaGreat
open Go.RowKit
open Jn Vn
attribute [local go_sem] Oper.semAt_some

/-- Putting and deleting within a transaction leaves the changes made before. -/
theorem vDo_keeps {Z : Nat} {s : VSt} {op nd : Int} {d : List Nat} (ho : op = 0 ∨ op = 1) (ha : s.act = true) : ∃ y, (vDo Z s op nd d).1.l = s.l ++ y := by
  have hc : ∀ r, ∃ y, (vChange Z s r).1.l = s.l ++ y := fun r => by
    unfold vChange
    rw [ha]
    split
    · exact ⟨[], by simp⟩
    · split
      · exact ⟨[], by simp⟩
      · rw [if_pos rfl]; exact ⟨[r], rfl⟩
  unfold vDo
  rcases ho with rfl | rfl
  · rw [if_pos rfl]
    unfold vPut
    split
    · exact hc _
    · exact ⟨[], by simp⟩
  · rw [if_neg (by decide), if_pos rfl]
    unfold vDel
    split
    · split
      · exact hc _
      · exact ⟨[], by simp⟩
    · exact ⟨[], by simp⟩
set_option maxRecDepth 100000 in
set_option maxHeartbeats 16000000 in
theorem lawBack13_ok (v : Value) (l : List Vop) (u : Value) (l2 : List Vop) (w : World) (hin : InOps w v l) (hin2 : InOps w u l2) : Calls Tryz.prog 10 #[v, u] w fun e w' => e = .returned (.bool true) ∧ Below w.heap.size w w' := by
  have hL := light_ok hin
  have hL2 := light_ok hin2
  obtain ⟨a, cap, rfl, h1, h2, h3⟩ := hin
  obtain ⟨a2, cap2, rfl, i1, i2, i3⟩ := hin2
  have hE := fun W => example13_ok W
  have hbl : ∀ W : World, Mod Nowhere w W → Below w.heap.size w W := fun W h => h.below
  have hO := fun W => open_ok W true
  obtain ⟨lt, hlt⟩ : ∃ lt, lightB l = lt := ⟨_, rfl⟩
  obtain ⟨lt2, hlt2⟩ : ∃ lt, lightB l2 = lt := ⟨_, rfl⟩
  rw [hlt] at hL
  rw [hlt2] at hL2
  replace hE := Lib.hid hE
  replace hbl := Lib.hid hbl
  replace hO := Lib.hid hO
  replace h3 := Lib.hid h3
  replace i3 := Lib.hid i3
  replace hL := Lib.hid hL
  replace hL2 := Lib.hid hL2
  cases lt
  · replace hlt := Lib.hid hlt
    replace hlt2 := Lib.hid hlt2
    go_enter Tryz.func10, Tryz.ntmps10
    go_wp2_with fail
    refine (hL.out).mono ?_
    rintro e w1 ⟨rfl, rfl⟩
    go_wp2_with fail
    refine (hE.out _).mono ?_
    rintro e w1 ⟨rfl, hm1⟩
    have hfin := hbl.out _ hm1
    replace hfin := Lib.hid hfin
    go_wp2
    go_ret
    exact ⟨rfl, hfin.out⟩
  cases lt2
  · replace hlt := Lib.hid hlt
    replace hlt2 := Lib.hid hlt2
    go_enter Tryz.func10, Tryz.ntmps10
    go_wp2_with fail
    refine (hL.out).mono ?_
    rintro e w1 ⟨rfl, rfl⟩
    go_wp2_with fail
    refine (hL2.out).mono ?_
    rintro e w1 ⟨rfl, rfl⟩
    go_wp2_with fail
    refine (hE.out _).mono ?_
    rintro e w1 ⟨rfl, hm1⟩
    have hfin := hbl.out _ hm1
    replace hfin := Lib.hid hfin
    go_wp2
    go_ret
    exact ⟨rfl, hfin.out⟩
  obtain ⟨hl60, hl3⟩ := lightB_ok hlt
  obtain ⟨il60, il3⟩ := lightB_ok hlt2
  replace hlt := Lib.hid hlt
  replace hlt2 := Lib.hid hlt2
  replace hl3 := Lib.hid hl3
  replace il3 := Lib.hid il3
  go_enter Tryz.func10, Tryz.ntmps10
  go_wp2_with fail
  refine (hL.out).mono ?_
  rintro e w1 ⟨rfl, rfl⟩
  go_wp2_with fail
  refine (hL2.out).mono ?_
  rintro e w1 ⟨rfl, rfl⟩
  go_wp2_with fail
  refine (hO.out _).mono ?_
  rintro e w1 ⟨A, m, rfl, hu, hpd, -, -, hR2, -, hAS, hm1⟩
  obtain ⟨R, hR⟩ : ∃ R, A.Z / 2 = R := ⟨_, rfl⟩
  have hb1 := both_open hu hpd hR2 hR hAS hm1
  have hB : w.heap.size ≤ w1.heap.size := hm1.size
  rw [hR]
  replace hR := Lib.hid hR
  replace hb1 := Lib.hid hb1
  clear hu hpd hR2 hAS hm1
  go_wp2
  generalize w1.alloc (.cells #[.int .i64 R, .slice none 0 0, .bool false, .slice none 0 0] 54) = X at *
  generalize w1.heap.size = B at *
  go_loopw [9] (fun i wr => ∃ (k : Nat) (mk : Mem) (st : VSt), k ≤ l.length ∧ i = .int .i64 k ∧ Both w wr A mk B R ((200 - k) * 1022784) st st ∧ st.l.length ≤ k) (fun i _ => l.length - (RowKit.intOf i).toNat)
  case atStart => exact ⟨0, _, _, by omega, rfl, { hb1.out with vl := hb1.out.vl.less (by omega) }, Nat.le_refl _⟩
  case round =>
    obtain ⟨k, mk, st, hk, rfl, hbk, hsl⟩ := hrel
    by_cases hlt2 : k < l.length
    · obtain ⟨b, off, rfl, hc⟩ := h3.out (by omega)
      obtain ⟨op, nd, da, dl, dc, d, hx, -⟩ := OpAt.of (hc k hlt2) (hl3.out _ (List.getElem_mem hlt2))
      obtain ⟨c0, c1, c2, cl⟩ := hx.cells wr hbk.mod
      have hfin : ∀ W mk' st', Both w W A mk' B R ((200 - (k + 1)) * 1022784) st' st' → st'.l.length ≤ k + 1 → ∃ (k' : Nat) (mk : Mem) (st : VSt), k' ≤ l.length ∧ Value.int .i64 ((k : Int) + 1) = .int .i64 k' ∧ Both w W A mk B R ((200 - k') * 1022784) st st ∧ st.l.length ≤ k' :=
        fun W mk' st' g1 g2 => ⟨k + 1, mk', st', by omega, by go_num, g1, g2⟩
      clear hc
      obtain ⟨q, hq⟩ : ∃ q, vDo A.Z st op nd d = q := ⟨_, rfl⟩
      have hql : q.1.l.length ≤ k + 1 := by rw [← hq]; exact Nat.le_trans (vDo_len _ _ _ _ _) (by omega)
      have hD := (hbk.vl.less (show (200 - (k + 1)) * 1022784 + 1022784 ≤ (200 - k) * 1022784 by omega)).do_ hbk.pend op nd (hx.src wr hbk.mod) hx.bytes hx.short hq (by omega)
      replace hD := Lib.hid hD
      replace hfin := Lib.hid hfin
      replace hbk := Lib.hid hbk
      replace hx := Lib.hid hx
      replace hq := Lib.hid hq
      go_wp2_with fail
      refine hD.out.mono ?_
      rintro e w5 hs5
      obtain ⟨m5, rfl, hb5⟩ := hbk.out.call hs5
      obtain ⟨ia, n, ic, ea, j, ec, act, xs, es, hact, hst, hbB⟩ := hb5.box.get
      have hkB := fun W (hm : Mod Nowhere w5 W) => (hbB.mod hm (fun e => e)).four
      have hkX := fun W (hm : Mod Nowhere w5 W) => hx.out.cells W (hb5.mod.trans hm)
      have hRD := fun W (hm : Mod Nowhere w5 W) => rDo_ok (RRep.mk' (hst.fresh hm) hact) hb5.hR op nd (hx.out.src W (hb5.mod.trans hm)) hx.out.bytes hx.out.short (by omega)
      simp only [hq.out] at hRD
      obtain ⟨k0, k1, k2, k3, kf, kl⟩ := hkB w5 (Mod.refl _ _)
      obtain ⟨k4, k5, k6, kX⟩ := hkX w5 (Mod.refl _ _)
      have hD1 := hRD w5.drew ((Mod.refl Nowhere w5).drew)
      obtain ⟨st', er⟩ := q
      dsimp only at hql hD1
      clear hs5 hst hact hRD
      replace hb5 := Lib.hid hb5
      replace hbB := Lib.hid hbB
      replace hkB := Lib.hid hkB
      replace hkX := Lib.hid hkX
      replace hD1 := Lib.hid hD1
      dsimp only
      go_wp2
      go_region_law (first | (go_simp; go_at_call 39; (with_reducible refine hD1.out.mono ?_); rintro e w6 ⟨v6, rfl, hr6, hm6⟩; obtain ⟨ia6, n6, ic6, ea6, j6, ec6, act6, xs6, es6, hact6, rfl, hst6⟩ := hr6.get; have hb6 := (hb5.out.fresh ((Mod.refl Nowhere w5).drew.trans hm6)).put hst6 hact6; have hbB6 := hbB.out.mod ((Mod.refl Nowhere w5).drew.trans hm6) (fun e => e); obtain ⟨q0, q1, q2, q3, qf, ql⟩ := hbB6.four; replace hb6 := Lib.hid hb6; replace hbB6 := Lib.hid hbB6; clear hr6 hst6 hact6))
      all_goals
        have hf := hfin.out _ m5 st' hb6.out hql
        unfold outW at hf
        clear q0 q1 q2 q3 qf ql hm6
        replace hf := Lib.hid hf
        go_wp2
        go_roundw
        case rel => exact hf.out
        case measure => simp [RowKit.intOf]; omega
    · obtain rfl : k = l.length := by omega
      have hbk0 : Both w wr A mk B R (100 * 1022784) st st := { hbk with vl := hbk.vl.less (by omega) }
      obtain ⟨ia, n, ic, ea, j, ec, act, xs, es, hact, hst, hbB⟩ := hbk.box.get
      obtain ⟨k0, k1, k2, k3, kf, kl⟩ := hbB.four
      clear hbk
      cases act
      · have hAg := agrees_ok hbk0.vl.rep (RRep.mk' hst hact) hR.out hbk0.vl.long rfl rfl rfl
        have hBk := fun W (hm : Mod Nowhere wr W) => (hbk0.fresh hm).vl.less (show 5000000 + 1022784 ≤ 100 * 1022784 by omega) |>.back hbk0.pend 0 (q := (st, 14)) (by unfold vBack; rw [if_neg (by rw [hact]; decide)]) (by show st.l.length ≤ 1000; omega)
        clear hst hact
        replace hAg := Lib.hid hAg
        replace hBk := Lib.hid hBk
        replace hbB := Lib.hid hbB
        replace hbk0 := Lib.hid hbk0
        go_wp2_with fail
        refine hAg.out.mono ?_
        rintro e w10 ⟨b10, rfl, hb10, hm10⟩
        obtain rfl : b10 = true := by simpa using hb10
        have hBk1 := hBk.out w10 hm10
        have hbk1 := hbk0.out.fresh hm10
        clear hb10 hm10
        replace hBk1 := Lib.hid hBk1
        replace hbk1 := Lib.hid hbk1
        go_wp2_with fail
        refine hBk1.out.mono ?_
        rintro e w11 hs11
        obtain ⟨m11, rfl, hb11⟩ := hbk1.out.call hs11
        have hm11 := hb11.mod
        clear hs11 hb11
        dsimp only
        replace hm11 := Lib.hid hm11
        go_wp2_with fail
        refine (hE.out _).mono ?_
        rintro e w12 ⟨rfl, hm12⟩
        have hfin := hbl.out _ (hm11.out.trans hm12)
        replace hfin := Lib.hid hfin
        go_wp2
        go_ret
        exact ⟨rfl, hfin.out⟩
      · obtain ⟨f0, a0, l0⟩ := st
        dsimp only at hact hsl
        subst hact
        have hSv := vSave_ok hbk0.vl.rep
        rw [show (VSt.l ⟨f0, true, l0⟩).length = l0.length from rfl] at hSv
        clear hst hbB k0 k1 k3 kf
        obtain ⟨mark, hmark⟩ : ∃ n, l0.length = n := ⟨_, rfl⟩
        rw [hmark] at hSv hsl
        replace hSv := Lib.hid hSv
        replace hbk0 := Lib.hid hbk0
        replace hmark := Lib.hid hmark
        go_wp2_with fail
        refine (hSv.out).mono ?_
        rintro e w2 ⟨rfl, hm2⟩
        have hb2 := hbk0.out.fresh hm2
        clear hm2
        replace hb2 := Lib.hid hb2
        go_wp2
        go_loopw [11] (fun i wr => ∃ (k : Nat) (mk : Mem) (y : List Rec), k ≤ l2.length ∧ i = .int .i64 k ∧ Both w wr A mk B R ((100 - k) * 1022784) ⟨f0, true, l0 ++ y⟩ ⟨f0, true, l0⟩ ∧ y.length ≤ k) (fun i _ => l2.length - (RowKit.intOf i).toNat)
        case atStart => exact ⟨0, _, [], by omega, rfl, by rw [List.append_nil]; exact hb2.out, Nat.le_refl _⟩
        case round =>
          obtain ⟨k, mk, y, hk, rfl, hbk, hsy⟩ := hrel
          by_cases hlt2 : k < l2.length
          · obtain ⟨b, off, rfl, hc⟩ := i3.out (by omega)
            obtain ⟨op, nd, da, dl, dc, d, hx, -⟩ := OpAt.of (hc k hlt2) (il3.out _ (List.getElem_mem hlt2))
            obtain ⟨c0, c1, c2, cl⟩ := hx.cells _ hbk.mod
            have hfin : ∀ W mk' y', Both w W A mk' B R ((100 - (k + 1)) * 1022784) ⟨f0, true, l0 ++ y'⟩ ⟨f0, true, l0⟩ → y'.length ≤ k + 1 → ∃ (k' : Nat) (mk : Mem) (y : List Rec), k' ≤ l2.length ∧ Value.int .i64 ((k : Int) + 1) = .int .i64 k' ∧ Both w W A mk B R ((100 - k') * 1022784) ⟨f0, true, l0 ++ y⟩ ⟨f0, true, l0⟩ ∧ y.length ≤ k' :=
              fun W mk' y' g1 g2 => ⟨k + 1, mk', y', by omega, by go_num, g1, g2⟩
            clear hc
            by_cases ho : op = 0 ∨ op = 1
            · obtain ⟨q, hq⟩ : ∃ q, vDo A.Z ⟨f0, true, l0 ++ y⟩ op nd d = q := ⟨_, rfl⟩
              obtain ⟨hqa, hqf⟩ := vDo_tx (Z := A.Z) (s := ⟨f0, true, l0 ++ y⟩) (nd := nd) (d := d) ho rfl
              obtain ⟨z, hqz⟩ := vDo_keeps (Z := A.Z) (s := ⟨f0, true, l0 ++ y⟩) (nd := nd) (d := d) ho rfl
              have hqn := vDo_len A.Z ⟨f0, true, l0 ++ y⟩ op nd d
              rw [hq] at hqa hqf hqz hqn
              obtain ⟨⟨f', a', l'⟩, er⟩ := q
              dsimp only at hqa hqf hqz hqn
              subst hqa hqf hqz
              have hzl : (y ++ z).length ≤ k + 1 := by simp at hqn ⊢; omega
              have hD := (hbk.vl.less (show (100 - (k + 1)) * 1022784 + 1022784 ≤ (100 - k) * 1022784 by omega)).do_ hbk.pend op nd (hx.src _ hbk.mod) hx.bytes hx.short hq (by show (l0 ++ y ++ z).length ≤ 1000; rw [List.append_assoc, List.length_append]; have := hmark.out; omega)
              have hcase : ((op == 0) = true) ∨ ((op == 0) = false ∧ (op == 1) = true) := by rcases ho with rfl | rfl <;> simp
              replace hD := Lib.hid hD
              replace hfin := Lib.hid hfin
              replace hbk := Lib.hid hbk
              replace hx := Lib.hid hx
              replace hq := Lib.hid hq
              replace hzl := Lib.hid hzl
              clear hqn
              rcases hcase with e0 | ⟨e0, e1⟩
              all_goals
                go_wp2_with fail
                refine hD.out.mono ?_
                rintro e w5 hs5
                obtain ⟨m5, rfl, hb5⟩ := hbk.out.call hs5
                dsimp only at hb5
                rw [List.append_assoc] at hb5
                have hf := hfin.out _ m5 _ hb5 hzl.out
                clear hs5 hb5
                replace hf := Lib.hid hf
                go_wp2
                go_roundw
                case rel => exact hf.out
                case measure => simp [RowKit.intOf]; omega
            · have ho0 : ¬ op = 0 := fun e => ho (.inl e)
              have ho1 : ¬ op = 1 := fun e => ho (.inr e)
              have e0 : (op == 0) = false := by simpa using ho0
              have e1 : (op == 1) = false := by simpa using ho1
              have hf := hfin _ mk y { hbk with vl := hbk.vl.less (by omega) } (by omega)
              replace hf := Lib.hid hf
              replace hfin := Lib.hid hfin
              replace hbk := Lib.hid hbk
              replace hx := Lib.hid hx
              clear ho
              go_wp2
              go_roundw
              case rel => exact hf.out
              case measure => simp [RowKit.intOf]; omega
          · obtain rfl : k = l2.length := by omega
            have hSv := vSave_ok hbk.vl.rep
            obtain ⟨ln, hln⟩ : ∃ n, (l0 ++ y).length = n := ⟨_, rfl⟩
            rw [show (VSt.l ⟨f0, true, l0 ++ y⟩).length = ln from hln] at hSv
            have hlnb : mark ≤ ln ∧ ln ≤ 200 := by
              have := hmark.out
              rw [List.length_append] at hln; omega
            have hbk0 : Both w _ A mk B R (5000000 + 1022784 + 1022784) ⟨f0, true, l0 ++ y⟩ ⟨f0, true, l0⟩ := { hbk with vl := hbk.vl.less (by omega) }
            clear hbk
            have hlo : 0 ≤ ((ln : Int) + 1) := by omega
            have hw1 : IntKind.i64.wrap ((ln : Int) + 1) = (ln : Int) + 1 := by rw [IntKind.wrap_i64]; omega
            replace hSv := Lib.hid hSv
            replace hbk0 := Lib.hid hbk0
            replace hmark := Lib.hid hmark
            replace hln := Lib.hid hln
            replace hlnb := Lib.hid hlnb
            go_wp2_with fail
            refine (hSv.out).mono ?_
            rintro e w4 ⟨rfl, hm4⟩
            have hb4 := hbk0.out.fresh hm4
            have hB4 := hb4.vl.back hb4.pend ((ln : Int) + 1) (q := (⟨f0, true, l0 ++ y⟩, 2)) (by unfold vBack; rw [if_pos rfl, if_pos (by right; show ((l0 ++ y).length : Int) < _; rw [hln.out]; omega)]) (by show (l0 ++ y).length ≤ 1000; rw [hln.out]; have := hlnb.out; omega)
            clear hm4
            replace hb4 := Lib.hid hb4
            replace hB4 := Lib.hid hB4
            go_wp2_with fail
            refine hB4.out.mono ?_
            rintro e w5 hs5
            obtain ⟨m5, rfl, hb5⟩ := hb4.out.call hs5
            dsimp only at hb5 ⊢
            have hB5 := hb5.vl.back hb5.pend (mark : Int) (q := (⟨f0, true, l0⟩, 0)) (by
              have e1 : (l0 ++ y).length = ln := hln.out
              have := hlnb.out
              unfold vBack
              rw [if_pos rfl, if_neg (by show ¬ ((mark : Int) < 0 ∨ ((l0 ++ y).length : Int) < mark); rw [e1]; omega)]
              show ((⟨f0, true, (l0 ++ y).take (mark : Int).toNat⟩ : VSt), 0) = _
              rw [Int.toNat_natCast, ← hmark.out, List.take_left']
              rfl) (by show l0.length ≤ 1000; rw [hmark.out]; omega)
            clear hs5
            replace hb5 := Lib.hid hb5
            replace hB5 := Lib.hid hB5
            go_wp2_with fail
            refine hB5.out.mono ?_
            rintro e w6 hs6
            obtain ⟨m6, rfl, hb6⟩ := hb5.out.call hs6
            dsimp only at hb6 ⊢
            obtain ⟨ia, n, ic, ea, j, ec, act, xs, es, hact, hst, hbB⟩ := hb6.box.get
            obtain ⟨k0, k1, k2, k3, kf, kl⟩ := hbB.four
            have hAg := agrees_ok hb6.vl.rep (RRep.mk' hst hact) hR.out hb6.vl.long rfl rfl rfl
            have hm6 := hb6.mod
            clear hs6 hst hact hbB hb6
            replace hAg := Lib.hid hAg
            replace hm6 := Lib.hid hm6
            go_wp2_with fail
            refine hAg.out.mono ?_
            rintro e w10 ⟨b10, rfl, hb10, hm10⟩
            obtain rfl : b10 = true := by simpa using hb10
            have hm010 := hm6.out.trans hm10
            clear hb10 hm10
            replace hm010 := Lib.hid hm010
            go_wp2_with fail
            refine (hE.out _).mono ?_
            rintro e w12 ⟨rfl, hm12⟩
            have hfin := hbl.out _ (hm010.out.trans hm12)
            replace hfin := Lib.hid hfin
            go_wp2
            go_ret
            exact ⟨rfl, hfin.out⟩
end Go.Proofs.YtikkodanpbmmkaaGreat
