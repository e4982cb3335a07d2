/-
  The law VaultNow: the walk.
-/
import Derived.Test.YtikkodanpbmmkaaGreatG28
import Derived.Test.YtikkodanpbmmkaaGreatLa
import Derived.Test.YtikkodanpbmmkaaGreatInr
set_option linter.unusedVariables false
set_option linter.unusedSimpArgs false
namespace Go.Proofs.YtikkodanpbmmkaaGreat
open Go.RowKit
open Jn Vn
attribute [local go_sem] Oper.semAt_some

theorem vDo_tx {Z : Nat} {s : VSt} {op nd : Int} {d : List Nat} (ho : op = 0 ∨ op = 1) (ha : s.act = true) : (vDo Z s op nd d).1.act = true ∧ (vDo Z s op nd d).1.f = s.f := by
  have hc : ∀ r, (vChange Z s r).1.act = true ∧ (vChange Z s r).1.f = s.f := fun r => by
    unfold vChange
    rw [ha]
    split
    · exact ⟨ha, rfl⟩
    · split
      · exact ⟨ha, rfl⟩
      · rw [if_pos rfl]; exact ⟨rfl, rfl⟩
  unfold vDo
  rcases ho with rfl | rfl
  · rw [if_pos rfl]
    unfold vPut
    split
    · exact hc _
    · exact ⟨ha, rfl⟩
  · rw [if_neg (by decide), if_pos rfl]
    unfold vDel
    split
    · split
      · exact hc _
      · exact ⟨ha, rfl⟩
    · exact ⟨ha, rfl⟩
/-- What Now has stored remains after Abort. -/
theorem now_abort (Z : Nat) (f : Items) (l : List Rec) (nd : Int) (d : List Nat) :
    (vAbort (vNow Z ⟨f, true, l⟩ nd d).1).2 = 0 ∧ ((vNow Z ⟨f, true, l⟩ nd d).2 = 0 → (vNow Z ⟨f, true, []⟩ nd d).2 = 0 ∧ (vAbort (vNow Z ⟨f, true, []⟩ nd d).1).1 = (vAbort (vNow Z ⟨f, true, l⟩ nd d).1).1) ∧ ((vNow Z ⟨f, true, l⟩ nd d).2 ≠ 0 → (vAbort ⟨f, true, []⟩).1 = (vAbort (vNow Z ⟨f, true, l⟩ nd d).1).1) := by
  have e : ∀ g : Items, sets g [] = g := fun _ => rfl
  unfold vNow
  by_cases hv : validB nd d.length = true
  · by_cases h2 : (l.any fun r => decide (((r.1 : Nat) : Int) = nd)) = true
    · simp only [hv, h2, if_true]
      simp [vAbort]
    · by_cases h3 : Z / 2 < wt (set1 f (nd.toNat, some d)) ∨ Z / 2 < wt (sets (set1 f (nd.toNat, some d)) l)
      · simp only [hv, h2, h3, if_true, if_false]
        simp [vAbort]
      · have h4 : ¬ (Z / 2 < wt (set1 f (nd.toNat, some d)) ∨ Z / 2 < wt (set1 f (nd.toNat, some d))) := by omega
        simp only [hv, h2, h3, e, h4, if_true, if_false]
        simp [vAbort]
  · simp only [hv, if_false]
    simp [vAbort]
set_option maxRecDepth 100000 in
set_option maxHeartbeats 16000000 in
theorem lawNow13_ok (v : Value) (l : List Vop) (nd0 : Int) (bv : Value) (bd : List Nat) (w : World) (hin : InOps w v l) (hib : InBytes w bv bd) : Calls Tryz.prog 9 #[v, .int .i64 nd0, bv] w fun e w' => e = .returned (.bool true) ∧ Below w.heap.size w w' := by
  have hL := light_ok hin
  obtain ⟨a, cap, rfl, h1, h2, h3⟩ := hin
  obtain ⟨ba, bc, rfl, -⟩ := id hib.1
  have hE := fun W => example13_ok W
  have hbl : ∀ W : World, Mod Nowhere w W → Below w.heap.size w W := fun W h => h.below
  have hO := fun W => open_ok W true
  obtain ⟨lt, hlt⟩ : ∃ lt, lightB l = lt := ⟨_, rfl⟩
  obtain ⟨bl, hbd⟩ : ∃ bl, bd.length = bl := ⟨_, rfl⟩
  rw [hlt] at hL
  rw [hbd] at hib ⊢
  replace hE := Lib.hid hE
  replace hbl := Lib.hid hbl
  replace hO := Lib.hid hO
  replace h3 := Lib.hid h3
  replace hL := Lib.hid hL
  replace hib := Lib.hid hib
  replace hbd := Lib.hid hbd
  cases lt
  · replace hlt := Lib.hid hlt
    go_enter Tryz.func9, Tryz.ntmps9
    go_wp2_with fail
    refine (hL.out).mono ?_
    rintro e w1 ⟨rfl, rfl⟩
    go_wp2_with fail
    refine (hE.out _).mono ?_
    rintro e w1 ⟨rfl, hm1⟩
    have hfin := hbl.out _ hm1
    replace hfin := Lib.hid hfin
    go_wp2
    go_ret
    exact ⟨rfl, hfin.out⟩
  by_cases hq : 3000 < bl
  · have hqi : (3000 : Int) < (bl : Int) := by omega
    replace hlt := Lib.hid hlt
    go_enter Tryz.func9, Tryz.ntmps9
    go_wp2_with fail
    refine (hL.out).mono ?_
    rintro e w1 ⟨rfl, rfl⟩
    go_wp2_with fail
    refine (hE.out _).mono ?_
    rintro e w1 ⟨rfl, hm1⟩
    have hfin := hbl.out _ hm1
    replace hfin := Lib.hid hfin
    go_wp2
    go_ret
    exact ⟨rfl, hfin.out⟩
  have hqi : ¬ (3000 : Int) < (bl : Int) := by omega
  obtain ⟨hl60, hl3⟩ := lightB_ok hlt
  replace hlt := Lib.hid hlt
  replace hl3 := Lib.hid hl3
  go_enter Tryz.func9, Tryz.ntmps9
  go_wp2_with fail
  refine (hL.out).mono ?_
  rintro e w1 ⟨rfl, rfl⟩
  go_wp2_with fail
  refine (hO.out _).mono ?_
  rintro e w1 ⟨A, m, rfl, hu, hpd, -, -, hR2, -, hAS, hm1⟩
  obtain ⟨R, hR⟩ : ∃ R, A.Z / 2 = R := ⟨_, rfl⟩
  have hb1 := both_open hu hpd hR2 hR hAS hm1
  have hB : w.heap.size ≤ w1.heap.size := hm1.size
  rw [hR]
  have hc2 := (hb1.vl.less (show (100 * 1022784) + 1022784 ≤ 1000000000 by omega)).begin hpd (q := (⟨none_, true, []⟩, 0)) rfl (by decide)
  replace hR := Lib.hid hR
  replace hb1 := Lib.hid hb1
  replace hc2 := Lib.hid hc2
  clear hu hpd hR2 hAS hm1
  go_wp2_with fail
  refine hc2.out.mono ?_
  rintro e w2 hs2
  obtain ⟨m2, rfl, hb2⟩ := hb1.out.call hs2
  generalize w1.heap.size = B at *
  obtain ⟨ia, n, ic, ea, k, ec, act, xs, es, hact, hst, hbk⟩ := hb2.box.get
  obtain ⟨k0, k1, k2, k3, kf, kl⟩ := hbk.four
  have hc3 := rBegin_ok (RRep.mk' hst hact)
  rw [show (vBegin (vst0 none_)).1 = ⟨none_, true, []⟩ from rfl, show (vBegin (vst0 none_)).2 = 0 from rfl] at hc3
  clear hs2 hbk hst hact
  replace hb2 := Lib.hid hb2
  replace hc3 := Lib.hid hc3
  go_wp2_with fail
  refine (hc3.out).mono ?_
  rintro e w3 ⟨v3, rfl, hr3, hm3⟩
  obtain ⟨ia3, n3, ic3, ea3, k3', ec3, act3, xs3, es3, hact3, rfl, hst3⟩ := hr3.get
  have hb3' := hb2.out.fresh hm3
  have hb3 := hb3'.put hst3 hact3
  obtain ⟨_, _, _, _, _, _, _, _, _, -, -, hbk3⟩ := hb3'.box.get
  obtain ⟨k0, k1, k2, k3, kf, kl⟩ := hbk3.four
  have hst3' := hst3.keep (outW_mod w3 B (.int .i64 R) (.slice ia3 n3 ic3) (.bool act3) (.slice ea3 k3' ec3)) (fun i e => by rw [e]; exact ⟨_, hbk3⟩)
  have hD3 : RBox ((outW w3 B (.int .i64 R) (.slice ia3 n3 ic3) (.bool act3) (.slice ea3 k3' ec3)).alloc (.cells #[.int .i64 R, .slice ia3 n3 ic3, .bool act3, .slice ea3 k3' ec3] 54)) w3.heap.size R ⟨none_, true, []⟩ :=
    RBox.of (Blk.new' (by simp [outW, World.setCell]) rfl) (hst3'.fresh ((Mod.refl Nowhere _).alloc _)) hact3
  have hb4 := hb3.fresh ((Mod.refl Nowhere _).alloc (.cells #[.int .i64 R, .slice ia3 n3 ic3, .bool act3, .slice ea3 k3' ec3] 54))
  have hDB : B < w3.heap.size := kl
  unfold outW at hb4 hD3
  clear hr3 hm3 hb3' hst3 hst3' hact3 hbk3 hb3
  replace hb4 := Lib.hid hb4
  replace hD3 := Lib.hid hD3
  go_wp2
  generalize hX : ((((w3.setCell ⟨B, 0, none⟩ (.int .i64 R)).setCell ⟨B, 1, none⟩ (.slice ia3 n3 ic3)).setCell ⟨B, 2, none⟩ (.bool act3)).setCell ⟨B, 3, none⟩ (.slice ea3 k3' ec3)).alloc (.cells #[.int .i64 R, .slice ia3 n3 ic3, .bool act3, .slice ea3 k3' ec3] 54) = X at *
  generalize hDe : w3.heap.size = D at *
  clear hX hDe k0 k1 k2 k3 kf kl hc2 hc3 hb1 hb2
  go_loopw [12] (fun i wr => ∃ (k : Nat) (mk : Mem) (st : VSt), k ≤ l.length ∧ i = .int .i64 k ∧ Both w wr A mk B R ((100 - k) * 1022784) st st ∧ st.act = true ∧ st.f = none_ ∧ st.l.length ≤ k ∧ RBox wr D R ⟨none_, true, []⟩) (fun i _ => l.length - (RowKit.intOf i).toNat)
  case atStart => exact ⟨0, _, _, by omega, rfl, hb4.out, rfl, rfl, Nat.le_refl _, hD3.out⟩
  case round =>
    obtain ⟨k, mk, st, hk, rfl, hbk, hsa, hsf, hsl, hDk⟩ := hrel
    by_cases hlt2 : k < l.length
    · obtain ⟨b, off, rfl, hc⟩ := h3.out (by omega)
      obtain ⟨op, nd, da, dl, dc, d, hx, -⟩ := OpAt.of (hc k hlt2) (hl3.out _ (List.getElem_mem hlt2))
      obtain ⟨c0, c1, c2, cl⟩ := hx.cells wr hbk.mod
      have hfin : ∀ W mk' st', Both w W A mk' B R ((100 - (k + 1)) * 1022784) st' st' → st'.act = true → st'.f = none_ → st'.l.length ≤ k + 1 → RBox W D R ⟨none_, true, []⟩ → ∃ (k' : Nat) (mk : Mem) (st : VSt), k' ≤ l.length ∧ Value.int .i64 ((k : Int) + 1) = .int .i64 k' ∧ Both w W A mk B R ((100 - k') * 1022784) st st ∧ st.act = true ∧ st.f = none_ ∧ st.l.length ≤ k' ∧ RBox W D R ⟨none_, true, []⟩ :=
        fun W mk' st' g1 g2 g3 g4 g5 => ⟨k + 1, mk', st', by omega, by go_num, g1, g2, g3, g4, g5⟩
      clear hc
      by_cases ho : op = 0 ∨ op = 1
      · obtain ⟨q, hq⟩ : ∃ q, vDo A.Z st op nd d = q := ⟨_, rfl⟩
        obtain ⟨hqa, hqf⟩ := vDo_tx (Z := A.Z) (s := st) (nd := nd) (d := d) ho hsa
        have hql : q.1.l.length ≤ k + 1 := by rw [← hq]; exact Nat.le_trans (vDo_len _ _ _ _ _) (by omega)
        rw [hq] at hqa hqf
        have hD := (hbk.vl.less (show (100 - (k + 1)) * 1022784 + 1022784 ≤ (100 - k) * 1022784 by omega)).do_ hbk.pend op nd (hx.src wr hbk.mod) hx.bytes hx.short hq (by omega)
        have htest : (op == 0 || op == 1) = true := by rcases ho with rfl | rfl <;> rfl
        have hcase : ((op == 0) = true) ∨ ((op == 0) = false ∧ (op == 1) = true) := by rcases ho with rfl | rfl <;> simp
        replace hD := Lib.hid hD
        replace hfin := Lib.hid hfin
        replace hbk := Lib.hid hbk
        replace hsa := Lib.hid hsa
        replace hsf := Lib.hid hsf
        replace hDk := Lib.hid hDk
        replace hx := Lib.hid hx
        replace hq := Lib.hid hq
        replace hqa := Lib.hid hqa
        replace hqf := Lib.hid hqf
        replace htest := Lib.hid htest
        rcases hcase with e0 | ⟨e0, e1⟩
        all_goals
          go_wp2_with fail
          refine hD.out.mono ?_
          rintro e w5 hs5
          obtain ⟨m5, rfl, hb5⟩ := hbk.out.call hs5
          have hD5 : RBox w5 D R ⟨none_, true, []⟩ := by
            obtain ⟨m5', -, -, -, hM⟩ := hs5
            exact hDk.out.keepA hbk.out.vl.rep hM
          obtain ⟨ia, n, ic, ea, j, ec, act, xs, es, hact, hst, hbB⟩ := hb5.box.get
          have hkB := fun W (hm : Mod Nowhere w5 W) => (hbB.mod hm (fun e => e)).four
          have hkX := fun W (hm : Mod Nowhere w5 W) => hx.out.cells W (hb5.mod.trans hm)
          have hRD := fun W (hm : Mod Nowhere w5 W) => rDo_ok (RRep.mk' (hst.fresh hm) hact) hb5.hR op nd (hx.out.src W (hb5.mod.trans hm)) hx.out.bytes hx.out.short (by omega)
          simp only [hq.out] at hRD
          obtain ⟨k0, k1, k2, k3, kf, kl⟩ := hkB w5 (Mod.refl _ _)
          obtain ⟨k4, k5, k6, kX⟩ := hkX w5 (Mod.refl _ _)
          have hD1 := hRD w5.drew ((Mod.refl Nowhere w5).drew)
          obtain ⟨st', er⟩ := q
          dsimp only at hql hD1
          replace hqa := hqa.out
          replace hqf := hqf.out
          dsimp only at hqa hqf
          replace hqa := Lib.hid hqa
          replace hqf := Lib.hid hqf
          clear hs5 hst hact hRD
          replace hb5 := Lib.hid hb5
          replace hD5 := Lib.hid hD5
          replace hbB := Lib.hid hbB
          replace hkB := Lib.hid hkB
          replace hkX := Lib.hid hkX
          replace hD1 := Lib.hid hD1
          dsimp only
          go_wp2
          go_region_law (first | (go_simp; go_at_call 39; (with_reducible refine hD1.out.mono ?_); rintro e w6 ⟨v6, rfl, hr6, hm6⟩; obtain ⟨ia6, n6, ic6, ea6, j6, ec6, act6, xs6, es6, hact6, rfl, hst6⟩ := hr6.get; have hb6 := (hb5.out.fresh ((Mod.refl Nowhere w5).drew.trans hm6)).put hst6 hact6; have hbB6 := hbB.out.mod ((Mod.refl Nowhere w5).drew.trans hm6) (fun e => e); obtain ⟨q0, q1, q2, q3, qf, ql⟩ := hbB6.four; replace hb6 := Lib.hid hb6; replace hbB6 := Lib.hid hbB6; clear hr6 hst6 hact6))
          all_goals
            have hD6 := (hD5.out.fresh ((Mod.refl Nowhere w5).drew.trans hm6)).other (outW_mod w6 B (.int .i64 R) (.slice ia6 n6 ic6) (.bool act6) (.slice ea6 j6 ec6)) hbB6.out (by omega)
            have hf := hfin.out _ m5 st' hb6.out hqa.out (hqf.out.trans hsf.out) hql hD6
            unfold outW at hf
            clear hD6 q0 q1 q2 q3 qf ql hm6
            replace hf := Lib.hid hf
            go_wp2
            go_roundw
            case rel => exact hf.out
            case measure => simp [RowKit.intOf]; omega
      · have ho0 : ¬ op = 0 := fun e => ho (.inl e)
        have ho1 : ¬ op = 1 := fun e => ho (.inr e)
        have e0 : (op == 0) = false := by simpa using ho0
        have e1 : (op == 1) = false := by simpa using ho1
        have hf := hfin wr mk st { hbk with vl := hbk.vl.less (by omega) } hsa hsf (by omega) hDk
        replace hf := Lib.hid hf
        replace hfin := Lib.hid hfin
        replace hbk := Lib.hid hbk
        replace hsa := Lib.hid hsa
        replace hsf := Lib.hid hsf
        replace hDk := Lib.hid hDk
        replace hx := Lib.hid hx
        clear ho
        go_wp2
        go_roundw
        case rel => exact hf.out
        case measure => simp [RowKit.intOf]; omega
    · obtain rfl : k = l.length := by omega
      obtain ⟨f0, a0, l0⟩ := st
      dsimp only at hsa hsf hsl
      subst hsa hsf
      obtain ⟨n1, n2, n3⟩ := now_abort A.Z none_ l0 nd0 bd
      obtain ⟨q, hq⟩ : ∃ q, vNow A.Z ⟨none_, true, l0⟩ nd0 bd = q := ⟨_, rfl⟩
      rw [hq] at n1 n2 n3
      have hlq : q.1.l = l0 := by
        rw [← hq]; unfold vNow
        split
        · split
          · rfl
          · split <;> rfl
        · rfl
      have hib1 := hib.out.1.fresh hbk.mod
      have hbs : bd.length ≤ 1099511627776 := by have := hbd.out; omega
      have hN := (hbk.vl.less (show 5000000 + 1022784 + 1022784 ≤ (100 - l.length) * 1022784 by omega)).now hbk.pend nd0 hib1 hib.out.2 hbs hq (by rw [hlq]; omega)
      obtain ⟨st', er⟩ := q
      dsimp only at n1 n2 n3 hlq
      have hb8 := hib.out.2
      replace hN := Lib.hid hN
      replace n1 := Lib.hid n1
      replace n2 := Lib.hid n2
      replace n3 := Lib.hid n3
      replace hbk := Lib.hid hbk
      replace hDk := Lib.hid hDk
      replace hq := Lib.hid hq
      replace hib1 := Lib.hid hib1
      replace hlq := Lib.hid hlq
      replace hb8 := Lib.hid hb8
      replace hbs := Lib.hid hbs
      go_wp2_with fail
      refine hN.out.mono ?_
      rintro e w5 hs5
      obtain ⟨m5, rfl, hb5⟩ := hbk.out.call hs5
      have hD5 : RBox w5 D R ⟨none_, true, []⟩ := by
        obtain ⟨m5', -, -, -, hM⟩ := hs5
        exact hDk.out.keepA hbk.out.vl.rep hM
      obtain ⟨ia, n, ic, ea, j, ec, act, xs, es, hact, hst, hbB⟩ := hb5.box.get
      obtain ⟨k0, k1, k2, k3, kf, kl⟩ := hbB.four
      have hRN := rNow_ok (RRep.mk' hst hact) hb5.hR nd0 (hib.out.1.fresh hb5.mod) hb8.out hbs.out (by show l0.length ≤ 8000; omega)
      rw [hq.out] at hRN
      clear hs5 hst hact
      dsimp only at hRN hb5
      replace hb5 := Lib.hid hb5
      replace hD5 := Lib.hid hD5
      replace hbB := Lib.hid hbB
      replace hRN := Lib.hid hRN
      go_wp2_with fail
      refine (hRN.out).mono ?_
      rintro e w6 ⟨v6, rfl, hr6, hm6⟩
      obtain ⟨ia6, n6, ic6, ea6, j6, ec6, act6, xs6, es6, hact6, rfl, hst6⟩ := hr6.get
      have hmA := hm6.alloc (.cells #[.int .i64 R, .slice ia6 n6 ic6, .bool act6, .slice ea6 j6 ec6] 54)
      have hb7 := hb5.out.fresh hmA
      have hD7 := hD5.out.fresh hmA
      obtain ⟨sa, hsa⟩ : ∃ sa, vAbort st' = (sa, 0) := ⟨(vAbort st').1, Prod.ext rfl n1.out⟩
      have hsl : sa.l.length ≤ 1000 := by
        have : sa = (vAbort st').1 := by rw [hsa]
        rw [this]; unfold vAbort
        split
        · show 0 ≤ 1000; omega
        · rw [hlq.out]; omega
      have hAb := (hb7.vl.less (show 5000000 + 1022784 ≤ 5000000 + 1022784 by omega)).abort hb7.pend hsa hsl
      clear hr6 hst6 hact6 hmA
      replace hb7 := Lib.hid hb7
      replace hD7 := Lib.hid hD7
      replace hAb := Lib.hid hAb
      replace hsl := Lib.hid hsl
      replace hm6 := Lib.hid hm6
      replace hsa := Lib.hid hsa
      go_wp2_with fail
      refine hAb.out.mono ?_
      rintro e w8 hs8
      obtain ⟨m8, rfl, hb8'⟩ := hb7.out.call hs8
      have hD8 : RBox w8 D R ⟨none_, true, []⟩ := by
        obtain ⟨m8', -, -, -, hM⟩ := hs8
        exact hD7.out.keepA hb7.out.vl.rep hM
      clear hs8
      dsimp only at hb8'
      replace hb8' := Lib.hid hb8'
      replace hD8 := Lib.hid hD8
      clear hb7 hD7 hAb hb5 hD5 hbB hRN k0 k1 k2 k3 kf kl
      have hRZ := Lib.hid hb8'.out.hR
      have hmw8 := Lib.hid hb8'.out.mod
      have hV8 := hb8'.out.vl
      have hBD : w.heap.size ≤ D := by omega
      have hsa1 : sa = (vAbort st').1 := by rw [hsa.out]
      by_cases her : er = 0
      · subst her
        obtain ⟨n4, n5⟩ := n2.out rfl
        obtain ⟨sd, hsd⟩ : ∃ sd, vNow A.Z ⟨none_, true, []⟩ nd0 bd = (sd, 0) := ⟨(vNow A.Z ⟨none_, true, []⟩ nd0 bd).1, Prod.ext rfl n4⟩
        rw [hsd] at n5
        obtain ⟨ia, n, ic, ea, j, ec, act, xs, es, hact, hst, hbD⟩ := hD8.out.get
        obtain ⟨k0, k1, k2, k3, kf, kl⟩ := hbD.four
        have hRN := rNow_ok (RRep.mk' hst hact) hRZ.out nd0 (hib.out.1.fresh hmw8.out) hb8.out hbs.out (by show 0 ≤ 8000; omega)
        rw [hsd] at hRN
        have hsda : vAbort sd = (sa, 0) := by
          refine Prod.ext (n5.trans hsa1.symm) ?_
          have hact : sd.act = true := by
            have := congrArg (fun q => q.1.act) hsd
            rw [← this]
            show (vNow A.Z ⟨none_, true, []⟩ nd0 bd).1.act = true
            unfold vNow
            split
            · split
              · rfl
              · split <;> rfl
            · rfl
          unfold vAbort
          rw [if_pos hact]
        clear hst hact n4 n5 hsa1
        dsimp only at hRN
        replace hRN := Lib.hid hRN
        replace hbD := Lib.hid hbD
        replace hsd := Lib.hid hsd
        replace hsda := Lib.hid hsda
        replace hV8 := Lib.hid hV8
        go_wp2_with fail
        refine hRN.out.mono ?_
        rintro e w8b ⟨v8, rfl, hr8, hm8⟩
        obtain ⟨ia8, n8, ic8, ea8, j8, ec8, act8, xs8, es8, hact8, rfl, hst8⟩ := hr8.get
        have hbD8 := hbD.out.mod hm8 (fun e => e)
        obtain ⟨k0, k1, k2, k3, kf, kl⟩ := hbD8.four
        have hVa := (hV8.out.fresh hm8).keepB (outW_mod w8b D (.int .i64 R) (.slice ia8 n8 ic8) (.bool act8) (.slice ea8 j8 ec8)) hbD8
        have hDa := RBox.put hst8 hbD8 hact8
        have hma : Mod Nowhere w (outW w8b D (.int .i64 R) (.slice ia8 n8 ic8) (.bool act8) (.slice ea8 j8 ec8)) := (hmw8.out.trans hm8).step (outW_mod _ _ _ _ _ _) fun i hi e => absurd hi (by omega)
        obtain ⟨ja, jn, jc, ka, kn, kc, jact, jxs, jes, hjact, hjst, hjb⟩ := hDa.get
        have hRA := rAbort_ok (RRep.mk' hjst hjact)
        rw [hsda.out] at hRA
        have hbq := hjb.inj (hbD8.outW (.int .i64 R) (.slice ia8 n8 ic8) (.bool act8) (.slice ea8 j8 ec8))
        simp only [List.cons.injEq, Value.slice.injEq, Value.bool.injEq, true_and, and_true] at hbq
        obtain ⟨⟨rfl, rfl, rfl⟩, rfl, rfl, rfl, rfl⟩ := hbq
        clear hr8 hst8 hact8 hm8 hjst hjact hbD8 hDa hmw8
        unfold outW at hRA hVa hma hjb
        dsimp only at hRA
        replace hRA := Lib.hid hRA
        replace hVa := Lib.hid hVa
        replace hma := Lib.hid hma
        replace hjb := Lib.hid hjb
        go_wp2_with fail
        refine hRA.out.mono ?_
        rintro e w9 ⟨v9, rfl, hr9, hm9⟩
        generalize hX : ((((w8b.setCell ⟨D, 0, none⟩ (.int .i64 R)).setCell ⟨D, 1, none⟩ (.slice ja jn jc)).setCell ⟨D, 2, none⟩ (.bool jact)).setCell ⟨D, 3, none⟩ (.slice ka kn kc)) = X at *
        have hmw8 := hma
        obtain ⟨ia9, n9, ic9, ea9, j9, ec9, act9, xs9, es9, hact9, rfl, hst9⟩ := hr9.get
        have hjb9 := hjb.out.mod hm9 (fun e => e)
        obtain ⟨g0, g1, g2, g3, gf, gl⟩ := hjb9.four
        have hV9 := (hVa.out.fresh hm9).keepB (outW_mod w9 D (.int .i64 R) (.slice ia9 n9 ic9) (.bool act9) (.slice ea9 j9 ec9)) hjb9
        have hD9 := RBox.put hst9 hjb9 hact9
        have hm09 : Mod Nowhere w (outW w9 D (.int .i64 R) (.slice ia9 n9 ic9) (.bool act9) (.slice ea9 j9 ec9)) := (hmw8.out.trans hm9).step (outW_mod _ _ _ _ _ _) fun i hi e => absurd hi (by omega)
        obtain ⟨pa, pn, pc, qa, qn, qc, pact, pxs, pes, hpact, hpst, hpb⟩ := hD9.get
        have hAg := agrees_ok hV9.rep (RRep.mk' hpst hpact) hRZ.out hV9.long rfl rfl rfl
        have hbq := hpb.inj (hjb9.outW (.int .i64 R) (.slice ia9 n9 ic9) (.bool act9) (.slice ea9 j9 ec9))
        simp only [List.cons.injEq, Value.slice.injEq, Value.bool.injEq, true_and, and_true] at hbq
        obtain ⟨⟨rfl, rfl, rfl⟩, rfl, rfl, rfl, rfl⟩ := hbq
        clear hr9 hst9 hact9 hV9 hD9 hpact hpst hpb hm9
        unfold outW at hAg hm09
        replace hAg := Lib.hid hAg
        replace hm09 := Lib.hid hm09
        replace hjb9 := Lib.hid hjb9
        go_wp2_with fail
        refine hAg.out.mono ?_
        rintro e w10 ⟨b10, rfl, hb10, hm10⟩
        obtain rfl : b10 = true := by simpa using hb10
        clear hb10
        have hm010 := hm09.out.trans hm10
        clear hm10
        replace hm010 := Lib.hid hm010
        go_wp2_with fail
        refine (hE.out _).mono ?_
        rintro e w11 ⟨rfl, hm11⟩
        have hfin := hbl.out _ (hm010.out.trans hm11)
        replace hfin := Lib.hid hfin
        go_wp2
        go_ret
        exact ⟨rfl, hfin.out⟩
      · have e0 : ((er : Int) == 0) = false := by simp; omega
        have hsda : vAbort ⟨none_, true, []⟩ = (sa, 0) := Prod.ext ((n3.out her).trans hsa1.symm) rfl
        clear hsa1
        replace hV8 := Lib.hid hV8
        replace hsda := Lib.hid hsda
        obtain ⟨ja, jn, jc, ka, kn, kc, jact, jxs, jes, hjact, hjst, hjb⟩ := hD8.out.get
        obtain ⟨g0, g1, g2, g3, gf, gl⟩ := hjb.four
        have hRA := rAbort_ok (RRep.mk' hjst hjact)
        rw [hsda.out] at hRA
        clear hjst hjact
        dsimp only at hRA
        replace hRA := Lib.hid hRA
        replace hjb := Lib.hid hjb
        go_wp2_with fail
        refine (hRA.out).mono ?_
        rintro e w9 ⟨v9, rfl, hr9, hm9⟩
        obtain ⟨ia9, n9, ic9, ea9, j9, ec9, act9, xs9, es9, hact9, rfl, hst9⟩ := hr9.get
        have hjb9 := hjb.out.mod hm9 (fun e => e)
        obtain ⟨g0, g1, g2, g3, gf, gl⟩ := hjb9.four
        have hV9 := (hV8.out.fresh hm9).keepB (outW_mod w9 D (.int .i64 R) (.slice ia9 n9 ic9) (.bool act9) (.slice ea9 j9 ec9)) hjb9
        have hD9 := RBox.put hst9 hjb9 hact9
        have hm09 : Mod Nowhere w (outW w9 D (.int .i64 R) (.slice ia9 n9 ic9) (.bool act9) (.slice ea9 j9 ec9)) := (hmw8.out.trans hm9).step (outW_mod _ _ _ _ _ _) fun i hi e => absurd hi (by omega)
        obtain ⟨pa, pn, pc, qa, qn, qc, pact, pxs, pes, hpact, hpst, hpb⟩ := hD9.get
        have hAg := agrees_ok hV9.rep (RRep.mk' hpst hpact) hRZ.out hV9.long rfl rfl rfl
        have hbq := hpb.inj (hjb9.outW (.int .i64 R) (.slice ia9 n9 ic9) (.bool act9) (.slice ea9 j9 ec9))
        simp only [List.cons.injEq, Value.slice.injEq, Value.bool.injEq, true_and, and_true] at hbq
        obtain ⟨⟨rfl, rfl, rfl⟩, rfl, rfl, rfl, rfl⟩ := hbq
        clear hr9 hst9 hact9 hV9 hD9 hpact hpst hpb hm9
        unfold outW at hAg hm09
        replace hAg := Lib.hid hAg
        replace hm09 := Lib.hid hm09
        replace hjb9 := Lib.hid hjb9
        go_wp2_with fail
        refine hAg.out.mono ?_
        rintro e w10 ⟨b10, rfl, hb10, hm10⟩
        obtain rfl : b10 = true := by simpa using hb10
        clear hb10
        have hm010 := hm09.out.trans hm10
        clear hm10
        replace hm010 := Lib.hid hm010
        go_wp2_with fail
        refine (hE.out _).mono ?_
        rintro e w11 ⟨rfl, hm11⟩
        have hfin := hbl.out _ (hm010.out.trans hm11)
        replace hfin := Lib.hid hfin
        go_wp2
        go_ret
        exact ⟨rfl, hfin.out⟩
end Go.Proofs.YtikkodanpbmmkaaGreat
