/-
  The law VaultModel: the walk.
-/
import Derived.Test.YtikkodanpbmmkaaGreatG28
import Derived.Test.YtikkodanpbmmkaaGreatLa
set_option linter.unusedVariables false
set_option linter.unusedSimpArgs false
namespace Go.Proofs.YtikkodanpbmmkaaGreat
open Go.RowKit
open Jn Vn
attribute [local go_sem] Oper.semAt_some

set_option maxRecDepth 100000 in
set_option maxHeartbeats 16000000 in
theorem lawModel_ok (v : Value) (l : List Vop) (large : Bool) (w : World) (hin : InOps w v l) : Calls Tryz.prog 8 #[v, .bool large] w fun e w' => e = .returned (.bool true) ∧ Below w.heap.size w w' := by
  have hL := light_ok hin
  obtain ⟨a, cap, rfl, h1, h2, h3⟩ := hin
  have hE := fun W => example13_ok W
  have hbl : ∀ W : World, Mod Nowhere w W → Below w.heap.size w W := fun W h => h.below
  have hO := fun W => open_ok W large
  replace hE := Lib.hid hE
  replace hbl := Lib.hid hbl
  replace hO := Lib.hid hO
  replace h3 := Lib.hid h3
  obtain ⟨lt, hlt⟩ : ∃ lt, lightB l = lt := ⟨_, rfl⟩
  rw [hlt] at hL
  replace hL := Lib.hid hL
  cases lt
  · replace hlt := Lib.hid hlt
    go_enter Tryz.func8, Tryz.ntmps8
    go_wp2_with fail
    refine hL.out.mono ?_
    rintro e w1 ⟨rfl, rfl⟩
    go_wp2_with fail
    refine (hE.out _).mono ?_
    rintro e w1 ⟨rfl, hm1⟩
    have hfin := hbl.out _ hm1
    replace hfin := Lib.hid hfin
    clear hm1
    go_wp2
    go_ret
    exact ⟨rfl, hfin.out⟩
  obtain ⟨hl60, hl3⟩ := lightB_ok hlt
  replace hlt := Lib.hid hlt
  replace hl3 := Lib.hid hl3
  go_enter Tryz.func8, Tryz.ntmps8
  go_wp2_with fail
  refine hL.out.mono ?_
  rintro e w1 ⟨rfl, rfl⟩
  go_wp2_with fail
  refine (hO.out _).mono ?_
  rintro e w1 ⟨A, m, rfl, hu, hpd, -, -, hR2, -, hAS, hm1⟩
  have hAn : ∀ k, A.S k → w.heap.size ≤ k := hAS
  obtain ⟨R, hR⟩ : ∃ R, A.Z / 2 = R := ⟨_, rfl⟩
  have hmE : Mod Nowhere w1 (w1.alloc (.cells #[.int .i64 R, .slice none 0 0, .bool false, .slice none 0 0] 54)) := (Mod.refl _ _).alloc _
  have hst : Vl (w1.alloc (.cells #[.int .i64 R, .slice none 0 0, .bool false, .slice none 0 0] 54)) A m (vst0 none_) ((60 - 0) * 1022784) := (hu.fresh hmE).less (by omega)
  have hbx : RBox (w1.alloc (.cells #[.int .i64 R, .slice none 0 0, .bool false, .slice none 0 0] 54)) w1.heap.size R (vst0 none_) := by
    obtain ⟨iv, ev, xs, es, e, hs⟩ := (RRep.first (w := w1.alloc (.cells #[.int .i64 R, .slice none 0 0, .bool false, .slice none 0 0] 54)) (R := R) (by omega)).ex
    simp at e
    obtain ⟨rfl, -, rfl⟩ := e
    exact RBox.of (Blk.new' rfl rfl) hs rfl
  have hm0 := hm1.trans hmE
  have hZ : ((A.Z / 2 : Nat) : Int) = (R : Int) := by rw [hR]
  have hlenB : w1.heap.size < (w1.alloc (.cells #[.int .i64 R, .slice none 0 0, .bool false, .slice none 0 0] 54)).heap.size := by simp
  have hB : w.heap.size ≤ w1.heap.size := hm1.size
  rw [hR]
  replace hR := Lib.hid hR
  replace hAn := Lib.hid hAn
  replace hst := Lib.hid hst
  replace hbx := Lib.hid hbx
  replace hm0 := Lib.hid hm0
  replace hB := Lib.hid hB
  replace hpd := Lib.hid hpd
  clear hu hm1 hmE hAS hlenB hZ
  go_wp2
  generalize hBe : w1.heap.size = B at *
  generalize w1.alloc (.cells #[.int .i64 R, .slice none 0 0, .bool false, .slice none 0 0] 54) = W1 at *
  clear hBe
  go_loopw [9] (fun i wr => ∃ (k : Nat) (mk : Mem) (st : VSt), k ≤ l.length ∧ i = .int .i64 k ∧ Vl wr A mk st ((60 - k) * 1022784) ∧ mk.pending = false ∧ RBox wr B R st ∧ st.l.length ≤ k ∧ Mod Nowhere w wr) (fun i _ => l.length - (RowKit.intOf i).toNat)
  case atStart => exact ⟨0, m, vst0 none_, by omega, rfl, hst.out, hpd.out, hbx.out, Nat.le_refl _, hm0.out⟩
  case round =>
    obtain ⟨k, mk, st, hk, rfl, huk, hpk, hbk, hlk, hmk⟩ := hrel
    by_cases hlt2 : k < l.length
    · obtain ⟨b, off, rfl, hc⟩ := h3.out (by omega)
      have hx : VopIn w b (off + k * 3) l[k] := hc k hlt2
      have hxl : l[k].d.length ≤ 3000 := hl3.out _ (List.getElem_mem hlt2)
      obtain ⟨x, hxe⟩ : ∃ x, l[k] = x := ⟨_, rfl⟩
      rw [hxe] at hx hxl
      obtain ⟨op, nd, dv, d⟩ := x
      dsimp only at hxl
      obtain ⟨da, dc, ed, -⟩ := hx.src
      dsimp only at ed
      subst ed
      have hxs : ∀ W, Mod Nowhere w W → Src W (.slice da d.length dc) d := fun W hm => (hx.fresh hm).src
      have hxc : ∀ W, Mod Nowhere w W → W.cell? ⟨b, off + k * 3, none⟩ = some (.int .i64 op) ∧ W.cell? ⟨b, off + k * 3 + 1, none⟩ = some (.int .i64 nd) ∧ W.cell? ⟨b, off + k * 3 + 2, none⟩ = some (.slice da d.length dc) := fun W hm => ⟨(hx.fresh hm).c0, (hx.fresh hm).c1, (hx.fresh hm).c2⟩
      have hxb : b < w.heap.size := hx.lt
      have hby : Bytes d := hx.bytes
      have hlo : -9223372036854775808 ≤ nd := hx.lo
      have hhi : nd ≤ 9223372036854775807 := hx.hi
      clear hc hx hxe
      obtain ⟨q, hq⟩ : ∃ q, vDo A.Z st op nd d = q := ⟨_, rfl⟩
      have hql : q.1.l.length ≤ k + 1 := by rw [← hq]; exact Nat.le_trans (vDo_len _ _ _ _ _) (by omega)
      have hstl : st.l.length ≤ 8000 := by omega
      have hD := (huk.less (show (60 - (k + 1)) * 1022784 + 1022784 ≤ (60 - k) * 1022784 by omega)).do_ hpk op nd (hxs wr hmk) hby (by omega) hq (by omega)
      have hRk : ∀ W, Mod A.S wr W → RBox W B R st := fun W hm => hbk.keepA huk.rep hm
      obtain ⟨st', er⟩ := q
      dsimp only at hql
      have hbw : b < wr.heap.size := Nat.lt_of_lt_of_le hxb hmk.size
      obtain ⟨c0, c1, c2⟩ := hxc wr hmk
      replace hD := Lib.hid hD
      replace hRk := Lib.hid hRk
      replace hq := Lib.hid hq
      replace hxc := Lib.hid hxc
      replace hxs := Lib.hid hxs
      replace hby := Lib.hid hby
      replace hmk := Lib.hid hmk
      generalize hdl : d.length = dl at *
      replace hdl := Lib.hid hdl
      clear hbk huk
      go_wp2_with fail
      refine hD.out.mono ?_
      rintro e w1 ⟨m1, rfl, hu1, hp1, hM1⟩
      dsimp only at hu1
      have hb1 := hRk.out w1 hM1
      have hm1 := hmk.out.step hM1 fun i hi e => absurd hi (by have := hAn.out i e; omega)
      obtain ⟨ia, ic, ea, ec, xs, es, hbB, hsB⟩ := hb1.ex
      obtain ⟨act, hact⟩ : ∃ act, st.act = act := ⟨_, rfl⟩
      rw [hact] at hbB
      have hkB : ∀ W, Mod Nowhere w1 W → W.cell? ⟨B, 0, none⟩ = some (.int .i64 R) ∧ W.cell? ⟨B, 1, none⟩ = some (.slice ia xs.length ic) ∧ W.cell? ⟨B, 2, none⟩ = some (.bool act) ∧ W.cell? ⟨B, 3, none⟩ = some (.slice ea es.length ec) := fun W hm => by
        have g := hbB.mod hm (fun e => e)
        exact ⟨g.cell 0, g.cell 1, g.cell 2, g.cell 3⟩
      have hkX := fun W (hm : Mod Nowhere w1 W) => hxc.out W (hm1.trans hm)
      have hRD := fun W (hm : Mod Nowhere w1 W) => rDo_ok (RRep.mk' (hsB.fresh hm) hact) hR.out op nd (hxs.out W (hm1.trans hm)) hby.out (by have := hdl.out; omega) hstl
      simp only [hq.out] at hRD
      obtain ⟨k0, k1, k2, k3⟩ := hkB w1 (Mod.refl _ _)
      obtain ⟨k4, k5, k6⟩ := hkX w1 (Mod.refl _ _)
      have kB := hbB.lt
      have kX : b < w1.heap.size := Nat.lt_of_lt_of_le hxb hm1.size
      replace hm1 := Lib.hid hm1
      replace hkB := Lib.hid hkB
      replace hkX := Lib.hid hkX
      replace hRD := Lib.hid hRD
      replace hu1 := Lib.hid hu1
      replace hp1 := Lib.hid hp1
      replace hact := Lib.hid hact
      replace hbB := Lib.hid hbB
      replace hsB := Lib.hid hsB
      replace hM1 := Lib.hid hM1
      clear hb1 hRk c0 c1 c2
      dsimp only
      go_wp2
      go_cut [11, 12] (fun n v wx => ∃ N, n = ptr N ∧ v = Go.Proofs.YtikkodanpbmmkaaGreat.errno er ∧ RBox wx N R st' ∧ Mod Nowhere w1 wx)
      case first =>
        have hMd : Mod Nowhere w1 w1.drew := (Mod.refl Nowhere w1).drew
        have hMa : Mod Nowhere w1 (w1.alloc (.cells #[.int .i64 0, .slice none 0 0, .bool false, .slice none 0 0] 54)).drew := ((Mod.refl Nowhere w1).alloc _).drew
        have hN0 : Blk (w1.alloc (.cells #[.int .i64 0, .slice none 0 0, .bool false, .slice none 0 0] 54)).drew w1.heap.size [.int .i64 0, .slice none 0 0, .bool false, .slice none 0 0] 54 := Blk.drew (Blk.new' rfl rfl)
        have hN2 := fun W (hm : Mod Nowhere (w1.alloc (.cells #[.int .i64 0, .slice none 0 0, .bool false, .slice none 0 0] 54)).drew W) => hN0.mod hm (fun e => e)
        have hD1 := hRD.out _ hMd
        have hD2 := hRD.out _ hMa
        clear hN0
        replace hD1 := Lib.hid hD1
        replace hD2 := Lib.hid hD2
        replace hN2 := Lib.hid hN2
        go_region_held3 (fun w' => w'.cell? ⟨B, 0, none⟩ = some (.int .i64 R) ∧ w'.cell? ⟨B, 1, none⟩ = some (.slice ia xs.length ic) ∧ w'.cell? ⟨B, 2, none⟩ = some (.bool act) ∧ w'.cell? ⟨B, 3, none⟩ = some (.slice ea es.length ec) ∧ w'.cell? ⟨b, off + k * 3, none⟩ = some (.int .i64 op) ∧ w'.cell? ⟨b, off + k * 3 + 1, none⟩ = some (.int .i64 nd) ∧ w'.cell? ⟨b, off + k * 3 + 2, none⟩ = some (.slice da dl dc)) (simp [*, World.cell?_alloc_some, World.cell?_setCell_far, World.cell?_setCell_other])
          (first
            | (go_at_call 39; (with_reducible refine hD1.out.mono ?_); rintro e w5 ⟨v5, rfl, hr5, hm5⟩; obtain ⟨iv5, ev5, ys5, es5, rfl, hs5⟩ := hr5.ex; obtain ⟨a5, c5, rfl, -⟩ := hs5.it.sl.gen; obtain ⟨b5, d5, rfl, -⟩ := hs5.ed.sl.gen; have hmW5 := hMd.trans hm5; obtain ⟨q0, q1, q2, q3⟩ := hkB.out w5 hmW5; obtain ⟨q4, q5, q6⟩ := hkX.out w5 hmW5; have qs := hmW5.size; replace hs5 := Lib.hid hs5; replace hm5 := Lib.hid hm5; replace hmW5 := Lib.hid hmW5; clear hr5)
            | (go_at_call 39; (with_reducible refine hD2.out.mono ?_); rintro e w5 ⟨v5, rfl, hr5, hm5⟩; obtain ⟨iv5, ev5, ys5, es5, rfl, hs5⟩ := hr5.ex; obtain ⟨a5, c5, rfl, -⟩ := hs5.it.sl.gen; obtain ⟨b5, d5, rfl, -⟩ := hs5.ed.sl.gen; have hmW5 := hMa.trans hm5; have hN5 := hN2.out w5 hm5; have kN := hN5.lt; have kf := hN5.frozen; have n0 := hN5.cell 0; have n1 := hN5.cell 1; have n2 := hN5.cell 2; have n3 := hN5.cell 3; simp only [List.getElem?_cons_zero, List.getElem?_cons_succ] at n0 n1 n2 n3; obtain ⟨q0, q1, q2, q3⟩ := hkB.out w5 hmW5; obtain ⟨q4, q5, q6⟩ := hkX.out w5 hmW5; have qs := hmW5.size; replace hs5 := Lib.hid hs5; replace hm5 := Lib.hid hm5; replace hmW5 := Lib.hid hmW5; replace hN5 := Lib.hid hN5; clear hr5)
            | fail)
        · have hf : RBox (w5.alloc (.cells #[.int .i64 R, .slice a5 ys5.length c5, .bool st'.act, .slice b5 es5.length d5] 54)) w5.heap.size R st' := RBox.of (Blk.new' rfl rfl) (hs5.out.fresh ((Mod.refl Nowhere w5).alloc _)) rfl
          have hg := hmW5.out.alloc (.cells #[.int .i64 R, .slice a5 ys5.length c5, .bool st'.act, .slice b5 es5.length d5] 54)
          replace hf := Lib.hid hf
          replace hg := Lib.hid hg
          go_wp2
          go_meet
          case rel => exact ⟨_, rfl, rfl, hf.out, hg.out⟩
        · have hf := RBox.put hs5.out hN5.out rfl
          have hg := hmW5.out.step (outW_mod w5 w1.heap.size (.int .i64 R) (.slice a5 ys5.length c5) (.bool st'.act) (.slice b5 es5.length d5)) fun i hi e => absurd hi (by omega)
          replace hf := Lib.hid hf
          replace hg := Lib.hid hg
          go_wp2
          go_meet
          case rel => exact ⟨_, rfl, rfl, hf.out, hg.out⟩
      case rest =>
        obtain ⟨N, rfl, rfl, hbN, hmc⟩ := hcut
        obtain ⟨ia', ic', ea', ec', xs', es', hbN', hsN⟩ := hbN.ex
        obtain ⟨act', hact'⟩ : ∃ act', st'.act = act' := ⟨_, rfl⟩
        rw [hact'] at hbN'
        have hbBc := hbB.out.mod hmc (fun e => e)
        have hbx2 := RBox.put hsN hbBc hact'
        have hm2 : Mod Nowhere w (outW wc B (.int .i64 R) (.slice ia' xs'.length ic') (.bool act') (.slice ea' es'.length ec')) := (hm1.out.trans hmc).step (outW_mod _ _ _ _ _ _) fun i hi e => by have := hB.out; omega
        have hV2 := (hu1.out.fresh hmc).keepB (outW_mod wc B (.int .i64 R) (.slice ia' xs'.length ic') (.bool act') (.slice ea' es'.length ec')) hbBc
        have n0 := hbN'.cell 0
        have n1 := hbN'.cell 1
        have n2 := hbN'.cell 2
        have n3 := hbN'.cell 3
        have m0 := hbBc.cell 0
        have m1' := hbBc.cell 1
        have m2 := hbBc.cell 2
        have m3 := hbBc.cell 3
        simp only [List.getElem?_cons_zero, List.getElem?_cons_succ] at n0 n1 n2 n3 m0 m1' m2 m3
        have mf := hbBc.frozen
        have ml := hbBc.lt
        have nl := hbN'.lt
        obtain ⟨-, p5, -⟩ := hkX.out wc hmc
        have pb : b < wc.heap.size := Nat.lt_of_lt_of_le kX hmc.size
        have pbB : b ≠ B := by have := hB.out; omega
        have hxW := hxc.out _ hm2
        have hG := vGet_rep hV2.rep hV2.long nd hlo hhi
        have hik := hV2.rep.iok
        have hiF := hik.1.sets _ hik.2.1
        obtain ⟨o, ho⟩ : ∃ o, at_ (sets st'.f st'.l) nd = o := ⟨_, rfl⟩
        rw [ho] at hG
        have hbo : Bytes (o.getD []) ∧ (o.getD []).length ≤ 2048 := by
          cases o with
          | none => exact ⟨fun k => by simp, by simp⟩
          | some d' =>
            unfold at_ at ho
            split at ho
            · exact ⟨iok_bytes hiF ho, (hiF.ok _ _ ho).len⟩
            · cases ho
        clear hbN hbN' hbBc hmc hik hiF
        unfold outW at hbx2 hm2 hV2 hG hxW
        replace hbx2 := Lib.hid hbx2
        replace hm2 := Lib.hid hm2
        replace hV2 := Lib.hid hV2
        replace hact' := Lib.hid hact'
        replace hsN := Lib.hid hsN
        replace hG := Lib.hid hG
        replace hxW := Lib.hid hxW
        replace ho := Lib.hid ho
        replace hbo := Lib.hid hbo
        go_wp2_with fail
        refine hG.out.mono ?_
        rintro e w3 ⟨gv, rfl, hown3, hm3⟩
        generalize hW2 : (((wc.setCell ⟨B, 0, none⟩ (.int .i64 R)).setCell ⟨B, 1, none⟩ (.slice ia' xs'.length ic')).setCell ⟨B, 2, none⟩ (.bool act')).setCell ⟨B, 3, none⟩ (.slice ea' es'.length ec') = W2 at *
        obtain ⟨ga, gc, rfl, -⟩ := owns_form hown3
        have hds : DSl w3 (.slice ga (o.getD []).length gc) (o.getD []) := Sl.of_owns hown3
        have hbx3 := hbx2.out.fresh hm3
        have hV3 := hV2.out.fresh hm3
        have hm03 := hm2.out.trans hm3
        obtain ⟨ja, jc, la, lc, zs, ls, hbJ, hsJ⟩ := hbx3.ex
        rw [hact'.out] at hbJ
        have hjB : ∀ W, Mod Nowhere w3 W → W.cell? ⟨B, 0, none⟩ = some (.int .i64 R) ∧ W.cell? ⟨B, 1, none⟩ = some (.slice ja zs.length jc) ∧ W.cell? ⟨B, 2, none⟩ = some (.bool act') ∧ W.cell? ⟨B, 3, none⟩ = some (.slice la ls.length lc) := fun W hm => by
          have g := hbJ.mod hm (fun e => e)
          exact ⟨g.cell 0, g.cell 1, g.cell 2, g.cell 3⟩
        have hRR := fun W (hm : Mod Nowhere w3 W) => RRep.mk' (hsJ.fresh hm) hact'.out
        have hRG := fun W (hm : Mod Nowhere w3 W) => rGet_ok (hRR W hm) nd
        simp only [ho.out] at hRG
        have cS := fun W (hm : Mod Nowhere w3 W) => vSave_ok (hV3.rep.fresh hm)
        have cT := fun W (hm : Mod Nowhere w3 W) => rSave_ok (hRR W hm)
        have cL := fun W (hm : Mod Nowhere w3 W) => vLeft_ok (hV3.rep.fresh hm) hV3.long
        have cM := fun W (hm : Mod Nowhere w3 W) => rLeft_ok (hRR W hm)
        obtain ⟨nl_, hnl⟩ : ∃ n, st'.l.length = n := ⟨_, rfl⟩
        obtain ⟨nd_, hnd⟩ : ∃ n, Vn.need st'.l = n := ⟨_, rfl⟩
        simp only [hnl] at cS cT
        simp only [hnd] at cL cM
        obtain ⟨g0, g1, g2, g3⟩ := hjB w3 (Mod.refl _ _)
        obtain ⟨-, g5, -⟩ := hxc.out w3 hm03
        have gB := hbJ.lt
        have gb : b < w3.heap.size := Nat.lt_of_lt_of_le hxb hm03.size
        have hg5 := fun W (hm : Mod Nowhere w3 W) => (hxc.out W (hm03.trans hm)).2.1
        obtain ⟨ol, hol⟩ : ∃ n, (o.getD []).length = n := ⟨_, rfl⟩
        rw [hol] at hds
        have hRG0 := hRG _ ((Mod.refl Nowhere w3).drew)
        rw [hol]
        replace hds := Lib.hid hds
        replace hbx3 := Lib.hid hbx3
        replace hV3 := Lib.hid hV3
        replace hm03 := Lib.hid hm03
        replace hjB := Lib.hid hjB
        replace hRR := Lib.hid hRR
        replace cS := Lib.hid cS
        replace cT := Lib.hid cT
        replace cL := Lib.hid cL
        replace cM := Lib.hid cM
        replace hRG0 := Lib.hid hRG0
        replace hg5 := Lib.hid hg5
        replace hbJ := Lib.hid hbJ
        replace hsJ := Lib.hid hsJ
        replace hnl := Lib.hid hnl
        replace hnd := Lib.hid hnd
        replace hol := Lib.hid hol
        clear hm3 hown3 hRG n0 n1 n2 n3 m0 m1' m2 m3 mf ml nl pb p5 hW2 hbx2 hV2 hm2 hG hxW hRD hkX hkB hbB
        go_wp2
        go_region_held3 (fun w' => w'.cell? ⟨B, 0, none⟩ = some (.int .i64 R) ∧ w'.cell? ⟨B, 1, none⟩ = some (.slice ja zs.length jc) ∧ w'.cell? ⟨B, 2, none⟩ = some (.bool act') ∧ w'.cell? ⟨B, 3, none⟩ = some (.slice la ls.length lc) ∧ w'.cell? ⟨b, off + k * 3 + 1, none⟩ = some (.int .i64 nd)) (simp [*, World.cell?_alloc_some, World.cell?_setCell_far, World.cell?_setCell_other])
          (first
            | (go_at_call 41; (with_reducible refine hRG0.out.mono ?_); rintro e w4 ⟨rv, rfl, hrd, hm4'⟩; have hm4 := ((Mod.refl Nowhere w3).drew).trans hm4'; obtain ⟨ra, rc, rfl, -⟩ := Sl.len hrd; obtain ⟨q0, q1, q2, q3⟩ := hjB.out w4 hm4; have q5 := hg5.out w4 hm4; replace hrd := Lib.hid hrd; replace hm4 := Lib.hid hm4; clear hm4')
            | fail)
        have hsm := rSame_ok (DSl.src (hds.out.fresh hm4.out.drew)) (DSl.src (hrd.out.fresh ((Mod.refl Nowhere w4).drew))) hbo.out.1 hbo.out.1 (by have := hbo.out.2; omega) (by have := hbo.out.2; omega)
        rw [hol.out, show decide (o.getD [] = o.getD []) = true by simp] at hsm
        rw [hol.out]
        have hsm2 := Lib.hid hsm
        clear hsm g0 g1 g2 g3 g5
        go_wp2
        go_region_held3 (fun w' => w'.cell? ⟨B, 0, none⟩ = some (.int .i64 R) ∧ w'.cell? ⟨B, 1, none⟩ = some (.slice ja zs.length jc) ∧ w'.cell? ⟨B, 2, none⟩ = some (.bool act') ∧ w'.cell? ⟨B, 3, none⟩ = some (.slice la ls.length lc)) (simp [*, World.cell?_alloc_some, World.cell?_setCell_far, World.cell?_setCell_other])
          (first
            | (go_at_call 42; (with_reducible refine hsm2.out.mono ?_); rintro e w5 ⟨rfl, hm5'⟩; have hm5 := hm4.out.drew.trans hm5'; obtain ⟨p50, p51, p52, p53⟩ := hjB.out w5 hm5; replace hm5 := Lib.hid hm5; clear hm5')
            | (go_at_call 43; (with_reducible refine (cS.out _ hm5.out).mono ?_); rintro e w6 ⟨rfl, hm6'⟩; have hm6 := hm5.out.trans hm6'; obtain ⟨p60, p61, p62, p63⟩ := hjB.out w6 hm6; replace hm6 := Lib.hid hm6; clear hm6')
            | (go_at_call 44; (with_reducible refine (cT.out _ hm6.out).mono ?_); rintro e w7 ⟨rfl, hm7'⟩; have hm7 := hm6.out.trans hm7'; obtain ⟨p70, p71, p72, p73⟩ := hjB.out w7 hm7; replace hm7 := Lib.hid hm7; clear hm7')
            | (go_at_call 45; (with_reducible refine (cL.out _ hm7.out).mono ?_); rintro e w8 ⟨rfl, hm8'⟩; have hm8 := hm7.out.trans hm8'; obtain ⟨p80, p81, p82, p83⟩ := hjB.out w8 hm8; replace hm8 := Lib.hid hm8; clear hm8')
            | (go_at_call 46; (with_reducible refine (cM.out _ hm8.out).mono ?_); rintro e w9 ⟨rfl, hm9'⟩; have hm9 := hm8.out.trans hm9'; obtain ⟨p90, p91, p92, p93⟩ := hjB.out w9 hm9; replace hm9 := Lib.hid hm9; clear hm9')
            | fail)
        have hfin : ∃ (k' : Nat) (mk : Mem) (st : VSt), k' ≤ l.length ∧ Value.int .i64 ((k : Int) + 1) = .int .i64 k' ∧ Vl w9 A mk st ((60 - k') * 1022784) ∧ mk.pending = false ∧ RBox w9 B R st ∧ st.l.length ≤ k' ∧ Mod Nowhere w w9 :=
          ⟨k + 1, m1, st', by omega, by go_num, hV3.out.fresh hm9.out, hp1.out, hbx3.out.fresh hm9.out, hql, hm03.out.trans hm9.out⟩
        replace hfin := Lib.hid hfin
        go_wp2
        go_roundw
        case rel => exact hfin.out
        case measure => simp [RowKit.intOf]; omega
    · obtain rfl : k = l.length := by omega
      obtain ⟨ia, ic, ea, ec, xs, es, hb, hs⟩ := hbk.ex
      have c0 := hb.cell 0
      have c1 := hb.cell 1
      have c2 := hb.cell 2
      have c3 := hb.cell 3
      have kl := hb.lt
      simp only [List.getElem?_cons_zero, List.getElem?_cons_succ] at c0 c1 c2 c3
      have hAg := agrees_ok huk.rep (RBox.rep hs) hR.out huk.long rfl rfl rfl
      obtain ⟨act, hact⟩ : ∃ act, st.act = act := ⟨_, rfl⟩
      rw [hact] at hAg c2
      replace hAg := Lib.hid hAg
      replace hmk := Lib.hid hmk
      replace hact := Lib.hid hact
      clear hb hs huk hpk hbk hlk
      go_wp2_with fail
      refine hAg.out.mono ?_
      rintro e w5 ⟨b, rfl, hb, hm5⟩
      obtain rfl : b = true := by simpa using hb
      have hm05 := hmk.out.trans hm5
      replace hm05 := Lib.hid hm05
      clear hm5 hb
      go_wp2_with fail
      refine (hE.out _).mono ?_
      rintro e w6 ⟨rfl, hm6⟩
      have hfin := hbl.out _ (hm05.out.trans hm6)
      replace hfin := Lib.hid hfin
      clear hm6
      go_wp2
      go_ret
      exact ⟨rfl, hfin.out⟩
end Go.Proofs.YtikkodanpbmmkaaGreat
