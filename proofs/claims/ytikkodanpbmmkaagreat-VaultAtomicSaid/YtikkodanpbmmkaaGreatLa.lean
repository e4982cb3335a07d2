/-
  The laws of chapter 13: does a vault show what the reference shows?
-/
import Derived.Test.YtikkodanpbmmkaaGreatG28
import Derived.Test.YtikkodanpbmmkaaGreatRgf
set_option linter.unusedVariables false
set_option linter.unusedSimpArgs false
namespace Go.Proofs.YtikkodanpbmmkaaGreat
open Go.RowKit
open Jn Vn
attribute [local go_sem] Oper.semAt_some

theorem mapInt_inj (a b : List Nat) : ((a.map fun k : Nat => (k : Int)) = b.map fun k : Nat => (k : Int)) ↔ a = b := by
  constructor
  · intro h
    have := congrArg (List.map Int.toNat) h
    simpa [List.map_map, Function.comp_def] using this
  · intro h; rw [h]
theorem iok_bytes {f : Items} (h : IOk f) {k : Nat} {d : List Nat} (e : f k = some d) : Bytes d := (h.ok k d e).bytes
set_option maxRecDepth 100000 in
set_option maxHeartbeats 8000000 in
theorem agrees_core {w : World} {A : VAt} {m : Mem} {s s' : VSt} {v : Value} {R : Nat} (h : VRep w A m s) (hr : RRep w v R s') (hR : A.Z / 2 = R) (hxn : s.l.length ≤ 1000000) (ha : s'.act = s.act) (hl : s'.l = s.l) (hd0 : dom (sets s.f s.l) = dom (sets s'.f s.l)) (hw0 : wt s.f = wt s'.f) :
    Calls Tryz.prog 47 #[ptr A.vb, v] w fun e w' => ∃ b, e = .returned (.bool b) ∧ (s'.f = s.f → b = true) ∧ Mod Nowhere w w' := by
  replace hd0 := Lib.hid hd0
  replace hw0 := Lib.hid hw0
  have hr0 := hr
  obtain ⟨iv, ev, xs, es, rfl, hs⟩ := hr.ex
  obtain ⟨ia, ic, rfl, -⟩ := hs.it.sl.gen
  obtain ⟨ea, ec, rfl, -⟩ := hs.ed.sl.gen
  rw [ha] at hr0 ⊢
  obtain ⟨act, hact⟩ : ∃ act, s.act = act := ⟨_, rfl⟩
  rw [hact] at hr0 ⊢
  obtain ⟨W0, hW0⟩ : ∃ W0, w.alloc (.cells #[.int .i64 R, .slice ia xs.length ic, .bool act, .slice ea es.length ec] 54) = W0 := ⟨_, rfl⟩
  have hm0 : Mod Nowhere w W0 := by rw [← hW0]; exact (Mod.refl _ w).alloc _
  have hb0 : Blk W0 w.heap.size [.int .i64 R, .slice ia xs.length ic, .bool act, .slice ea es.length ec] 54 := by rw [← hW0]; exact Blk.new' rfl rfl
  have hV := fun W (hm : Mod Nowhere W0 W) => (h.fresh hm0).fresh hm
  have hq := fun W (hm : Mod Nowhere W0 W) => (hr0.fresh hm0).fresh hm
  have hcl : ∀ W, Mod Nowhere W0 W → W.cell? ⟨w.heap.size, 0, none⟩ = some (.int .i64 R) ∧ W.cell? ⟨w.heap.size, 1, none⟩ = some (.slice ia xs.length ic) ∧ W.cell? ⟨w.heap.size, 2, none⟩ = some (.bool act) ∧ W.cell? ⟨w.heap.size, 3, none⟩ = some (.slice ea es.length ec) := fun W hm => by
    have g := hb0.mod hm (fun e => e)
    exact ⟨g.cell 0, g.cell 1, g.cell 2, g.cell 3⟩
  have c1 := fun W hm => vIDs_ok (hV W hm) hxn
  have c2 := fun W hm => rIDs_ok (hq W hm)
  have c4 := fun W hm => vUsed_ok (hV W hm)
  have c5 := fun W hm => rUsed_ok (hq W hm)
  have c6 := fun W hm => vLeft_ok (hV W hm) hxn
  have c7 := fun W hm => rLeft_ok (hq W hm)
  have c8 := fun W hm => vSave_ok (hV W hm)
  have c9 := fun W hm => rSave_ok (hq W hm)
  have c10 := fun W hm => vActive_rep (hV W hm)
  have c11 := fun W hm => vRoomP_ok (hV W hm)
  have c12 := fun W hm => vAlive_rep (hV W hm)
  have c13 := fun W hm => rView_ok (hq W hm)
  have c14 := fun W hm nd h1 h2 => vGet_rep (hV W hm) hxn nd h1 h2
  have hik := h.iok
  have hiF : IOk (sets s.f s.l) := hik.1.sets _ hik.2.1
  have hiG : IOk (sets s'.f s.l) := by rw [← hl]; exact hs.iok.sets _ hs.ok
  have hFG : s'.f = s.f → sets s'.f s.l = sets s.f s.l := fun e => by rw [e]
  have hwf : s'.f = s.f → wt s'.f = wt s.f := fun e => by rw [e]
  simp only [hl] at c2 c7 c9 c13
  simp only [hact] at c10
  simp only [hR] at c11
  obtain ⟨F, hF⟩ : ∃ F, sets s.f s.l = F := ⟨_, rfl⟩
  obtain ⟨G, hG⟩ : ∃ G, sets s'.f s.l = G := ⟨_, rfl⟩
  simp only [hF] at c1 c14 hiF hFG
  simp only [hG] at c2 c13 hiG hFG
  obtain ⟨nd_, hnd⟩ : ∃ n, Vn.need s.l = n := ⟨_, rfl⟩
  obtain ⟨ll, hll⟩ : ∃ n, s.l.length = n := ⟨_, rfl⟩
  obtain ⟨wf, hwfe⟩ : ∃ n, wt s.f = n := ⟨_, rfl⟩
  obtain ⟨wg, hwge⟩ : ∃ n, wt s'.f = n := ⟨_, rfl⟩
  simp only [hnd] at c6 c7
  simp only [hll] at c8 c9
  simp only [hwfe] at c4 hwf
  simp only [hwge] at c5 hwf
  have kl := hb0.lt
  have kz := hb0.frozen
  obtain ⟨k0, k1, k2, k3⟩ := hcl W0 (Mod.refl _ _)
  have hdl : ∀ f : Items, (dom f).length ≤ 4097 := dom_len
  replace hm0 := Lib.hid hm0
  replace hb0 := Lib.hid hb0
  replace hcl := Lib.hid hcl
  replace c1 := Lib.hid c1
  replace c2 := Lib.hid c2
  replace c4 := Lib.hid c4
  replace c5 := Lib.hid c5
  replace c6 := Lib.hid c6
  replace c7 := Lib.hid c7
  replace c8 := Lib.hid c8
  replace c9 := Lib.hid c9
  replace c10 := Lib.hid c10
  replace c11 := Lib.hid c11
  replace c12 := Lib.hid c12
  replace c13 := Lib.hid c13
  replace c14 := Lib.hid c14
  replace hiF := Lib.hid hiF
  replace hiG := Lib.hid hiG
  replace hFG := Lib.hid hFG
  replace hwf := Lib.hid hwf
  replace hF := Lib.hid hF
  replace hG := Lib.hid hG
  replace hnd := Lib.hid hnd
  replace hll := Lib.hid hll
  replace hwfe := Lib.hid hwfe
  replace hwge := Lib.hid hwge
  replace hact := Lib.hid hact
  replace ha := Lib.hid ha
  replace hl := Lib.hid hl
  replace hR := Lib.hid hR
  replace hdl := Lib.hid hdl
  clear h hr hr0 hs hV hq hik hxn
  have fin : ∀ W b, Mod Nowhere W0 W → (s'.f = s.f → b = true) → ∃ b', Ending.returned (.bool b) = .returned (.bool b') ∧ (s'.f = s.f → b' = true) ∧ Mod Nowhere w W := fun W b hm hb => ⟨b, rfl, hb, hm0.out.trans hm⟩
  replace fin := Lib.hid fin
  have hd : dom F = dom G := by rw [← hF.out, ← hG.out]; exact hd0.out
  have hw : wf = wg := by rw [← hwfe.out, ← hwge.out]; exact hw0.out
  subst hw
  have hI3 : decide (((dom F).map fun k : Nat => (k : Int)) = (dom G).map fun k : Nat => (k : Int)) = true := by simp only [decide_eq_true_eq, mapInt_inj]; exact hd
  replace hd := Lib.hid hd
  replace hI3 := Lib.hid hI3
  go_enter Tryz.func47, Tryz.ntmps47
  go_wp2_with fail
  replace hW0 := Lib.hid hW0
  go_region_held3 (fun w' => w'.cell? ⟨w.heap.size, 0, none⟩ = some (.int .i64 R) ∧ w'.cell? ⟨w.heap.size, 1, none⟩ = some (.slice ia xs.length ic) ∧ w'.cell? ⟨w.heap.size, 2, none⟩ = some (.bool act) ∧ w'.cell? ⟨w.heap.size, 3, none⟩ = some (.slice ea es.length ec)) (simp [*, World.cell?_alloc_some, World.cell?_setCell_far, World.cell?_setCell_other])
    (first
      | (go_at_call 59; (with_reducible refine (c1.out _ ((Mod.refl Nowhere W0).drew)).mono ?_); rintro e w1 ⟨u1, rfl, ho1, hm1'⟩; have hm1 := (((Mod.refl Nowhere W0).drew)).trans hm1'; obtain ⟨ua1, uc1, rfl, -⟩ := owns_form ho1; have hr1 := inRow_owns ho1 rfl; replace hr1 := Lib.hid hr1; clear ho1; obtain ⟨p01, p11, p21, p31⟩ := hcl.out w1 hm1; replace hm1 := Lib.hid hm1; clear hm1')
      | (go_at_call 94; (with_reducible refine (c2.out _ hm1.out).mono ?_); rintro e w2 ⟨u2, rfl, hr2, hm2'⟩; have hm2 := (hm1.out).trans hm2'; obtain ⟨ua2, uc2, rfl, -⟩ := id hr2; have h3 := rInts_ok (hr1.out.fresh hm2') hr2 (by rw [List.length_map]; have := hdl.out F; omega) (by rw [List.length_map]; have := hdl.out G; omega); rw [hI3.out] at h3; simp only [List.length_map] at h3; replace h3 := Lib.hid h3; clear hr2; obtain ⟨p02, p12, p22, p32⟩ := hcl.out w2 hm2; replace hm2 := Lib.hid hm2; clear hm2')
      | (go_at_call 79; (with_reducible refine h3.out.mono ?_); rintro e w3 ⟨rfl, hm3'⟩; have hm3 := hm2.out.trans hm3'; obtain ⟨p03, p13, p23, p33⟩ := hcl.out w3 hm3; replace hm3 := Lib.hid hm3; clear hm3')
      | (go_at_call 57; (with_reducible refine (c4.out _ hm3.out).mono ?_); rintro e w4 ⟨rfl, hm4'⟩; have hm4 := (hm3.out).trans hm4'; obtain ⟨p04, p14, p24, p34⟩ := hcl.out w4 hm4; replace hm4 := Lib.hid hm4; clear hm4')
      | (go_at_call 95; (with_reducible refine (c5.out _ hm4.out).mono ?_); rintro e w5 ⟨rfl, hm5'⟩; have hm5 := (hm4.out).trans hm5'; obtain ⟨p05, p15, p25, p35⟩ := hcl.out w5 hm5; replace hm5 := Lib.hid hm5; clear hm5')
      | (go_at_call 45; (with_reducible refine (c6.out _ hm5.out).mono ?_); rintro e w6 ⟨rfl, hm6'⟩; have hm6 := (hm5.out).trans hm6'; obtain ⟨p06, p16, p26, p36⟩ := hcl.out w6 hm6; replace hm6 := Lib.hid hm6; clear hm6')
      | (go_at_call 46; (with_reducible refine (c7.out _ hm6.out).mono ?_); rintro e w7 ⟨rfl, hm7'⟩; have hm7 := (hm6.out).trans hm7'; obtain ⟨p07, p17, p27, p37⟩ := hcl.out w7 hm7; replace hm7 := Lib.hid hm7; clear hm7')
      | (go_at_call 43; (with_reducible refine (c8.out _ hm7.out).mono ?_); rintro e w8 ⟨rfl, hm8'⟩; have hm8 := (hm7.out).trans hm8'; obtain ⟨p08, p18, p28, p38⟩ := hcl.out w8 hm8; replace hm8 := Lib.hid hm8; clear hm8')
      | (go_at_call 44; (with_reducible refine (c9.out _ hm8.out).mono ?_); rintro e w9 ⟨rfl, hm9'⟩; have hm9 := (hm8.out).trans hm9'; obtain ⟨p09, p19, p29, p39⟩ := hcl.out w9 hm9; replace hm9 := Lib.hid hm9; clear hm9')
      | (go_at_call 55; (with_reducible refine (c10.out _ hm9.out).mono ?_); rintro e w10 ⟨rfl, hm10'⟩; have hm10 := (hm9.out).trans hm10'; obtain ⟨p010, p110, p210, p310⟩ := hcl.out w10 hm10; replace hm10 := Lib.hid hm10; clear hm10')
      | (go_at_call 58; (with_reducible refine (c11.out _ hm10.out).mono ?_); rintro e w11 ⟨rfl, hm11'⟩; have hm11 := (hm10.out).trans hm11'; obtain ⟨p011, p111, p211, p311⟩ := hcl.out w11 hm11; replace hm11 := Lib.hid hm11; clear hm11')
      | (go_at_call 56; (with_reducible refine (c12.out _ hm11.out).mono ?_); rintro e w12 ⟨rfl, hm12'⟩; have hm12 := (hm11.out).trans hm12'; obtain ⟨p012, p112, p212, p312⟩ := hcl.out w12 hm12; replace hm12 := Lib.hid hm12; clear hm12')
      | fail)
  go_wp2_with fail
  have hc13 := c13.out w12 hm12.out
  replace hc13 := Lib.hid hc13
  refine hc13.out.mono ?_
  rintro e w13 ⟨v13, ys, rfl, hi13, hy13, hm13'⟩
  obtain ⟨ya, yc, rfl, -⟩ := hi13.sl.gen
  have hm13 := hm12.out.trans hm13'
  have hyn : ys.length ≤ 4097 := by rw [← its_len, hy13]; exact itemsOf_len G
  have hfin := fun W (hm : Mod Nowhere w13 W) b hb => fin.out W b (hm13.trans hm) hb
  have hgt := fun W (hm : Mod Nowhere w13 W) => c14.out W (hm13.trans hm)
  replace hfin := Lib.hid hfin
  replace hgt := Lib.hid hgt
  replace hi13 := Lib.hid hi13
  replace hy13 := Lib.hid hy13
  clear hm13' hm13 hc13
  go_wp2
  go_loopw [6] (fun i wr => ∃ k : Nat, k ≤ ys.length ∧ i = .int .i64 k ∧ Mod Nowhere w13 wr) (fun i _ => ys.length - (RowKit.intOf i).toNat)
  case atStart => exact ⟨0, by omega, rfl, Mod.refl _ _⟩
  case round =>
    obtain ⟨k, hk, rfl, hmk⟩ := hrel
    by_cases hlt : k < ys.length
    · obtain ⟨b, off, cap', xa, xc, e0, hbl, _, _, y1, y2, y3⟩ := (hi13.out.fresh hmk).at_ hlt
      obtain ⟨rfl, rfl⟩ : ya = some ⟨b, off, none⟩ ∧ yc = cap' := by
        simp at e0; exact ⟨e0.1, e0.2⟩
      have hlk : k < (its ys).length := by rw [its_len]; exact hlt
      have hmem : ys[k].2 ∈ itemsOf G := by
        rw [← hy13.out]
        have : (its ys)[k] = ys[k].2 := by simp [its]
        rw [← this]; exact List.getElem_mem hlk
      obtain ⟨hx4, hGx⟩ := mem_itemsOf.1 hmem
      have hds : ∀ W, Mod Nowhere wr W → Src W ys[k].1 ys[k].2.2 := fun W hm => (((hi13.out.fresh hmk).fresh hm).data _ (List.getElem_mem hlt)).src
      have hcy : ∀ W, Mod Nowhere wr W → W.cell? ⟨b, off + k * 2 + 1, none⟩ = some ys[k].1 := fun W hm => (hm.cell (p := ⟨b, off + k * 2 + 1, none⟩) hbl (fun e => e)).trans y2
      have hby := iok_bytes hiG.out hGx
      have hly : ys[k].2.2.length ≤ 1099511627776 := by have := (hiG.out.ok _ _ hGx).len; have : ((some ys[k].2.2).getD []).length ≤ 2048 := this; simp at this; omega
      have hg := hgt.out wr hmk (ys[k].2.1 : Nat) (by omega) (by omega)
      have hat : at_ F ((ys[k].2.1 : Nat) : Int) = F ys[k].2.1 := by unfold at_; rw [if_pos (by omega)]; rfl
      rw [hat] at hg
      rw [y3] at y2 hds hcy
      generalize ys[k].2.1 = xid at *
      generalize ys[k].2.2 = xd at *
      replace hds := Lib.hid hds
      replace hcy := Lib.hid hcy
      replace hby := Lib.hid hby
      replace hGx := Lib.hid hGx
      replace hmem := Lib.hid hmem
      replace y3 := Lib.hid y3
      replace hg := Lib.hid hg
      replace hat := Lib.hid hat
      obtain ⟨o, ho⟩ : ∃ o, F xid = o := ⟨_, rfl⟩
      rw [ho] at hg
      cases o with
      | none =>
        have hno : ¬ s'.f = s.f := fun e => by rw [← hFG.out e, hGx.out] at ho; cases ho
        replace ho := Lib.hid ho
        replace hno := Lib.hid hno
        generalize xd.length = xl at *
        go_wp2_with fail
        refine hg.out.mono ?_
        rintro e w15 ⟨gv, rfl, hown, hm15⟩
        obtain ⟨ga, gc, rfl, -⟩ := owns_form hown
        have hend := hfin.out w15 (hmk.trans hm15) false (fun e => absurd e hno.out)
        replace hend := Lib.hid hend
        clear hown hm15
        go_wp2
        go_ret
        exact hend.out
      | some d =>
        have hbd := iok_bytes hiF.out ho
        have hld : d.length ≤ 1099511627776 := by have := (hiF.out.ok _ _ ho).len; have : ((some d).getD []).length ≤ 2048 := this; simp at this; omega
        have hsame : s'.f = s.f → d = xd := fun e => by
          have := hGx.out
          rw [hFG.out e, ho] at this
          exact Option.some.inj this
        replace ho := Lib.hid ho
        replace hbd := Lib.hid hbd
        replace hsame := Lib.hid hsame
        go_wp2_with fail
        refine hg.out.mono ?_
        rintro e w15 ⟨gv, rfl, hown, hm15⟩
        rw [show (some d).getD [] = d from rfl] at hown
        obtain ⟨ga, gc, rfl, -⟩ := owns_form hown
        have hS := rSame_ok (DSl.src (show DSl w15 (.slice ga d.length gc) d from Sl.of_owns hown)) (hds.out w15 hm15) hbd.out hby.out hld hly
        have hm05 := hmk.trans hm15
        have hc15 := hcy.out w15 hm15
        have hb15 : b < w15.heap.size := Nat.lt_of_lt_of_le hbl hm15.size
        replace hS := Lib.hid hS
        replace hm05 := Lib.hid hm05
        clear hown hm15 y1 y2
        by_cases hdx : d = xd
        · rw [show decide (d = xd) = true by simpa using hdx] at hS
          replace hdx := Lib.hid hdx
          generalize d.length = dl at *
          generalize xd.length = xl at *
          go_wp2_with fail
          refine hS.out.mono ?_
          rintro e w16 ⟨rfl, hm16⟩
          have hm06 := hm05.out.trans hm16
          replace hm06 := Lib.hid hm06
          clear hm16
          go_wp2
          go_roundw
          case rel => exact ⟨k + 1, by omega, by go_num, hm06.out⟩
          case measure => simp [RowKit.intOf]; omega
        · rw [show decide (d = xd) = false by simpa using hdx] at hS
          have hno : ¬ s'.f = s.f := fun e => hdx (hsame.out e)
          replace hno := Lib.hid hno
          replace hdx := Lib.hid hdx
          generalize d.length = dl at *
          generalize xd.length = xl at *
          go_wp2_with fail
          refine hS.out.mono ?_
          rintro e w16 ⟨rfl, hm16⟩
          have hend := hfin.out w16 (hm05.out.trans hm16) false (fun e => absurd e hno.out)
          replace hend := Lib.hid hend
          clear hm16
          go_wp2
          go_ret
          exact hend.out
    · obtain rfl : k = ys.length := by omega
      have hend := hfin.out wr hmk true (fun _ => rfl)
      replace hend := Lib.hid hend
      go_wp2
      go_ret
      exact hend.out
set_option maxRecDepth 100000 in
set_option maxHeartbeats 8000000 in
theorem agrees_ids {w : World} {A : VAt} {m : Mem} {s s' : VSt} {v : Value} {R : Nat} (h : VRep w A m s) (hr : RRep w v R s') (hR : A.Z / 2 = R) (hxn : s.l.length ≤ 1000000) (ha : s'.act = s.act) (hl : s'.l = s.l) (hd0 : ¬ dom (sets s.f s.l) = dom (sets s'.f s.l)) :
    Calls Tryz.prog 47 #[ptr A.vb, v] w fun e w' => ∃ b, e = .returned (.bool b) ∧ (s'.f = s.f → b = true) ∧ Mod Nowhere w w' := by
  replace hd0 := Lib.hid hd0
  have hr0 := hr
  obtain ⟨iv, ev, xs, es, rfl, hs⟩ := hr.ex
  obtain ⟨ia, ic, rfl, -⟩ := hs.it.sl.gen
  obtain ⟨ea, ec, rfl, -⟩ := hs.ed.sl.gen
  rw [ha] at hr0 ⊢
  obtain ⟨act, hact⟩ : ∃ act, s.act = act := ⟨_, rfl⟩
  rw [hact] at hr0 ⊢
  obtain ⟨W0, hW0⟩ : ∃ W0, w.alloc (.cells #[.int .i64 R, .slice ia xs.length ic, .bool act, .slice ea es.length ec] 54) = W0 := ⟨_, rfl⟩
  have hm0 : Mod Nowhere w W0 := by rw [← hW0]; exact (Mod.refl _ w).alloc _
  have hb0 : Blk W0 w.heap.size [.int .i64 R, .slice ia xs.length ic, .bool act, .slice ea es.length ec] 54 := by rw [← hW0]; exact Blk.new' rfl rfl
  have hV := fun W (hm : Mod Nowhere W0 W) => (h.fresh hm0).fresh hm
  have hq := fun W (hm : Mod Nowhere W0 W) => (hr0.fresh hm0).fresh hm
  have hcl : ∀ W, Mod Nowhere W0 W → W.cell? ⟨w.heap.size, 0, none⟩ = some (.int .i64 R) ∧ W.cell? ⟨w.heap.size, 1, none⟩ = some (.slice ia xs.length ic) ∧ W.cell? ⟨w.heap.size, 2, none⟩ = some (.bool act) ∧ W.cell? ⟨w.heap.size, 3, none⟩ = some (.slice ea es.length ec) := fun W hm => by
    have g := hb0.mod hm (fun e => e)
    exact ⟨g.cell 0, g.cell 1, g.cell 2, g.cell 3⟩
  have c1 := fun W hm => vIDs_ok (hV W hm) hxn
  have c2 := fun W hm => rIDs_ok (hq W hm)
  have c4 := fun W hm => vUsed_ok (hV W hm)
  have c5 := fun W hm => rUsed_ok (hq W hm)
  have c6 := fun W hm => vLeft_ok (hV W hm) hxn
  have c7 := fun W hm => rLeft_ok (hq W hm)
  have c8 := fun W hm => vSave_ok (hV W hm)
  have c9 := fun W hm => rSave_ok (hq W hm)
  have c10 := fun W hm => vActive_rep (hV W hm)
  have c11 := fun W hm => vRoomP_ok (hV W hm)
  have c12 := fun W hm => vAlive_rep (hV W hm)
  have c13 := fun W hm => rView_ok (hq W hm)
  have c14 := fun W hm nd h1 h2 => vGet_rep (hV W hm) hxn nd h1 h2
  have hik := h.iok
  have hiF : IOk (sets s.f s.l) := hik.1.sets _ hik.2.1
  have hiG : IOk (sets s'.f s.l) := by rw [← hl]; exact hs.iok.sets _ hs.ok
  have hFG : s'.f = s.f → sets s'.f s.l = sets s.f s.l := fun e => by rw [e]
  have hwf : s'.f = s.f → wt s'.f = wt s.f := fun e => by rw [e]
  simp only [hl] at c2 c7 c9 c13
  simp only [hact] at c10
  simp only [hR] at c11
  obtain ⟨F, hF⟩ : ∃ F, sets s.f s.l = F := ⟨_, rfl⟩
  obtain ⟨G, hG⟩ : ∃ G, sets s'.f s.l = G := ⟨_, rfl⟩
  simp only [hF] at c1 c14 hiF hFG
  simp only [hG] at c2 c13 hiG hFG
  obtain ⟨nd_, hnd⟩ : ∃ n, Vn.need s.l = n := ⟨_, rfl⟩
  obtain ⟨ll, hll⟩ : ∃ n, s.l.length = n := ⟨_, rfl⟩
  obtain ⟨wf, hwfe⟩ : ∃ n, wt s.f = n := ⟨_, rfl⟩
  obtain ⟨wg, hwge⟩ : ∃ n, wt s'.f = n := ⟨_, rfl⟩
  simp only [hnd] at c6 c7
  simp only [hll] at c8 c9
  simp only [hwfe] at c4 hwf
  simp only [hwge] at c5 hwf
  have kl := hb0.lt
  have kz := hb0.frozen
  obtain ⟨k0, k1, k2, k3⟩ := hcl W0 (Mod.refl _ _)
  have hdl : ∀ f : Items, (dom f).length ≤ 4097 := dom_len
  replace hm0 := Lib.hid hm0
  replace hb0 := Lib.hid hb0
  replace hcl := Lib.hid hcl
  replace c1 := Lib.hid c1
  replace c2 := Lib.hid c2
  replace c4 := Lib.hid c4
  replace c5 := Lib.hid c5
  replace c6 := Lib.hid c6
  replace c7 := Lib.hid c7
  replace c8 := Lib.hid c8
  replace c9 := Lib.hid c9
  replace c10 := Lib.hid c10
  replace c11 := Lib.hid c11
  replace c12 := Lib.hid c12
  replace c13 := Lib.hid c13
  replace c14 := Lib.hid c14
  replace hiF := Lib.hid hiF
  replace hiG := Lib.hid hiG
  replace hFG := Lib.hid hFG
  replace hwf := Lib.hid hwf
  replace hF := Lib.hid hF
  replace hG := Lib.hid hG
  replace hnd := Lib.hid hnd
  replace hll := Lib.hid hll
  replace hwfe := Lib.hid hwfe
  replace hwge := Lib.hid hwge
  replace hact := Lib.hid hact
  replace ha := Lib.hid ha
  replace hl := Lib.hid hl
  replace hR := Lib.hid hR
  replace hdl := Lib.hid hdl
  clear h hr hr0 hs hV hq hik hxn
  have fin : ∀ W b, Mod Nowhere W0 W → (s'.f = s.f → b = true) → ∃ b', Ending.returned (.bool b) = .returned (.bool b') ∧ (s'.f = s.f → b' = true) ∧ Mod Nowhere w W := fun W b hm hb => ⟨b, rfl, hb, hm0.out.trans hm⟩
  replace fin := Lib.hid fin
  have hI3 : decide (((dom F).map fun k : Nat => (k : Int)) = (dom G).map fun k : Nat => (k : Int)) = false := by
    simp only [decide_eq_false_iff_not, mapInt_inj]
    rw [← hF.out, ← hG.out]; exact hd0.out
  have hno : ¬ s'.f = s.f := fun e => hd0.out (by rw [e])
  replace hI3 := Lib.hid hI3
  replace hno := Lib.hid hno
  go_enter Tryz.func47, Tryz.ntmps47
  go_wp2_with fail
  replace hW0 := Lib.hid hW0
  refine wp_region_calm (fun i v w' => match i with | 0 => (v = ptr A.vb) | 1 => (InRow w' v ((dom F).map fun k : Nat => (k : Int))) | 2 => (v = .agg #[.int .i64 R, .slice ia xs.length ic, .bool act, .slice ea es.length ec]) | 3 => (InRow w' v ((dom G).map fun k : Nat => (k : Int))) | 4 => (v = .bool false) | 5 => (v = .bool true) | 6 => (v = .bool true) | 12 => (v = .bool true) | 13 => (v = .bool true) | 19 => (v = .bool true) | 20 => (v = .bool true) | 26 => (v = .bool true) | 27 => (v = .bool true) | 33 => (v = .bool true) | 34 => (v = .bool true) | 40 => (v = .bool true) | 41 => (v = .bool true) | 45 => (v = .bool true) | _ => True) ?A_ (by first | assumption | kernel_rfl) (by kernel_rfl) (by kernel_rfl) ?hA_ ?hS_ ?hE_
  case hA_ => intro xs; simp [putAll, List.range, List.range.loop, Act.put]; rfl
  case hS_ =>
    refine ⟨?_, ?_, ?_, ?_, ?_, ?_, ?_, ?_, ?_, ?_, ?_, ?_, ?_, ?_, ?_, ?_, ?_, ?_, ?_, ?_, ?_, ?_, ?_, ?_, ?_, ?_, ?_, ?_, ?_, ?_, ?_, ?_, ?_, ?_, ?_, ?_, ?_, ?_, ?_, ?_, ?_, ?_, ?_, ?_, ?_, ?_, trivial⟩
    · -- 0: t9 := move(t0)
      intro yv w' hR hF K hK
      clear hF
      go_simp
      exact hK _ _ (fun _ _ => by first | trivial | rfl | simp [*]) (Mod.refl _ _)
    · -- 1: t10 := CALL F59 (t9)
      intro yv w' hR hF K hK
      have f0 : (yv 0) = ptr A.vb := hF 0 (by kernel_rfl) w' (Mod.refl _ _)
      clear hF
      generalize yv 0 = y0 at *
      subst f0
      have hm1 := (Mod.refl Nowhere W0).drew.trans hR
      go_simp
      go_at_call 59
      refine (c1.out _ hm1).mono ?_
      rintro e w1 ⟨u1, rfl, ho1, hm1'⟩
      have hr1 := inRow_owns ho1 rfl
      exact hK _ _ (fun W hW => hr1.fresh hW) hm1'
    · -- 2: t11 := load(54, t3)
      intro yv w' hR hF K hK
      clear hF
      obtain ⟨p0, p1, p2, p3⟩ := hcl.out w' ((Mod.refl Nowhere W0).drew.trans hR)
      go_simp
      exact hK _ _ (fun _ _ => rfl) (Mod.refl _ _)
    · -- 3: t12 := CALL F94 (t11)
      intro yv w' hR hF K hK
      have f2 : (yv 2) = .agg #[.int .i64 R, .slice ia xs.length ic, .bool act, .slice ea es.length ec] := hF 2 (by kernel_rfl) w' (Mod.refl _ _)
      have f1 : InRow w' (yv 1) ((dom F).map fun k : Nat => (k : Int)) := hF 1 (by kernel_rfl) w' (Mod.refl _ _)
      clear hF
      generalize yv 2 = y2 at *
      subst f2
      generalize yv 1 = y1 at *
      have hm1 := (Mod.refl Nowhere W0).drew.trans hR
      clear f1
      go_simp
      go_at_call 94
      refine (c2.out _ hm1).mono ?_
      rintro e w1 ⟨u1, rfl, hr1, hm1'⟩
      exact hK _ _ (fun W hW => hr1.fresh hW) hm1'
    · -- 4: t13 := CALL F79 (t10, t12)
      intro yv w' hR hF K hK
      have f1 : InRow w' (yv 1) ((dom F).map fun k : Nat => (k : Int)) := hF 1 (by kernel_rfl) w' (Mod.refl _ _)
      have f3 : InRow w' (yv 3) ((dom G).map fun k : Nat => (k : Int)) := hF 3 (by kernel_rfl) w' (Mod.refl _ _)
      clear hF
      generalize yv 1 = y1 at *
      generalize yv 3 = y3 at *
      have h3 := rInts_ok f1 f3 (by rw [List.length_map]; have := hdl.out F; omega) (by rw [List.length_map]; have := hdl.out G; omega)
      rw [hI3.out] at h3
      replace h3 := Lib.hid h3
      clear f1 f3
      go_simp
      go_at_call 79
      refine h3.out.mono ?_
      rintro e w1 ⟨rfl, hm1'⟩
      exact hK _ _ (fun _ _ => rfl) hm1'
    · -- 5: t14 := unOp(not, 4, t13)
      intro yv w' hR hF K hK
      have f4 : (yv 4) = .bool false := hF 4 (by kernel_rfl) w' (Mod.refl _ _)
      clear hF
      generalize yv 4 = y4 at *
      subst f4
      go_simp
      exact hK _ _ (fun _ _ => by first | trivial | rfl | simp [*]) (Mod.refl _ _)
    · -- 6: t15 := move(t14)
      intro yv w' hR hF K hK
      have f5 : (yv 5) = .bool true := hF 5 (by kernel_rfl) w' (Mod.refl _ _)
      have f4 : (yv 4) = .bool false := hF 4 (by kernel_rfl) w' (Mod.refl _ _)
      clear hF
      generalize yv 5 = y5 at *
      subst f5
      generalize yv 4 = y4 at *
      subst f4
      go_simp
      exact hK _ _ (fun _ _ => by first | trivial | rfl | simp [*]) (Mod.refl _ _)
    · -- 7: t16 := move(t0)   [guard (6, false)]
      intro yv w' hR hF K hK
      have f6 : (yv 6) = .bool true := hF 6 (by kernel_rfl) w' (Mod.refl _ _)
      clear hF
      generalize yv 6 = y6 at *
      subst f6
      go_simp
      exact hK _ _ (fun _ _ => by first | trivial | rfl | simp [*]) (Mod.refl _ _)
    · -- 8: t17 := CALL F57 (t16)   [guard (6, false)]
      intro yv w' hR hF K hK
      have f6 : (yv 6) = .bool true := hF 6 (by kernel_rfl) w' (Mod.refl _ _)
      clear hF
      generalize yv 6 = y6 at *
      subst f6
      go_simp
      exact hK _ _ (fun _ _ => by first | trivial | rfl | simp [*]) (Mod.refl _ _)
    · -- 9: t18 := load(54, t3)   [guard (6, false)]
      intro yv w' hR hF K hK
      have f6 : (yv 6) = .bool true := hF 6 (by kernel_rfl) w' (Mod.refl _ _)
      clear hF
      generalize yv 6 = y6 at *
      subst f6
      go_simp
      exact hK _ _ (fun _ _ => by first | trivial | rfl | simp [*]) (Mod.refl _ _)
    · -- 10: t19 := CALL F95 (t18)   [guard (6, false)]
      intro yv w' hR hF K hK
      have f6 : (yv 6) = .bool true := hF 6 (by kernel_rfl) w' (Mod.refl _ _)
      clear hF
      generalize yv 6 = y6 at *
      subst f6
      go_simp
      exact hK _ _ (fun _ _ => by first | trivial | rfl | simp [*]) (Mod.refl _ _)
    · -- 11: t20 := binOp(neq, 3, t17, t19, 3)   [guard (6, false)]
      intro yv w' hR hF K hK
      have f6 : (yv 6) = .bool true := hF 6 (by kernel_rfl) w' (Mod.refl _ _)
      clear hF
      generalize yv 6 = y6 at *
      subst f6
      go_simp
      exact hK _ _ (fun _ _ => by first | trivial | rfl | simp [*]) (Mod.refl _ _)
    · -- 12: t21 := pick(t15, const(Value.bool(true)), t20)
      intro yv w' hR hF K hK
      have f6 : (yv 6) = .bool true := hF 6 (by kernel_rfl) w' (Mod.refl _ _)
      clear hF
      generalize yv 6 = y6 at *
      subst f6
      go_simp
      exact hK _ _ (fun _ _ => by first | trivial | rfl | simp [*]) (Mod.refl _ _)
    · -- 13: t22 := move(t21)
      intro yv w' hR hF K hK
      have f12 : (yv 12) = .bool true := hF 12 (by kernel_rfl) w' (Mod.refl _ _)
      clear hF
      generalize yv 12 = y12 at *
      subst f12
      go_simp
      exact hK _ _ (fun _ _ => by first | trivial | rfl | simp [*]) (Mod.refl _ _)
    · -- 14: t23 := move(t0)   [guard (13, false)]
      intro yv w' hR hF K hK
      have f13 : (yv 13) = .bool true := hF 13 (by kernel_rfl) w' (Mod.refl _ _)
      clear hF
      generalize yv 13 = y13 at *
      subst f13
      go_simp
      exact hK _ _ (fun _ _ => by first | trivial | rfl | simp [*]) (Mod.refl _ _)
    · -- 15: t24 := CALL F45 (t23)   [guard (13, false)]
      intro yv w' hR hF K hK
      have f13 : (yv 13) = .bool true := hF 13 (by kernel_rfl) w' (Mod.refl _ _)
      clear hF
      generalize yv 13 = y13 at *
      subst f13
      go_simp
      exact hK _ _ (fun _ _ => by first | trivial | rfl | simp [*]) (Mod.refl _ _)
    · -- 16: t25 := load(54, t3)   [guard (13, false)]
      intro yv w' hR hF K hK
      have f13 : (yv 13) = .bool true := hF 13 (by kernel_rfl) w' (Mod.refl _ _)
      clear hF
      generalize yv 13 = y13 at *
      subst f13
      go_simp
      exact hK _ _ (fun _ _ => by first | trivial | rfl | simp [*]) (Mod.refl _ _)
    · -- 17: t26 := CALL F46 (t25)   [guard (13, false)]
      intro yv w' hR hF K hK
      have f13 : (yv 13) = .bool true := hF 13 (by kernel_rfl) w' (Mod.refl _ _)
      clear hF
      generalize yv 13 = y13 at *
      subst f13
      go_simp
      exact hK _ _ (fun _ _ => by first | trivial | rfl | simp [*]) (Mod.refl _ _)
    · -- 18: t27 := binOp(neq, 3, t24, t26, 3)   [guard (13, false)]
      intro yv w' hR hF K hK
      have f13 : (yv 13) = .bool true := hF 13 (by kernel_rfl) w' (Mod.refl _ _)
      clear hF
      generalize yv 13 = y13 at *
      subst f13
      go_simp
      exact hK _ _ (fun _ _ => by first | trivial | rfl | simp [*]) (Mod.refl _ _)
    · -- 19: t28 := pick(t22, const(Value.bool(true)), t27)
      intro yv w' hR hF K hK
      have f13 : (yv 13) = .bool true := hF 13 (by kernel_rfl) w' (Mod.refl _ _)
      clear hF
      generalize yv 13 = y13 at *
      subst f13
      go_simp
      exact hK _ _ (fun _ _ => by first | trivial | rfl | simp [*]) (Mod.refl _ _)
    · -- 20: t29 := move(t28)
      intro yv w' hR hF K hK
      have f19 : (yv 19) = .bool true := hF 19 (by kernel_rfl) w' (Mod.refl _ _)
      clear hF
      generalize yv 19 = y19 at *
      subst f19
      go_simp
      exact hK _ _ (fun _ _ => by first | trivial | rfl | simp [*]) (Mod.refl _ _)
    · -- 21: t30 := move(t0)   [guard (20, false)]
      intro yv w' hR hF K hK
      have f20 : (yv 20) = .bool true := hF 20 (by kernel_rfl) w' (Mod.refl _ _)
      clear hF
      generalize yv 20 = y20 at *
      subst f20
      go_simp
      exact hK _ _ (fun _ _ => by first | trivial | rfl | simp [*]) (Mod.refl _ _)
    · -- 22: t31 := CALL F43 (t30)   [guard (20, false)]
      intro yv w' hR hF K hK
      have f20 : (yv 20) = .bool true := hF 20 (by kernel_rfl) w' (Mod.refl _ _)
      clear hF
      generalize yv 20 = y20 at *
      subst f20
      go_simp
      exact hK _ _ (fun _ _ => by first | trivial | rfl | simp [*]) (Mod.refl _ _)
    · -- 23: t32 := load(54, t3)   [guard (20, false)]
      intro yv w' hR hF K hK
      have f20 : (yv 20) = .bool true := hF 20 (by kernel_rfl) w' (Mod.refl _ _)
      clear hF
      generalize yv 20 = y20 at *
      subst f20
      go_simp
      exact hK _ _ (fun _ _ => by first | trivial | rfl | simp [*]) (Mod.refl _ _)
    · -- 24: t33 := CALL F44 (t32)   [guard (20, false)]
      intro yv w' hR hF K hK
      have f20 : (yv 20) = .bool true := hF 20 (by kernel_rfl) w' (Mod.refl _ _)
      clear hF
      generalize yv 20 = y20 at *
      subst f20
      go_simp
      exact hK _ _ (fun _ _ => by first | trivial | rfl | simp [*]) (Mod.refl _ _)
    · -- 25: t34 := binOp(neq, 3, t31, t33, 3)   [guard (20, false)]
      intro yv w' hR hF K hK
      have f20 : (yv 20) = .bool true := hF 20 (by kernel_rfl) w' (Mod.refl _ _)
      clear hF
      generalize yv 20 = y20 at *
      subst f20
      go_simp
      exact hK _ _ (fun _ _ => by first | trivial | rfl | simp [*]) (Mod.refl _ _)
    · -- 26: t35 := pick(t29, const(Value.bool(true)), t34)
      intro yv w' hR hF K hK
      have f20 : (yv 20) = .bool true := hF 20 (by kernel_rfl) w' (Mod.refl _ _)
      clear hF
      generalize yv 20 = y20 at *
      subst f20
      go_simp
      exact hK _ _ (fun _ _ => by first | trivial | rfl | simp [*]) (Mod.refl _ _)
    · -- 27: t36 := move(t35)
      intro yv w' hR hF K hK
      have f26 : (yv 26) = .bool true := hF 26 (by kernel_rfl) w' (Mod.refl _ _)
      clear hF
      generalize yv 26 = y26 at *
      subst f26
      go_simp
      exact hK _ _ (fun _ _ => by first | trivial | rfl | simp [*]) (Mod.refl _ _)
    · -- 28: t37 := move(t0)   [guard (27, false)]
      intro yv w' hR hF K hK
      have f27 : (yv 27) = .bool true := hF 27 (by kernel_rfl) w' (Mod.refl _ _)
      clear hF
      generalize yv 27 = y27 at *
      subst f27
      go_simp
      exact hK _ _ (fun _ _ => by first | trivial | rfl | simp [*]) (Mod.refl _ _)
    · -- 29: t38 := CALL F55 (t37)   [guard (27, false)]
      intro yv w' hR hF K hK
      have f27 : (yv 27) = .bool true := hF 27 (by kernel_rfl) w' (Mod.refl _ _)
      clear hF
      generalize yv 27 = y27 at *
      subst f27
      go_simp
      exact hK _ _ (fun _ _ => by first | trivial | rfl | simp [*]) (Mod.refl _ _)
    · -- 30: t39 := fieldAddr(54, t3, 2)   [guard (27, false)]
      intro yv w' hR hF K hK
      have f27 : (yv 27) = .bool true := hF 27 (by kernel_rfl) w' (Mod.refl _ _)
      clear hF
      generalize yv 27 = y27 at *
      subst f27
      go_simp
      exact hK _ _ (fun _ _ => by first | trivial | rfl | simp [*]) (Mod.refl _ _)
    · -- 31: t40 := load(4, t39)   [guard (27, false)]
      intro yv w' hR hF K hK
      have f27 : (yv 27) = .bool true := hF 27 (by kernel_rfl) w' (Mod.refl _ _)
      clear hF
      generalize yv 27 = y27 at *
      subst f27
      go_simp
      exact hK _ _ (fun _ _ => by first | trivial | rfl | simp [*]) (Mod.refl _ _)
    · -- 32: t41 := binOp(neq, 4, t38, t40, 4)   [guard (27, false)]
      intro yv w' hR hF K hK
      have f27 : (yv 27) = .bool true := hF 27 (by kernel_rfl) w' (Mod.refl _ _)
      clear hF
      generalize yv 27 = y27 at *
      subst f27
      go_simp
      exact hK _ _ (fun _ _ => by first | trivial | rfl | simp [*]) (Mod.refl _ _)
    · -- 33: t42 := pick(t36, const(Value.bool(true)), t41)
      intro yv w' hR hF K hK
      have f27 : (yv 27) = .bool true := hF 27 (by kernel_rfl) w' (Mod.refl _ _)
      clear hF
      generalize yv 27 = y27 at *
      subst f27
      go_simp
      exact hK _ _ (fun _ _ => by first | trivial | rfl | simp [*]) (Mod.refl _ _)
    · -- 34: t43 := move(t42)
      intro yv w' hR hF K hK
      have f33 : (yv 33) = .bool true := hF 33 (by kernel_rfl) w' (Mod.refl _ _)
      clear hF
      generalize yv 33 = y33 at *
      subst f33
      go_simp
      exact hK _ _ (fun _ _ => by first | trivial | rfl | simp [*]) (Mod.refl _ _)
    · -- 35: t44 := move(t0)   [guard (34, false)]
      intro yv w' hR hF K hK
      have f34 : (yv 34) = .bool true := hF 34 (by kernel_rfl) w' (Mod.refl _ _)
      clear hF
      generalize yv 34 = y34 at *
      subst f34
      go_simp
      exact hK _ _ (fun _ _ => by first | trivial | rfl | simp [*]) (Mod.refl _ _)
    · -- 36: t45 := CALL F58 (t44)   [guard (34, false)]
      intro yv w' hR hF K hK
      have f34 : (yv 34) = .bool true := hF 34 (by kernel_rfl) w' (Mod.refl _ _)
      clear hF
      generalize yv 34 = y34 at *
      subst f34
      go_simp
      exact hK _ _ (fun _ _ => by first | trivial | rfl | simp [*]) (Mod.refl _ _)
    · -- 37: t46 := fieldAddr(54, t3, 0)   [guard (34, false)]
      intro yv w' hR hF K hK
      have f34 : (yv 34) = .bool true := hF 34 (by kernel_rfl) w' (Mod.refl _ _)
      clear hF
      generalize yv 34 = y34 at *
      subst f34
      go_simp
      exact hK _ _ (fun _ _ => by first | trivial | rfl | simp [*]) (Mod.refl _ _)
    · -- 38: t47 := load(3, t46)   [guard (34, false)]
      intro yv w' hR hF K hK
      have f34 : (yv 34) = .bool true := hF 34 (by kernel_rfl) w' (Mod.refl _ _)
      clear hF
      generalize yv 34 = y34 at *
      subst f34
      go_simp
      exact hK _ _ (fun _ _ => by first | trivial | rfl | simp [*]) (Mod.refl _ _)
    · -- 39: t48 := binOp(neq, 3, t45, t47, 3)   [guard (34, false)]
      intro yv w' hR hF K hK
      have f34 : (yv 34) = .bool true := hF 34 (by kernel_rfl) w' (Mod.refl _ _)
      clear hF
      generalize yv 34 = y34 at *
      subst f34
      go_simp
      exact hK _ _ (fun _ _ => by first | trivial | rfl | simp [*]) (Mod.refl _ _)
    · -- 40: t49 := pick(t43, const(Value.bool(true)), t48)
      intro yv w' hR hF K hK
      have f34 : (yv 34) = .bool true := hF 34 (by kernel_rfl) w' (Mod.refl _ _)
      clear hF
      generalize yv 34 = y34 at *
      subst f34
      go_simp
      exact hK _ _ (fun _ _ => by first | trivial | rfl | simp [*]) (Mod.refl _ _)
    · -- 41: t50 := move(t49)
      intro yv w' hR hF K hK
      have f40 : (yv 40) = .bool true := hF 40 (by kernel_rfl) w' (Mod.refl _ _)
      clear hF
      generalize yv 40 = y40 at *
      subst f40
      go_simp
      exact hK _ _ (fun _ _ => by first | trivial | rfl | simp [*]) (Mod.refl _ _)
    · -- 42: t51 := move(t0)   [guard (41, false)]
      intro yv w' hR hF K hK
      have f41 : (yv 41) = .bool true := hF 41 (by kernel_rfl) w' (Mod.refl _ _)
      clear hF
      generalize yv 41 = y41 at *
      subst f41
      go_simp
      exact hK _ _ (fun _ _ => by first | trivial | rfl | simp [*]) (Mod.refl _ _)
    · -- 43: t52 := CALL F56 (t51)   [guard (41, false)]
      intro yv w' hR hF K hK
      have f41 : (yv 41) = .bool true := hF 41 (by kernel_rfl) w' (Mod.refl _ _)
      clear hF
      generalize yv 41 = y41 at *
      subst f41
      go_simp
      exact hK _ _ (fun _ _ => by first | trivial | rfl | simp [*]) (Mod.refl _ _)
    · -- 44: t53 := unOp(not, 4, t52)   [guard (41, false)]
      intro yv w' hR hF K hK
      have f41 : (yv 41) = .bool true := hF 41 (by kernel_rfl) w' (Mod.refl _ _)
      clear hF
      generalize yv 41 = y41 at *
      subst f41
      go_simp
      exact hK _ _ (fun _ _ => by first | trivial | rfl | simp [*]) (Mod.refl _ _)
    · -- 45: t54 := pick(t50, const(Value.bool(true)), t53)
      intro yv w' hR hF K hK
      have f41 : (yv 41) = .bool true := hF 41 (by kernel_rfl) w' (Mod.refl _ _)
      clear hF
      generalize yv 41 = y41 at *
      subst f41
      go_simp
      exact hK _ _ (fun _ _ => by first | trivial | rfl | simp [*]) (Mod.refl _ _)
  case hE_ =>
    intro yv w' hR hF
    have f0 : (yv 0) = ptr A.vb := hF 0 (by simp) w' (Mod.refl _ _)
    have f1 : InRow w' (yv 1) ((dom F).map fun k : Nat => (k : Int)) := hF 1 (by simp) w' (Mod.refl _ _)
    have f2 : (yv 2) = .agg #[.int .i64 R, .slice ia xs.length ic, .bool act, .slice ea es.length ec] := hF 2 (by simp) w' (Mod.refl _ _)
    have f3 : InRow w' (yv 3) ((dom G).map fun k : Nat => (k : Int)) := hF 3 (by simp) w' (Mod.refl _ _)
    have f4 : (yv 4) = .bool false := hF 4 (by simp) w' (Mod.refl _ _)
    have f5 : (yv 5) = .bool true := hF 5 (by simp) w' (Mod.refl _ _)
    have f6 : (yv 6) = .bool true := hF 6 (by simp) w' (Mod.refl _ _)
    have f12 : (yv 12) = .bool true := hF 12 (by simp) w' (Mod.refl _ _)
    have f13 : (yv 13) = .bool true := hF 13 (by simp) w' (Mod.refl _ _)
    have f19 : (yv 19) = .bool true := hF 19 (by simp) w' (Mod.refl _ _)
    have f20 : (yv 20) = .bool true := hF 20 (by simp) w' (Mod.refl _ _)
    have f26 : (yv 26) = .bool true := hF 26 (by simp) w' (Mod.refl _ _)
    have f27 : (yv 27) = .bool true := hF 27 (by simp) w' (Mod.refl _ _)
    have f33 : (yv 33) = .bool true := hF 33 (by simp) w' (Mod.refl _ _)
    have f34 : (yv 34) = .bool true := hF 34 (by simp) w' (Mod.refl _ _)
    have f40 : (yv 40) = .bool true := hF 40 (by simp) w' (Mod.refl _ _)
    have f41 : (yv 41) = .bool true := hF 41 (by simp) w' (Mod.refl _ _)
    have f45 : (yv 45) = .bool true := hF 45 (by simp) w' (Mod.refl _ _)
    clear hF
    generalize yv 0 = y0 at *
    subst f0
    generalize yv 1 = y1 at *
    generalize yv 2 = y2 at *
    subst f2
    generalize yv 3 = y3 at *
    generalize yv 4 = y4 at *
    subst f4
    generalize yv 5 = y5 at *
    subst f5
    generalize yv 6 = y6 at *
    subst f6
    generalize yv 12 = y12 at *
    subst f12
    generalize yv 13 = y13 at *
    subst f13
    generalize yv 19 = y19 at *
    subst f19
    generalize yv 20 = y20 at *
    subst f20
    generalize yv 26 = y26 at *
    subst f26
    generalize yv 27 = y27 at *
    subst f27
    generalize yv 33 = y33 at *
    subst f33
    generalize yv 34 = y34 at *
    subst f34
    generalize yv 40 = y40 at *
    subst f40
    generalize yv 41 = y41 at *
    subst f41
    generalize yv 45 = y45 at *
    subst f45
    have hm9 := (Mod.refl Nowhere W0).drew.trans hR
    have hend := fin.out w' false hm9 (fun e => absurd e hno.out)
    replace hend := Lib.hid hend
    clear f1 f3
    go_wp2
    go_ret
    exact hend.out
set_option maxRecDepth 100000 in
set_option maxHeartbeats 8000000 in
theorem agrees_used {w : World} {A : VAt} {m : Mem} {s s' : VSt} {v : Value} {R : Nat} (h : VRep w A m s) (hr : RRep w v R s') (hR : A.Z / 2 = R) (hxn : s.l.length ≤ 1000000) (ha : s'.act = s.act) (hl : s'.l = s.l) (hd0 : dom (sets s.f s.l) = dom (sets s'.f s.l)) (hw0 : ¬ wt s.f = wt s'.f) :
    Calls Tryz.prog 47 #[ptr A.vb, v] w fun e w' => ∃ b, e = .returned (.bool b) ∧ (s'.f = s.f → b = true) ∧ Mod Nowhere w w' := by
  replace hd0 := Lib.hid hd0
  replace hw0 := Lib.hid hw0
  have hr0 := hr
  obtain ⟨iv, ev, xs, es, rfl, hs⟩ := hr.ex
  obtain ⟨ia, ic, rfl, -⟩ := hs.it.sl.gen
  obtain ⟨ea, ec, rfl, -⟩ := hs.ed.sl.gen
  rw [ha] at hr0 ⊢
  obtain ⟨act, hact⟩ : ∃ act, s.act = act := ⟨_, rfl⟩
  rw [hact] at hr0 ⊢
  obtain ⟨W0, hW0⟩ : ∃ W0, w.alloc (.cells #[.int .i64 R, .slice ia xs.length ic, .bool act, .slice ea es.length ec] 54) = W0 := ⟨_, rfl⟩
  have hm0 : Mod Nowhere w W0 := by rw [← hW0]; exact (Mod.refl _ w).alloc _
  have hb0 : Blk W0 w.heap.size [.int .i64 R, .slice ia xs.length ic, .bool act, .slice ea es.length ec] 54 := by rw [← hW0]; exact Blk.new' rfl rfl
  have hV := fun W (hm : Mod Nowhere W0 W) => (h.fresh hm0).fresh hm
  have hq := fun W (hm : Mod Nowhere W0 W) => (hr0.fresh hm0).fresh hm
  have hcl : ∀ W, Mod Nowhere W0 W → W.cell? ⟨w.heap.size, 0, none⟩ = some (.int .i64 R) ∧ W.cell? ⟨w.heap.size, 1, none⟩ = some (.slice ia xs.length ic) ∧ W.cell? ⟨w.heap.size, 2, none⟩ = some (.bool act) ∧ W.cell? ⟨w.heap.size, 3, none⟩ = some (.slice ea es.length ec) := fun W hm => by
    have g := hb0.mod hm (fun e => e)
    exact ⟨g.cell 0, g.cell 1, g.cell 2, g.cell 3⟩
  have c1 := fun W hm => vIDs_ok (hV W hm) hxn
  have c2 := fun W hm => rIDs_ok (hq W hm)
  have c4 := fun W hm => vUsed_ok (hV W hm)
  have c5 := fun W hm => rUsed_ok (hq W hm)
  have c6 := fun W hm => vLeft_ok (hV W hm) hxn
  have c7 := fun W hm => rLeft_ok (hq W hm)
  have c8 := fun W hm => vSave_ok (hV W hm)
  have c9 := fun W hm => rSave_ok (hq W hm)
  have c10 := fun W hm => vActive_rep (hV W hm)
  have c11 := fun W hm => vRoomP_ok (hV W hm)
  have c12 := fun W hm => vAlive_rep (hV W hm)
  have c13 := fun W hm => rView_ok (hq W hm)
  have c14 := fun W hm nd h1 h2 => vGet_rep (hV W hm) hxn nd h1 h2
  have hik := h.iok
  have hiF : IOk (sets s.f s.l) := hik.1.sets _ hik.2.1
  have hiG : IOk (sets s'.f s.l) := by rw [← hl]; exact hs.iok.sets _ hs.ok
  have hFG : s'.f = s.f → sets s'.f s.l = sets s.f s.l := fun e => by rw [e]
  have hwf : s'.f = s.f → wt s'.f = wt s.f := fun e => by rw [e]
  simp only [hl] at c2 c7 c9 c13
  simp only [hact] at c10
  simp only [hR] at c11
  obtain ⟨F, hF⟩ : ∃ F, sets s.f s.l = F := ⟨_, rfl⟩
  obtain ⟨G, hG⟩ : ∃ G, sets s'.f s.l = G := ⟨_, rfl⟩
  simp only [hF] at c1 c14 hiF hFG
  simp only [hG] at c2 c13 hiG hFG
  obtain ⟨nd_, hnd⟩ : ∃ n, Vn.need s.l = n := ⟨_, rfl⟩
  obtain ⟨ll, hll⟩ : ∃ n, s.l.length = n := ⟨_, rfl⟩
  obtain ⟨wf, hwfe⟩ : ∃ n, wt s.f = n := ⟨_, rfl⟩
  obtain ⟨wg, hwge⟩ : ∃ n, wt s'.f = n := ⟨_, rfl⟩
  simp only [hnd] at c6 c7
  simp only [hll] at c8 c9
  simp only [hwfe] at c4 hwf
  simp only [hwge] at c5 hwf
  have kl := hb0.lt
  have kz := hb0.frozen
  obtain ⟨k0, k1, k2, k3⟩ := hcl W0 (Mod.refl _ _)
  have hdl : ∀ f : Items, (dom f).length ≤ 4097 := dom_len
  replace hm0 := Lib.hid hm0
  replace hb0 := Lib.hid hb0
  replace hcl := Lib.hid hcl
  replace c1 := Lib.hid c1
  replace c2 := Lib.hid c2
  replace c4 := Lib.hid c4
  replace c5 := Lib.hid c5
  replace c6 := Lib.hid c6
  replace c7 := Lib.hid c7
  replace c8 := Lib.hid c8
  replace c9 := Lib.hid c9
  replace c10 := Lib.hid c10
  replace c11 := Lib.hid c11
  replace c12 := Lib.hid c12
  replace c13 := Lib.hid c13
  replace c14 := Lib.hid c14
  replace hiF := Lib.hid hiF
  replace hiG := Lib.hid hiG
  replace hFG := Lib.hid hFG
  replace hwf := Lib.hid hwf
  replace hF := Lib.hid hF
  replace hG := Lib.hid hG
  replace hnd := Lib.hid hnd
  replace hll := Lib.hid hll
  replace hwfe := Lib.hid hwfe
  replace hwge := Lib.hid hwge
  replace hact := Lib.hid hact
  replace ha := Lib.hid ha
  replace hl := Lib.hid hl
  replace hR := Lib.hid hR
  replace hdl := Lib.hid hdl
  clear h hr hr0 hs hV hq hik hxn
  have fin : ∀ W b, Mod Nowhere W0 W → (s'.f = s.f → b = true) → ∃ b', Ending.returned (.bool b) = .returned (.bool b') ∧ (s'.f = s.f → b' = true) ∧ Mod Nowhere w W := fun W b hm hb => ⟨b, rfl, hb, hm0.out.trans hm⟩
  replace fin := Lib.hid fin
  have hI3 : decide (((dom F).map fun k : Nat => (k : Int)) = (dom G).map fun k : Nat => (k : Int)) = true := by
    simp only [decide_eq_true_eq, mapInt_inj]
    rw [← hF.out, ← hG.out]; exact hd0.out
  have hno : ¬ s'.f = s.f := fun e => hw0.out (by rw [e])
  have hwn : ¬ wf = wg := fun e => hw0.out (by rw [hwfe.out, hwge.out]; exact e)
  have hwb : ((wf : Int) != (wg : Int)) = true := by simp; omega
  have hwc : ((wf : Int) == (wg : Int)) = false := by simp; omega
  replace hI3 := Lib.hid hI3
  replace hno := Lib.hid hno
  go_enter Tryz.func47, Tryz.ntmps47
  go_wp2_with fail
  replace hW0 := Lib.hid hW0
  refine wp_region_calm (fun i v w' => match i with | 0 => (v = ptr A.vb) | 1 => (InRow w' v ((dom F).map fun k : Nat => (k : Int))) | 2 => (v = .agg #[.int .i64 R, .slice ia xs.length ic, .bool act, .slice ea es.length ec]) | 3 => (InRow w' v ((dom G).map fun k : Nat => (k : Int))) | 4 => (v = .bool true) | 5 => (v = .bool false) | 6 => (v = .bool false) | 7 => (v = ptr A.vb) | 8 => (v = .int .i64 wf) | 9 => (v = .agg #[.int .i64 R, .slice ia xs.length ic, .bool act, .slice ea es.length ec]) | 10 => (v = .int .i64 wg) | 11 => (v = .bool true) | 12 => (v = .bool true) | 13 => (v = .bool true) | 19 => (v = .bool true) | 20 => (v = .bool true) | 26 => (v = .bool true) | 27 => (v = .bool true) | 33 => (v = .bool true) | 34 => (v = .bool true) | 40 => (v = .bool true) | 41 => (v = .bool true) | 45 => (v = .bool true) | _ => True) ?A_ (by first | assumption | kernel_rfl) (by kernel_rfl) (by kernel_rfl) ?hA_ ?hS_ ?hE_
  case hA_ => intro xs; simp [putAll, List.range, List.range.loop, Act.put]; rfl
  case hS_ =>
    refine ⟨?_, ?_, ?_, ?_, ?_, ?_, ?_, ?_, ?_, ?_, ?_, ?_, ?_, ?_, ?_, ?_, ?_, ?_, ?_, ?_, ?_, ?_, ?_, ?_, ?_, ?_, ?_, ?_, ?_, ?_, ?_, ?_, ?_, ?_, ?_, ?_, ?_, ?_, ?_, ?_, ?_, ?_, ?_, ?_, ?_, ?_, trivial⟩
    · -- 0: t9 := move(t0)
      intro yv w' hR hF K hK
      clear hF
      go_simp
      exact hK _ _ (fun _ _ => by first | trivial | rfl | simp [*]) (Mod.refl _ _)
    · -- 1: t10 := CALL F59 (t9)
      intro yv w' hR hF K hK
      have f0 : (yv 0) = ptr A.vb := hF 0 (by kernel_rfl) w' (Mod.refl _ _)
      clear hF
      generalize yv 0 = y0 at *
      subst f0
      have hm1 := (Mod.refl Nowhere W0).drew.trans hR
      go_simp
      go_at_call 59
      refine (c1.out _ hm1).mono ?_
      rintro e w1 ⟨u1, rfl, ho1, hm1'⟩
      have hr1 := inRow_owns ho1 rfl
      exact hK _ _ (fun W hW => hr1.fresh hW) hm1'
    · -- 2: t11 := load(54, t3)
      intro yv w' hR hF K hK
      clear hF
      obtain ⟨p0, p1, p2, p3⟩ := hcl.out w' ((Mod.refl Nowhere W0).drew.trans hR)
      go_simp
      exact hK _ _ (fun _ _ => rfl) (Mod.refl _ _)
    · -- 3: t12 := CALL F94 (t11)
      intro yv w' hR hF K hK
      have f2 : (yv 2) = .agg #[.int .i64 R, .slice ia xs.length ic, .bool act, .slice ea es.length ec] := hF 2 (by kernel_rfl) w' (Mod.refl _ _)
      have f1 : InRow w' (yv 1) ((dom F).map fun k : Nat => (k : Int)) := hF 1 (by kernel_rfl) w' (Mod.refl _ _)
      clear hF
      generalize yv 2 = y2 at *
      subst f2
      generalize yv 1 = y1 at *
      have hm1 := (Mod.refl Nowhere W0).drew.trans hR
      clear f1
      go_simp
      go_at_call 94
      refine (c2.out _ hm1).mono ?_
      rintro e w1 ⟨u1, rfl, hr1, hm1'⟩
      exact hK _ _ (fun W hW => hr1.fresh hW) hm1'
    · -- 4: t13 := CALL F79 (t10, t12)
      intro yv w' hR hF K hK
      have f1 : InRow w' (yv 1) ((dom F).map fun k : Nat => (k : Int)) := hF 1 (by kernel_rfl) w' (Mod.refl _ _)
      have f3 : InRow w' (yv 3) ((dom G).map fun k : Nat => (k : Int)) := hF 3 (by kernel_rfl) w' (Mod.refl _ _)
      clear hF
      generalize yv 1 = y1 at *
      generalize yv 3 = y3 at *
      have h3 := rInts_ok f1 f3 (by rw [List.length_map]; have := hdl.out F; omega) (by rw [List.length_map]; have := hdl.out G; omega)
      rw [hI3.out] at h3
      replace h3 := Lib.hid h3
      clear f1 f3
      go_simp
      go_at_call 79
      refine h3.out.mono ?_
      rintro e w1 ⟨rfl, hm1'⟩
      exact hK _ _ (fun _ _ => rfl) hm1'
    · -- 5: t14 := unOp(not, 4, t13)
      intro yv w' hR hF K hK
      have f4 : (yv 4) = .bool true := hF 4 (by kernel_rfl) w' (Mod.refl _ _)
      clear hF
      generalize yv 4 = y4 at *
      subst f4
      go_simp
      exact hK _ _ (fun _ _ => by first | trivial | rfl | simp [*]) (Mod.refl _ _)
    · -- 6: t15 := move(t14)
      intro yv w' hR hF K hK
      have f5 : (yv 5) = .bool false := hF 5 (by kernel_rfl) w' (Mod.refl _ _)
      have f4 : (yv 4) = .bool true := hF 4 (by kernel_rfl) w' (Mod.refl _ _)
      clear hF
      generalize yv 5 = y5 at *
      subst f5
      generalize yv 4 = y4 at *
      subst f4
      go_simp
      exact hK _ _ (fun _ _ => by first | trivial | rfl | simp [*]) (Mod.refl _ _)
    · -- 7: t16 := move(t0)   [guard (6, false)]
      intro yv w' hR hF K hK
      have f6 : (yv 6) = .bool false := hF 6 (by kernel_rfl) w' (Mod.refl _ _)
      clear hF
      generalize yv 6 = y6 at *
      subst f6
      go_simp
      exact hK _ _ (fun _ _ => by first | trivial | rfl | simp [*]) (Mod.refl _ _)
    · -- 8: t17 := CALL F57 (t16)   [guard (6, false)]
      intro yv w' hR hF K hK
      have f7 : (yv 7) = ptr A.vb := hF 7 (by kernel_rfl) w' (Mod.refl _ _)
      have f6 : (yv 6) = .bool false := hF 6 (by kernel_rfl) w' (Mod.refl _ _)
      clear hF
      generalize yv 7 = y7 at *
      subst f7
      generalize yv 6 = y6 at *
      subst f6
      have hm1 := (Mod.refl Nowhere W0).drew.trans hR
      go_simp
      go_at_call 57
      refine (c4.out _ hm1).mono ?_
      rintro e w1 ⟨rfl, hm1'⟩
      exact hK _ _ (fun _ _ => rfl) hm1'
    · -- 9: t18 := load(54, t3)   [guard (6, false)]
      intro yv w' hR hF K hK
      have f6 : (yv 6) = .bool false := hF 6 (by kernel_rfl) w' (Mod.refl _ _)
      clear hF
      generalize yv 6 = y6 at *
      subst f6
      obtain ⟨p0, p1, p2, p3⟩ := hcl.out w' ((Mod.refl Nowhere W0).drew.trans hR)
      go_simp
      exact hK _ _ (fun _ _ => rfl) (Mod.refl _ _)
    · -- 10: t19 := CALL F95 (t18)   [guard (6, false)]
      intro yv w' hR hF K hK
      have f9 : (yv 9) = .agg #[.int .i64 R, .slice ia xs.length ic, .bool act, .slice ea es.length ec] := hF 9 (by kernel_rfl) w' (Mod.refl _ _)
      have f8 : (yv 8) = .int .i64 wf := hF 8 (by kernel_rfl) w' (Mod.refl _ _)
      have f6 : (yv 6) = .bool false := hF 6 (by kernel_rfl) w' (Mod.refl _ _)
      clear hF
      generalize yv 9 = y9 at *
      subst f9
      generalize yv 8 = y8 at *
      subst f8
      generalize yv 6 = y6 at *
      subst f6
      have hm1 := (Mod.refl Nowhere W0).drew.trans hR
      go_simp
      go_at_call 95
      refine (c5.out _ hm1).mono ?_
      rintro e w1 ⟨rfl, hm1'⟩
      exact hK _ _ (fun _ _ => rfl) hm1'
    · -- 11: t20 := binOp(neq, 3, t17, t19, 3)   [guard (6, false)]
      intro yv w' hR hF K hK
      have f8 : (yv 8) = .int .i64 wf := hF 8 (by kernel_rfl) w' (Mod.refl _ _)
      have f10 : (yv 10) = .int .i64 wg := hF 10 (by kernel_rfl) w' (Mod.refl _ _)
      have f6 : (yv 6) = .bool false := hF 6 (by kernel_rfl) w' (Mod.refl _ _)
      clear hF
      generalize yv 8 = y8 at *
      subst f8
      generalize yv 10 = y10 at *
      subst f10
      generalize yv 6 = y6 at *
      subst f6
      go_simp
      exact hK _ _ (fun _ _ => by first | trivial | rfl | simp [*]) (Mod.refl _ _)
    · -- 12: t21 := pick(t15, const(Value.bool(true)), t20)
      intro yv w' hR hF K hK
      have f6 : (yv 6) = .bool false := hF 6 (by kernel_rfl) w' (Mod.refl _ _)
      have f11 : (yv 11) = .bool true := hF 11 (by kernel_rfl) w' (Mod.refl _ _)
      clear hF
      generalize yv 6 = y6 at *
      subst f6
      generalize yv 11 = y11 at *
      subst f11
      go_simp
      exact hK _ _ (fun _ _ => by first | trivial | rfl | simp [*]) (Mod.refl _ _)
    · -- 13: t22 := move(t21)
      intro yv w' hR hF K hK
      have f12 : (yv 12) = .bool true := hF 12 (by kernel_rfl) w' (Mod.refl _ _)
      have f10 : (yv 10) = .int .i64 wg := hF 10 (by kernel_rfl) w' (Mod.refl _ _)
      clear hF
      generalize yv 12 = y12 at *
      subst f12
      generalize yv 10 = y10 at *
      subst f10
      go_simp
      exact hK _ _ (fun _ _ => by first | trivial | rfl | simp [*]) (Mod.refl _ _)
    · -- 14: t23 := move(t0)   [guard (13, false)]
      intro yv w' hR hF K hK
      have f13 : (yv 13) = .bool true := hF 13 (by kernel_rfl) w' (Mod.refl _ _)
      clear hF
      generalize yv 13 = y13 at *
      subst f13
      go_simp
      exact hK _ _ (fun _ _ => by first | trivial | rfl | simp [*]) (Mod.refl _ _)
    · -- 15: t24 := CALL F45 (t23)   [guard (13, false)]
      intro yv w' hR hF K hK
      have f13 : (yv 13) = .bool true := hF 13 (by kernel_rfl) w' (Mod.refl _ _)
      clear hF
      generalize yv 13 = y13 at *
      subst f13
      go_simp
      exact hK _ _ (fun _ _ => by first | trivial | rfl | simp [*]) (Mod.refl _ _)
    · -- 16: t25 := load(54, t3)   [guard (13, false)]
      intro yv w' hR hF K hK
      have f13 : (yv 13) = .bool true := hF 13 (by kernel_rfl) w' (Mod.refl _ _)
      clear hF
      generalize yv 13 = y13 at *
      subst f13
      go_simp
      exact hK _ _ (fun _ _ => by first | trivial | rfl | simp [*]) (Mod.refl _ _)
    · -- 17: t26 := CALL F46 (t25)   [guard (13, false)]
      intro yv w' hR hF K hK
      have f13 : (yv 13) = .bool true := hF 13 (by kernel_rfl) w' (Mod.refl _ _)
      clear hF
      generalize yv 13 = y13 at *
      subst f13
      go_simp
      exact hK _ _ (fun _ _ => by first | trivial | rfl | simp [*]) (Mod.refl _ _)
    · -- 18: t27 := binOp(neq, 3, t24, t26, 3)   [guard (13, false)]
      intro yv w' hR hF K hK
      have f13 : (yv 13) = .bool true := hF 13 (by kernel_rfl) w' (Mod.refl _ _)
      clear hF
      generalize yv 13 = y13 at *
      subst f13
      go_simp
      exact hK _ _ (fun _ _ => by first | trivial | rfl | simp [*]) (Mod.refl _ _)
    · -- 19: t28 := pick(t22, const(Value.bool(true)), t27)
      intro yv w' hR hF K hK
      have f13 : (yv 13) = .bool true := hF 13 (by kernel_rfl) w' (Mod.refl _ _)
      clear hF
      generalize yv 13 = y13 at *
      subst f13
      go_simp
      exact hK _ _ (fun _ _ => by first | trivial | rfl | simp [*]) (Mod.refl _ _)
    · -- 20: t29 := move(t28)
      intro yv w' hR hF K hK
      have f19 : (yv 19) = .bool true := hF 19 (by kernel_rfl) w' (Mod.refl _ _)
      clear hF
      generalize yv 19 = y19 at *
      subst f19
      go_simp
      exact hK _ _ (fun _ _ => by first | trivial | rfl | simp [*]) (Mod.refl _ _)
    · -- 21: t30 := move(t0)   [guard (20, false)]
      intro yv w' hR hF K hK
      have f20 : (yv 20) = .bool true := hF 20 (by kernel_rfl) w' (Mod.refl _ _)
      clear hF
      generalize yv 20 = y20 at *
      subst f20
      go_simp
      exact hK _ _ (fun _ _ => by first | trivial | rfl | simp [*]) (Mod.refl _ _)
    · -- 22: t31 := CALL F43 (t30)   [guard (20, false)]
      intro yv w' hR hF K hK
      have f20 : (yv 20) = .bool true := hF 20 (by kernel_rfl) w' (Mod.refl _ _)
      clear hF
      generalize yv 20 = y20 at *
      subst f20
      go_simp
      exact hK _ _ (fun _ _ => by first | trivial | rfl | simp [*]) (Mod.refl _ _)
    · -- 23: t32 := load(54, t3)   [guard (20, false)]
      intro yv w' hR hF K hK
      have f20 : (yv 20) = .bool true := hF 20 (by kernel_rfl) w' (Mod.refl _ _)
      clear hF
      generalize yv 20 = y20 at *
      subst f20
      go_simp
      exact hK _ _ (fun _ _ => by first | trivial | rfl | simp [*]) (Mod.refl _ _)
    · -- 24: t33 := CALL F44 (t32)   [guard (20, false)]
      intro yv w' hR hF K hK
      have f20 : (yv 20) = .bool true := hF 20 (by kernel_rfl) w' (Mod.refl _ _)
      clear hF
      generalize yv 20 = y20 at *
      subst f20
      go_simp
      exact hK _ _ (fun _ _ => by first | trivial | rfl | simp [*]) (Mod.refl _ _)
    · -- 25: t34 := binOp(neq, 3, t31, t33, 3)   [guard (20, false)]
      intro yv w' hR hF K hK
      have f20 : (yv 20) = .bool true := hF 20 (by kernel_rfl) w' (Mod.refl _ _)
      clear hF
      generalize yv 20 = y20 at *
      subst f20
      go_simp
      exact hK _ _ (fun _ _ => by first | trivial | rfl | simp [*]) (Mod.refl _ _)
    · -- 26: t35 := pick(t29, const(Value.bool(true)), t34)
      intro yv w' hR hF K hK
      have f20 : (yv 20) = .bool true := hF 20 (by kernel_rfl) w' (Mod.refl _ _)
      clear hF
      generalize yv 20 = y20 at *
      subst f20
      go_simp
      exact hK _ _ (fun _ _ => by first | trivial | rfl | simp [*]) (Mod.refl _ _)
    · -- 27: t36 := move(t35)
      intro yv w' hR hF K hK
      have f26 : (yv 26) = .bool true := hF 26 (by kernel_rfl) w' (Mod.refl _ _)
      clear hF
      generalize yv 26 = y26 at *
      subst f26
      go_simp
      exact hK _ _ (fun _ _ => by first | trivial | rfl | simp [*]) (Mod.refl _ _)
    · -- 28: t37 := move(t0)   [guard (27, false)]
      intro yv w' hR hF K hK
      have f27 : (yv 27) = .bool true := hF 27 (by kernel_rfl) w' (Mod.refl _ _)
      clear hF
      generalize yv 27 = y27 at *
      subst f27
      go_simp
      exact hK _ _ (fun _ _ => by first | trivial | rfl | simp [*]) (Mod.refl _ _)
    · -- 29: t38 := CALL F55 (t37)   [guard (27, false)]
      intro yv w' hR hF K hK
      have f27 : (yv 27) = .bool true := hF 27 (by kernel_rfl) w' (Mod.refl _ _)
      clear hF
      generalize yv 27 = y27 at *
      subst f27
      go_simp
      exact hK _ _ (fun _ _ => by first | trivial | rfl | simp [*]) (Mod.refl _ _)
    · -- 30: t39 := fieldAddr(54, t3, 2)   [guard (27, false)]
      intro yv w' hR hF K hK
      have f27 : (yv 27) = .bool true := hF 27 (by kernel_rfl) w' (Mod.refl _ _)
      clear hF
      generalize yv 27 = y27 at *
      subst f27
      go_simp
      exact hK _ _ (fun _ _ => by first | trivial | rfl | simp [*]) (Mod.refl _ _)
    · -- 31: t40 := load(4, t39)   [guard (27, false)]
      intro yv w' hR hF K hK
      have f27 : (yv 27) = .bool true := hF 27 (by kernel_rfl) w' (Mod.refl _ _)
      clear hF
      generalize yv 27 = y27 at *
      subst f27
      go_simp
      exact hK _ _ (fun _ _ => by first | trivial | rfl | simp [*]) (Mod.refl _ _)
    · -- 32: t41 := binOp(neq, 4, t38, t40, 4)   [guard (27, false)]
      intro yv w' hR hF K hK
      have f27 : (yv 27) = .bool true := hF 27 (by kernel_rfl) w' (Mod.refl _ _)
      clear hF
      generalize yv 27 = y27 at *
      subst f27
      go_simp
      exact hK _ _ (fun _ _ => by first | trivial | rfl | simp [*]) (Mod.refl _ _)
    · -- 33: t42 := pick(t36, const(Value.bool(true)), t41)
      intro yv w' hR hF K hK
      have f27 : (yv 27) = .bool true := hF 27 (by kernel_rfl) w' (Mod.refl _ _)
      clear hF
      generalize yv 27 = y27 at *
      subst f27
      go_simp
      exact hK _ _ (fun _ _ => by first | trivial | rfl | simp [*]) (Mod.refl _ _)
    · -- 34: t43 := move(t42)
      intro yv w' hR hF K hK
      have f33 : (yv 33) = .bool true := hF 33 (by kernel_rfl) w' (Mod.refl _ _)
      clear hF
      generalize yv 33 = y33 at *
      subst f33
      go_simp
      exact hK _ _ (fun _ _ => by first | trivial | rfl | simp [*]) (Mod.refl _ _)
    · -- 35: t44 := move(t0)   [guard (34, false)]
      intro yv w' hR hF K hK
      have f34 : (yv 34) = .bool true := hF 34 (by kernel_rfl) w' (Mod.refl _ _)
      clear hF
      generalize yv 34 = y34 at *
      subst f34
      go_simp
      exact hK _ _ (fun _ _ => by first | trivial | rfl | simp [*]) (Mod.refl _ _)
    · -- 36: t45 := CALL F58 (t44)   [guard (34, false)]
      intro yv w' hR hF K hK
      have f34 : (yv 34) = .bool true := hF 34 (by kernel_rfl) w' (Mod.refl _ _)
      clear hF
      generalize yv 34 = y34 at *
      subst f34
      go_simp
      exact hK _ _ (fun _ _ => by first | trivial | rfl | simp [*]) (Mod.refl _ _)
    · -- 37: t46 := fieldAddr(54, t3, 0)   [guard (34, false)]
      intro yv w' hR hF K hK
      have f34 : (yv 34) = .bool true := hF 34 (by kernel_rfl) w' (Mod.refl _ _)
      clear hF
      generalize yv 34 = y34 at *
      subst f34
      go_simp
      exact hK _ _ (fun _ _ => by first | trivial | rfl | simp [*]) (Mod.refl _ _)
    · -- 38: t47 := load(3, t46)   [guard (34, false)]
      intro yv w' hR hF K hK
      have f34 : (yv 34) = .bool true := hF 34 (by kernel_rfl) w' (Mod.refl _ _)
      clear hF
      generalize yv 34 = y34 at *
      subst f34
      go_simp
      exact hK _ _ (fun _ _ => by first | trivial | rfl | simp [*]) (Mod.refl _ _)
    · -- 39: t48 := binOp(neq, 3, t45, t47, 3)   [guard (34, false)]
      intro yv w' hR hF K hK
      have f34 : (yv 34) = .bool true := hF 34 (by kernel_rfl) w' (Mod.refl _ _)
      clear hF
      generalize yv 34 = y34 at *
      subst f34
      go_simp
      exact hK _ _ (fun _ _ => by first | trivial | rfl | simp [*]) (Mod.refl _ _)
    · -- 40: t49 := pick(t43, const(Value.bool(true)), t48)
      intro yv w' hR hF K hK
      have f34 : (yv 34) = .bool true := hF 34 (by kernel_rfl) w' (Mod.refl _ _)
      clear hF
      generalize yv 34 = y34 at *
      subst f34
      go_simp
      exact hK _ _ (fun _ _ => by first | trivial | rfl | simp [*]) (Mod.refl _ _)
    · -- 41: t50 := move(t49)
      intro yv w' hR hF K hK
      have f40 : (yv 40) = .bool true := hF 40 (by kernel_rfl) w' (Mod.refl _ _)
      clear hF
      generalize yv 40 = y40 at *
      subst f40
      go_simp
      exact hK _ _ (fun _ _ => by first | trivial | rfl | simp [*]) (Mod.refl _ _)
    · -- 42: t51 := move(t0)   [guard (41, false)]
      intro yv w' hR hF K hK
      have f41 : (yv 41) = .bool true := hF 41 (by kernel_rfl) w' (Mod.refl _ _)
      clear hF
      generalize yv 41 = y41 at *
      subst f41
      go_simp
      exact hK _ _ (fun _ _ => by first | trivial | rfl | simp [*]) (Mod.refl _ _)
    · -- 43: t52 := CALL F56 (t51)   [guard (41, false)]
      intro yv w' hR hF K hK
      have f41 : (yv 41) = .bool true := hF 41 (by kernel_rfl) w' (Mod.refl _ _)
      clear hF
      generalize yv 41 = y41 at *
      subst f41
      go_simp
      exact hK _ _ (fun _ _ => by first | trivial | rfl | simp [*]) (Mod.refl _ _)
    · -- 44: t53 := unOp(not, 4, t52)   [guard (41, false)]
      intro yv w' hR hF K hK
      have f41 : (yv 41) = .bool true := hF 41 (by kernel_rfl) w' (Mod.refl _ _)
      clear hF
      generalize yv 41 = y41 at *
      subst f41
      go_simp
      exact hK _ _ (fun _ _ => by first | trivial | rfl | simp [*]) (Mod.refl _ _)
    · -- 45: t54 := pick(t50, const(Value.bool(true)), t53)
      intro yv w' hR hF K hK
      have f41 : (yv 41) = .bool true := hF 41 (by kernel_rfl) w' (Mod.refl _ _)
      clear hF
      generalize yv 41 = y41 at *
      subst f41
      go_simp
      exact hK _ _ (fun _ _ => by first | trivial | rfl | simp [*]) (Mod.refl _ _)
  case hE_ =>
    intro yv w' hR hF
    have f0 : (yv 0) = ptr A.vb := hF 0 (by simp) w' (Mod.refl _ _)
    have f1 : InRow w' (yv 1) ((dom F).map fun k : Nat => (k : Int)) := hF 1 (by simp) w' (Mod.refl _ _)
    have f2 : (yv 2) = .agg #[.int .i64 R, .slice ia xs.length ic, .bool act, .slice ea es.length ec] := hF 2 (by simp) w' (Mod.refl _ _)
    have f3 : InRow w' (yv 3) ((dom G).map fun k : Nat => (k : Int)) := hF 3 (by simp) w' (Mod.refl _ _)
    have f4 : (yv 4) = .bool true := hF 4 (by simp) w' (Mod.refl _ _)
    have f5 : (yv 5) = .bool false := hF 5 (by simp) w' (Mod.refl _ _)
    have f6 : (yv 6) = .bool false := hF 6 (by simp) w' (Mod.refl _ _)
    have f7 : (yv 7) = ptr A.vb := hF 7 (by simp) w' (Mod.refl _ _)
    have f8 : (yv 8) = .int .i64 wf := hF 8 (by simp) w' (Mod.refl _ _)
    have f9 : (yv 9) = .agg #[.int .i64 R, .slice ia xs.length ic, .bool act, .slice ea es.length ec] := hF 9 (by simp) w' (Mod.refl _ _)
    have f10 : (yv 10) = .int .i64 wg := hF 10 (by simp) w' (Mod.refl _ _)
    have f11 : (yv 11) = .bool true := hF 11 (by simp) w' (Mod.refl _ _)
    have f12 : (yv 12) = .bool true := hF 12 (by simp) w' (Mod.refl _ _)
    have f13 : (yv 13) = .bool true := hF 13 (by simp) w' (Mod.refl _ _)
    have f19 : (yv 19) = .bool true := hF 19 (by simp) w' (Mod.refl _ _)
    have f20 : (yv 20) = .bool true := hF 20 (by simp) w' (Mod.refl _ _)
    have f26 : (yv 26) = .bool true := hF 26 (by simp) w' (Mod.refl _ _)
    have f27 : (yv 27) = .bool true := hF 27 (by simp) w' (Mod.refl _ _)
    have f33 : (yv 33) = .bool true := hF 33 (by simp) w' (Mod.refl _ _)
    have f34 : (yv 34) = .bool true := hF 34 (by simp) w' (Mod.refl _ _)
    have f40 : (yv 40) = .bool true := hF 40 (by simp) w' (Mod.refl _ _)
    have f41 : (yv 41) = .bool true := hF 41 (by simp) w' (Mod.refl _ _)
    have f45 : (yv 45) = .bool true := hF 45 (by simp) w' (Mod.refl _ _)
    clear hF
    generalize yv 0 = y0 at *
    subst f0
    generalize yv 1 = y1 at *
    generalize yv 2 = y2 at *
    subst f2
    generalize yv 3 = y3 at *
    generalize yv 4 = y4 at *
    subst f4
    generalize yv 5 = y5 at *
    subst f5
    generalize yv 6 = y6 at *
    subst f6
    generalize yv 7 = y7 at *
    subst f7
    generalize yv 8 = y8 at *
    subst f8
    generalize yv 9 = y9 at *
    subst f9
    generalize yv 10 = y10 at *
    subst f10
    generalize yv 11 = y11 at *
    subst f11
    generalize yv 12 = y12 at *
    subst f12
    generalize yv 13 = y13 at *
    subst f13
    generalize yv 19 = y19 at *
    subst f19
    generalize yv 20 = y20 at *
    subst f20
    generalize yv 26 = y26 at *
    subst f26
    generalize yv 27 = y27 at *
    subst f27
    generalize yv 33 = y33 at *
    subst f33
    generalize yv 34 = y34 at *
    subst f34
    generalize yv 40 = y40 at *
    subst f40
    generalize yv 41 = y41 at *
    subst f41
    generalize yv 45 = y45 at *
    subst f45
    have hm9 := (Mod.refl Nowhere W0).drew.trans hR
    have hend := fin.out w' false hm9 (fun e => absurd e hno.out)
    replace hend := Lib.hid hend
    clear f1 f3
    go_wp2
    go_ret
    exact hend.out
/-- A vault that has what the reference has shows it. -/
theorem agrees_ok {w : World} {A : VAt} {m : Mem} {s s' : VSt} {v : Value} {R : Nat} (h : VRep w A m s) (hr : RRep w v R s') (hR : A.Z / 2 = R) (hxn : s.l.length ≤ 1000000) (ha : s'.act = s.act) (hl : s'.l = s.l) (hf : s'.f = s.f) :
    Calls Tryz.prog 47 #[ptr A.vb, v] w fun e w' => ∃ b, e = .returned (.bool b) ∧ (s'.f = s.f → b = true) ∧ Mod Nowhere w w' :=
  agrees_core h hr hR hxn ha hl (by rw [hf]) (by rw [hf])
/-- Whatever a vault has, it is told whether it is what the reference has. -/
theorem agrees_any {w : World} {A : VAt} {m : Mem} {s s' : VSt} {v : Value} {R : Nat} (h : VRep w A m s) (hr : RRep w v R s') (hR : A.Z / 2 = R) (hxn : s.l.length ≤ 1000000) (ha : s'.act = s.act) (hl : s'.l = s.l) :
    Calls Tryz.prog 47 #[ptr A.vb, v] w fun e w' => ∃ b, e = .returned (.bool b) ∧ (s'.f = s.f → b = true) ∧ Mod Nowhere w w' := by
  by_cases hd : dom (sets s.f s.l) = dom (sets s'.f s.l)
  · by_cases hw : wt s.f = wt s'.f
    · exact agrees_core h hr hR hxn ha hl hd hw
    · exact agrees_used h hr hR hxn ha hl hd hw
  · exact agrees_ids h hr hR hxn ha hl hd
end Go.Proofs.YtikkodanpbmmkaaGreat
