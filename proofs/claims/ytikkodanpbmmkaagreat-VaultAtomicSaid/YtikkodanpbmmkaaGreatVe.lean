/-
  The vault: going back, changes at once, and all calls.
-/
import Derived.Test.YtikkodanpbmmkaaGreatG25
import Derived.Test.YtikkodanpbmmkaaGreatG20
set_option linter.unusedVariables false
set_option linter.unusedSimpArgs false
namespace Go.Proofs.YtikkodanpbmmkaaGreat
open Go.RowKit
open Jn Vn
attribute [local go_sem] Oper.semAt_some

theorem run_upto_none {P : Program} {t e : TypeId} {z : Value} {sz bytes : Nat} (ht : P.underlying t = some (.slice e)) (hi : (P.info? e).map (fun i => (i.zero, i.size, i.bytes)) = some (some z, sz, bytes)) (W : World) :
    (Instr.slice t (.slice none 0 0) none (some (.int .i64 0)) none).run P W = .ok (.slice none 0 0) W := by
  obtain ⟨i0, hi0, hz0, hz1, hz2⟩ := info_parts hi
  simp [Instr.slice, Instr.sliceBounds, Instr.sliceBound, run_underlying ht, asIntOf, sizeOf, typeInfo, hi0, hz1]
/-- The changes up to a mark, as a slice. -/
theorem list_upto {W : World} {n ec : Nat} {ea : Option Addr} {xs : List Vx} (he : VcSl W (.slice ea n ec) xs) (hn : n = xs.length) {k : Nat} (hk : k ≤ n) :
    (∀ X, (Instr.slice 78 (.slice ea n ec) none (some (.int .i64 k)) none).run Tryz.prog X = .ok (.slice ea k ec) X) ∧ VcSl W (.slice ea k ec) (xs.take k) := by
  subst hn
  rcases he.sl.2 with ⟨e, h0⟩ | ⟨b, off, cap, cs, e, -, h1, -⟩
  · simp at e
    obtain ⟨rfl, rfl, rfl⟩ := e
    obtain rfl : k = 0 := by simpa using hk
    exact ⟨fun X => run_upto_none Tryz.underlying78 info_cl_chg X, by simpa using he⟩
  · simp at e
    obtain ⟨rfl, rfl⟩ := e
    exact ⟨fun X => run_uptoN Tryz.underlying78 info_cl_chg b off _ ec k (by omega) X, he.take hk⟩
theorem vform {w : World} {lv : Value} {xs : List Vx} (h : VcSl w lv xs) : ∀ x ∈ xs, ∃ a n c, x.1 = .slice a n c := fun x hx => by
  obtain ⟨a, c, e, _⟩ := Sl.len (h.data x hx)
  exact ⟨a, _, c, e⟩
set_option maxRecDepth 100000 in
set_option maxHeartbeats 2000000 in
theorem vBack_ok {w : World} {A : VAt} {m : Mem} {s : VSt} (h : VRep w A m s) (hxn : s.l.length ≤ 1000000) (k : Int) :
    Calls Tryz.prog 54 #[ptr A.vb, .int .i64 k] w (VCall w A m s (vBack s k).1 (vBack s k).2 0) := by
  obtain ⟨P, p, pc, J, bank, end_, ib, lv, xs, h⟩ := h.ex
  have hR := vInside_ok h.stub (show w.cell? ⟨A.vb, 4, none⟩ = some (.bool s.act) from h.bv.cell 4)
  have hal : alive m p = true := h.jr.pg.alive_true
  rw [hal, if_pos rfl] at hR
  have hrun := h.jr.runs
  have hk : ∀ k, VR (w.drewN k) A m P p pc J bank end_ ib lv xs s := fun k => h.fresh ((Mod.refl Nowhere w).drewN k)
  have hmd : ∀ k, Mod A.S w (w.drewN k) := fun k => (Mod.refl A.S w).drewN k
  have hxl : xs.length = s.l.length := by rw [← h.xl, recs_len]
  have hfm := vform h.ls
  unfold vBack
  obtain ⟨act, hact⟩ : ∃ act, s.act = act := ⟨_, rfl⟩
  rw [hact] at hR ⊢
  replace hk := Lib.hid hk
  replace hmd := Lib.hid hmd
  replace hact := Lib.hid hact
  replace hfm := Lib.hid hfm
  obtain ⟨la, lc, rfl, -, -, -⟩ := h.ls.sl.gen
  replace h := Lib.hid h
  cases act
  · rw [if_neg (by simp)]
    rw [if_neg (by simp), show (((14 : Nat)) : Int) = 14 from rfl] at hR
    replace hR := Lib.hid hR
    go_enter Tryz.func54, Tryz.ntmps54
    go_wp2_with fail
    refine hR.out.mono ?_
    rintro e w1 ⟨rfl, n, rfl⟩
    have hfin : VCall w A m s s 14 0 (.returned (errno 14)) (w.drewN n) := VCall.same (hk.out n).rep hrun (hmd.out n)
    replace hfin := Lib.hid hfin
    go_wp2
    go_ret
    exact hfin.out
  · rw [if_pos rfl]
    rw [if_pos rfl, show (((0 : Nat)) : Int) = 0 from rfl] at hR
    rw [← hxl]
    by_cases hbad : k < 0 ∨ (xs.length : Int) < k
    · rw [if_pos hbad]
      replace hR := Lib.hid hR
      replace hxl := Lib.hid hxl
      by_cases h1 : k < 0
      · clear hbad
        go_enter Tryz.func54, Tryz.ntmps54
        go_wp2_with fail
        refine hR.out.mono ?_
        rintro e w1 ⟨rfl, n, rfl⟩
        have hfin : VCall w A m s s 2 0 (.returned (errno 2)) (w.drewN n) := VCall.same (hk.out n).rep hrun (hmd.out n)
        have c5 : (w.drewN n).cell? ⟨A.vb, 5, none⟩ = some (.slice la xs.length lc) := (hk.out n).bv.cell 5
        have cl := (hk.out n).bv.lt
        generalize w.drewN n = w1 at *
        replace hfin := Lib.hid hfin
        go_wp2
        go_ret
        exact hfin.out
      · have h2 : (xs.length : Int) < k := by omega
        clear hbad
        go_enter Tryz.func54, Tryz.ntmps54
        go_wp2_with fail
        refine hR.out.mono ?_
        rintro e w1 ⟨rfl, n, rfl⟩
        have hfin : VCall w A m s s 2 0 (.returned (errno 2)) (w.drewN n) := VCall.same (hk.out n).rep hrun (hmd.out n)
        have c5 : (w.drewN n).cell? ⟨A.vb, 5, none⟩ = some (.slice la xs.length lc) := (hk.out n).bv.cell 5
        have cl := (hk.out n).bv.lt
        generalize w.drewN n = w1 at *
        replace hfin := Lib.hid hfin
        go_wp2
        go_ret
        exact hfin.out
    · rw [if_neg hbad]
      obtain ⟨kn, rfl⟩ : ∃ kn : Nat, k = (kn : Int) := ⟨k.toNat, by omega⟩
      have hkn : kn ≤ xs.length := by omega
      have h1 : ¬ (kn : Int) < 0 := by omega
      have h2 : ¬ (xs.length : Int) < kn := by omega
      rw [show ((kn : Int)).toNat = kn from rfl]
      clear hbad
      replace hR := Lib.hid hR
      replace hxl := Lib.hid hxl
      go_enter Tryz.func54, Tryz.ntmps54
      go_wp2_with fail
      refine hR.out.mono ?_
      rintro e w1 ⟨rfl, n, rfl⟩
      have h1V := hk.out n
      have hm1 := hmd.out n
      generalize w.drewN n = w1 at *
      have c5 : w1.cell? ⟨A.vb, 5, none⟩ = some (.slice la xs.length lc) := h1V.bv.cell 5
      have cl := h1V.bv.lt
      obtain ⟨hrunS, hke⟩ := list_upto h1V.ls rfl hkn
      have hlk : (xs.take kn).length = kn := by rw [List.length_take]; omega
      have hC := Clone_chg hke.sl (vcs_one _ fun x hx => hfm.out x (List.mem_of_mem_take hx)) (by rw [hlk]; have := hxl.out; omega)
      rw [hlk] at hC
      replace hC := Lib.hid hC
      replace h1V := Lib.hid h1V
      replace hm1 := Lib.hid hm1
      replace hke := Lib.hid hke
      replace hlk := Lib.hid hlk
      go_wp2_with fail
      refine hC.out.mono ?_
      rintro e w2 ⟨v2, rfl, hown, -, hm2⟩
      obtain ⟨va, vc, rfl, -⟩ := owns_form hown
      have h2V := h1V.out.fresh hm2
      have k4 : w2.cell? ⟨A.vb, 5, none⟩ = some (.slice la xs.length lc) := h2V.bv.cell 5
      have kz := h2V.bv.frozen
      have kl := h2V.bv.lt
      have hvc : VcSl w2 (.slice va kn vc) (xs.take kn) := by
        refine ⟨by rw [hlk.out]; exact Sl.of_owns hown, fun x hx => (hke.out.fresh hm2).data x hx⟩
      have hms : Mod (fun k => k = A.vb) w2 (w2.setCell ⟨A.vb, 5, none⟩ (.slice va kn vc)) := (Mod.refl (fun k => k = A.vb) w2).setCell (p := ⟨A.vb, 5, none⟩) (fun _ => rfl) _
      have hVs := h2V.set (ib' := ib) (bank' := bank) (end' := end_) (lv' := .slice va kn vc) (xs' := xs.take kn) (s' := ⟨s.f, true, s.l.take kn⟩) hms ((h2V.bv.setCell 5 _).conv (by rw [hact.out]; rfl)) h2V.bk h2V.im hvc (by rw [← h2V.xl]; simp [recs]) (fun r hr => h2V.ok r (List.mem_of_mem_take hr)) (fun e => by cases e)
      have hfin : VCall w A m s ⟨s.f, true, s.l.take kn⟩ 0 0 (.returned (errno 0)) (w2.setCell ⟨A.vb, 5, none⟩ (.slice va kn vc)) := VCall.same hVs.rep hrun ((hm1.out.trans hm2.nowhere).trans (hms.mono fun _ _ h => .inl h))
      replace hfin := Lib.hid hfin
      replace h2V := Lib.hid h2V
      clear hVs hms hvc hown hm2 hC
      go_wp2
      go_ret
      exact hfin.out
/-! ### Changes at once -/
theorem any_ids (nd : Int) (xs : List Vx) : (xs.any fun x => decide (((x.2.1 : Nat) : Int) = nd)) = (recs xs).any fun r => decide (((r.1 : Nat) : Int) = nd) := by
  unfold recs; rw [List.any_map]; rfl
set_option maxRecDepth 100000 in
set_option maxHeartbeats 4000000 in
theorem vNow_ok {w : World} {A : VAt} {m : Mem} {s : VSt} (h : VRep w A m s) (hxn : s.l.length ≤ 1000000) (nd : Int) {v : Value} {d : List Nat} (hd : Src w v d) (hb : Bytes d) (hdn : d.length ≤ 1099511627776) (hrm : Room m (vcost A)) :
    Calls Tryz.prog 50 #[ptr A.vb, .int .i64 nd, v] w (VCall w A m s (vNow A.Z s nd d).1 (vNow A.Z s nd d).2 (vcost A)) := by
  obtain ⟨P, p, pc, J, bank, end_, ib, lv, xs, h⟩ := h.ex
  have hd0 := hd
  obtain ⟨va, vc, rfl, -⟩ := hd
  obtain ⟨W0, hW0⟩ : ∃ W0, w.alloc (.cells #[.int .i64 nd] 3) = W0 := ⟨_, rfl⟩
  have hm0 : Mod Nowhere w W0 := by rw [← hW0]; exact (Mod.refl _ w).alloc _
  have hbx : Blk W0 w.heap.size [.int .i64 nd] 3 := by rw [← hW0]; exact Blk.new' rfl rfl
  have hal : alive m p = true := h.jr.pg.alive_true
  have hBg := vBegun_ok (h.fresh hm0).stub nd va d.length vc hdn
  rw [hal] at hBg
  have hrun := h.jr.runs
  have hxl : xs.length = s.l.length := by rw [← h.xl, recs_len]
  have hfm := vform h.ls
  have hokx : ∀ x ∈ xs, ROk x.2 := fun x hx => h.ok _ (by rw [← h.xl]; exact List.mem_map_of_mem hx)
  have h33 : 33 ≤ A.count := by have := h.jr.c33; rw [h.of.count] at this; exact this
  have h16 : A.count ≤ 65536 := by have := h.jr.pg.rep.c16; rw [h.of.count] at this; exact this
  have hiok := h.bk.iok
  have hsl := h.ok
  have hV := fun W (hm : Mod Nowhere W0 W) => (h.fresh hm0).fresh hm
  have kx : W0.cell? ⟨w.heap.size, 0, none⟩ = some (.int .i64 nd) := hbx.cell 0
  have kl := hbx.lt
  have hkx : ∀ W, Mod Nowhere W0 W → W.cell? ⟨w.heap.size, 0, none⟩ = some (.int .i64 nd) := fun W hm => (hbx.mod hm (fun e => e)).cell 0
  have hdW := fun W (hm : Mod Nowhere W0 W) => (hd0.fresh hm0).fresh hm
  have hany := any_ids nd xs
  rw [h.xl] at hany
  obtain ⟨lb, lc, rfl, -, -, -⟩ := h.ls.sl.gen
  obtain ⟨q, hq⟩ : ∃ q, vNow A.Z s nd d = q := ⟨_, rfl⟩
  rw [hq]
  unfold vNow at hq
  have hvb := fun (hv : validB nd d.length = true) => validB_ok hv hb
  obtain ⟨bv, hbv⟩ : ∃ bv, validB nd d.length = bv := ⟨_, rfl⟩
  rw [hbv] at hBg hq hvb
  have hVC : ∀ (W : World) (er : Nat), Mod Nowhere w W → q = (s, er) → VCall w A m s q.1 q.2 (vcost A) (.returned (errno er)) W := fun W er hm e => by
    rw [e]; exact VCall.same (h.fresh hm).rep hrun hm.nowhere
  replace hV := Lib.hid hV
  replace hm0 := Lib.hid hm0
  replace hbx := Lib.hid hbx
  replace hq := Lib.hid hq
  replace hvb := Lib.hid hvb
  replace hbv := Lib.hid hbv
  replace hkx := Lib.hid hkx
  replace hdW := Lib.hid hdW
  replace hfm := Lib.hid hfm
  replace hokx := Lib.hid hokx
  replace hany := Lib.hid hany
  replace hVC := Lib.hid hVC
  replace hal := Lib.hid hal
  replace hd0 := Lib.hid hd0
  replace hiok := Lib.hid hiok
  replace hsl := Lib.hid hsl
  have hVV := Lib.hid h
  clear h
  cases bv
  · rw [if_neg (by simp), show (((1 : Nat)) : Int) = 1 from rfl] at hBg
    have hqq : q = (s, 1) := by rw [← hq.out]; rfl
    replace hqq := Lib.hid hqq
    replace hBg := Lib.hid hBg
    replace hxl := Lib.hid hxl
    generalize d.length = dl at *
    go_enter Tryz.func50, Tryz.ntmps50
    go_wp2_with fail
    replace hW0 := Lib.hid hW0
    refine hBg.out.mono ?_
    rintro e w1 ⟨rfl, n, rfl⟩
    have hfin := hVC.out (W0.drewN n) 1 (hm0.out.trans ((Mod.refl _ W0).drewN n)) hqq.out
    replace hfin := Lib.hid hfin
    go_wp2
    go_ret
    exact hfin.out
  · rw [if_pos rfl, show ((okE true : Nat) : Int) = 0 from rfl] at hBg
    obtain ⟨hrok, hid⟩ := hvb.out rfl
    replace hBg := Lib.hid hBg
    obtain ⟨dl, hdl⟩ : ∃ dl, d.length = dl := ⟨_, rfl⟩
    have hCl := fun W (hm : Mod Nowhere W0 W) => Clone_src (hdW.out W hm) hdn
    have hCo := fun W (hm : Mod Nowhere W0 W) => ContainsFunc_vc (hV.out W hm).ls (by omega) 98 #[.pointer (some ⟨w.heap.size, 0, none⟩)] (enters_of Tryz.func98 (by kernel_rfl) rfl) (fun x => decide (((x.2.1 : Nat) : Int) = nd)) (fun x hx wr hmr => by
      obtain ⟨xa, xn, xc, ex⟩ := hfm.out x hx
      exact vSameId_ok (hkx.out wr (hm.trans hmr)) x ex)
    rw [hany.out] at hCo
    rw [hdl] at hCl hBg ⊢
    obtain ⟨bs_, hbs⟩ : ∃ bs_, (s.l.any fun r => decide (((r.1 : Nat) : Int) = nd)) = bs_ := ⟨_, rfl⟩
    rw [hbs] at hCo
    replace hCl := Lib.hid hCl
    replace hCo := Lib.hid hCo
    replace hbs := Lib.hid hbs
    replace hxl := Lib.hid hxl
    replace hrok := Lib.hid hrok
    replace hid := Lib.hid hid
    replace hdl := Lib.hid hdl
    cases bs_
    case true =>
      have hqq : q = (s, 14) := by rw [← hq.out, if_pos rfl, if_pos hbs.out]
      replace hqq := Lib.hid hqq
      go_enter Tryz.func50, Tryz.ntmps50
      go_wp2_with fail
      replace hW0 := Lib.hid hW0
      refine hBg.out.mono ?_
      rintro e w1 ⟨rfl, n, rfl⟩
      have hm1 : Mod Nowhere W0 (W0.drewN n) := (Mod.refl _ W0).drewN n
      have c5 : (W0.drewN n).cell? ⟨A.vb, 5, none⟩ = some (.slice lb xs.length lc) := (hV.out _ hm1).bv.cell 5
      have cl := (hV.out _ hm1).bv.lt
      have hC1 := hCo.out _ hm1
      replace hC1 := Lib.hid hC1
      generalize W0.drewN n = w1 at *
      go_wp2_with fail
      refine hC1.out.mono ?_
      rintro e w2 ⟨rfl, hm2⟩
      have hfin := hVC.out w2 14 ((hm0.out.trans hm1).trans hm2) hqq.out
      replace hfin := Lib.hid hfin
      go_wp2
      go_ret
      exact hfin.out
    case false =>
      have hne : ∀ x ∈ s.l, x.1 ≠ ((nd.toNat, some d) : Rec).1 := fun x hx e => by
        have := List.any_eq_false.1 hbs.out x hx
        have h2 := hid.out
        simp only [decide_eq_true_eq] at this
        apply this
        rw [e]; exact h2
      obtain ⟨F1, hF1⟩ : ∃ F1, set1 s.f (nd.toNat, some d) = F1 := ⟨_, rfl⟩
      obtain ⟨F2, hF2⟩ : ∃ F2, sets F1 s.l = F2 := ⟨_, rfl⟩
      have hsw : set1 (sets s.f s.l) (nd.toNat, some d) = F2 := by rw [sets_swap _ _ _ hne, hF1, hF2]
      have hI1 : IOk F1 := by rw [← hF1]; exact hiok.out.set1 hrok.out
      have hI2 : IOk F2 := by rw [← hF2]; exact hI1.sets _ hsl.out
      have hqq : q = if A.Z / 2 < wt F1 ∨ A.Z / 2 < wt F2 then (s, 10) else ({ s with f := F1 }, 0) := by
        rw [← hq.out, if_pos rfl, if_neg (by rw [hbs.out]; simp), hF1, hF2]
      obtain ⟨R, hRe⟩ : ∃ R, A.Z / 2 = R := ⟨_, rfl⟩
      rw [hRe] at hqq
      replace hqq := Lib.hid hqq
      replace hne := Lib.hid hne
      replace hsw := Lib.hid hsw
      replace hI1 := Lib.hid hI1
      replace hI2 := Lib.hid hI2
      replace hF1 := Lib.hid hF1
      replace hF2 := Lib.hid hF2
      replace hRe := Lib.hid hRe
      clear hq
      go_enter Tryz.func50, Tryz.ntmps50
      go_wp2_with fail
      replace hW0 := Lib.hid hW0
      refine hBg.out.mono ?_
      rintro e w1 ⟨rfl, n, rfl⟩
      have hm1 : Mod Nowhere W0 (W0.drewN n) := (Mod.refl _ W0).drewN n
      have c5 : (W0.drewN n).cell? ⟨A.vb, 5, none⟩ = some (.slice lb xs.length lc) := (hV.out _ hm1).bv.cell 5
      have cl := (hV.out _ hm1).bv.lt
      have hC1 := hCo.out _ hm1
      replace hC1 := Lib.hid hC1
      generalize W0.drewN n = w1 at *
      replace hm1 := Lib.hid hm1
      go_wp2_with fail
      refine hC1.out.mono ?_
      rintro e w2 ⟨rfl, hm2'⟩
      have hm2 := hm1.out.trans hm2'
      have kx2 := hkx.out w2 hm2
      have kl2 : w.heap.size < w2.heap.size := Nat.lt_of_lt_of_le kl hm2.size
      have hCl2 := hCl.out w2.drew hm2.drew
      replace hCl2 := Lib.hid hCl2
      replace hm2 := Lib.hid hm2
      clear hm2' c5 cl hC1
      go_wp2_with fail
      go_region_held3 (fun w' => w'.cell? ⟨w.heap.size, 0, none⟩ = some (.int .i64 nd)) (simp [*, World.cell?_alloc_some, World.cell?_setCell_far, World.cell?_setCell_other])
        (first
          | (go_at_call 88; (with_reducible refine hCl2.out.mono ?_); rintro e w3 ⟨ca, cc, rfl, hown, hm3'⟩; have hm3 := hm2.out.drew.trans hm3'; have hds : DSl w3 (.slice ca dl cc) d := (by have h9 := Sl.of_owns hown; rw [DSl, hdl.out]; exact h9); have kx3 := hkx.out w3 hm3; replace hm3 := Lib.hid hm3; replace hds := Lib.hid hds; clear hown hm3')
          | fail)
      have c33 : w3.cell? ⟨A.vb, 3, none⟩ = some (.map (some ib)) := (hV.out _ hm3.out).bv.cell 3
      have cl3 := (hV.out _ hm3.out).bv.lt
      obtain ⟨W4, hW4⟩ : ∃ W4, w3.alloc (.cells #[.int .i64 nd, .slice ca dl cc, .bool false] 117) = W4 := ⟨_, rfl⟩
      have hm34 : Mod Nowhere w3 W4 := by rw [← hW4]; exact (Mod.refl _ w3).alloc _
      have hb4 : Blk W4 w3.heap.size [.int .i64 nd, .slice ca dl cc, .bool false] 117 := by rw [← hW4]; exact Blk.new' rfl rfl
      have hm4 := hm3.out.trans hm34
      have hV4 := hV.out W4 hm4
      obtain ⟨ys, hys⟩ : ∃ ys : List Vx, [(.slice ca dl cc, (nd.toNat, some d))] = ys := ⟨_, rfl⟩
      have hyr : recs ys = [(nd.toNat, some d)] := by rw [← hys]; rfl
      have hyl : ys.length = 1 := by rw [← hys]; rfl
      have hvc4 : VcSl W4 (.slice (some ⟨w3.heap.size, 0, none⟩) 1 1) ys := by
        refine ⟨?_, fun x hx => ?_⟩
        · rw [hyl, ← hys, show vcsCells [(Value.slice ca dl cc, (nd.toNat, some d))] = [.int .i64 nd, .slice ca dl cc, .bool false] by
            show [Value.int .i64 ((nd.toNat : Nat) : Int), .slice ca dl cc, .bool false] = _
            rw [show ((nd.toNat : Nat) : Int) = nd from hid.out]]
          exact Sl.whole hb4 rfl (by decide)
        · rw [← hys] at hx
          have e := List.mem_singleton.1 hx
          subst e
          exact hds.out.fresh hm34
      have hoky : ∀ y ∈ ys, ROk y.2 := fun y hy => by
        rw [← hys] at hy
        rw [List.mem_singleton.1 hy]; exact hrok.out
      have hidy : ∀ y ∈ ys, y.2.1 < 4097 := fun y hy => by have := (hoky y hy).hi; omega
      have hA1 := vApply_ok hV4.im hvc4 hidy (by omega)
      rw [hyr, show sets s.f [(nd.toNat, some d)] = set1 s.f (nd.toNat, some d) from rfl, hF1.out] at hA1
      have hcl4 : ∀ W, Mod Nowhere W4 W → VR W A m P p pc J bank end_ ib (.slice lb xs.length lc) xs s ∧ VcSl W (.slice (some ⟨w3.heap.size, 0, none⟩) 1 1) ys := fun W hm => ⟨hV4.fresh hm, hvc4.fresh hm⟩
      have hmw4 := hm0.out.trans hm4
      have c34 : W4.cell? ⟨A.vb, 3, none⟩ = some (.map (some ib)) := hV4.bv.cell 3
      have cl4 := hV4.bv.lt
      replace hA1 := Lib.hid hA1
      replace hcl4 := Lib.hid hcl4
      replace hmw4 := Lib.hid hmw4
      replace hoky := Lib.hid hoky
      replace hidy := Lib.hid hidy
      replace hyr := Lib.hid hyr
      replace hyl := Lib.hid hyl
      replace hys := Lib.hid hys
      clear hV4 hvc4 hm4 hm34 hb4 hds
      go_wp2_with fail
      replace hW4 := Lib.hid hW4
      refine hA1.out.mono ?_
      rintro e w5 ⟨b5, rfl, -, hmp5, hm5⟩
      have hWt5 := vWeight_ok hmp5 hI1.out
      replace hWt5 := Lib.hid hWt5
      replace hm5 := Lib.hid hm5
      clear hmp5 hA1
      go_wp2_with fail
      refine hWt5.out.mono ?_
      rintro e w6 ⟨rfl, hm6⟩
      have hm46 := hm5.out.trans hm6
      have hSe := vSeen_ok (hcl4.out w6 hm46).1 (by have := hxl.out; omega)
      replace hSe := Lib.hid hSe
      replace hm46 := Lib.hid hm46
      clear hm6 hWt5
      go_wp2_with fail
      refine hSe.out.mono ?_
      rintro e w7 ⟨b7, rfl, -, hmp7, hm7⟩
      have hm47 := hm46.out.trans hm7
      have hA7 := vApply_ok hmp7 (hcl4.out w7 hm47).2 hidy.out (by have := hyl.out; omega)
      rw [hyr.out, show sets (sets s.f s.l) [(nd.toNat, some d)] = set1 (sets s.f s.l) (nd.toNat, some d) from rfl, hsw.out] at hA7
      replace hA7 := Lib.hid hA7
      replace hm47 := Lib.hid hm47
      clear hmp7 hm7 hSe
      go_wp2_with fail
      refine hA7.out.mono ?_
      rintro e w8 ⟨b8, rfl, -, hmp8, hm8⟩
      have hWt8 := vWeight_ok hmp8 hI2.out
      have hm48 := hm47.out.trans hm8
      replace hWt8 := Lib.hid hWt8
      replace hm48 := Lib.hid hm48
      clear hmp8 hm8 hA7
      go_wp2_with fail
      refine hWt8.out.mono ?_
      rintro e w9 ⟨rfl, hm9⟩
      have hm49 := hm48.out.trans hm9
      have hV9 := (hcl4.out w9 hm49).1
      have hRm := vRoom_ok hV9.stub hV9.of h33 h16
      rw [hRe.out] at hRm
      replace hRm := Lib.hid hRm
      have hm09 := hmw4.out.trans hm49
      by_cases hfu : R < wt F1 ∨ R < wt F2
      · have hfin := hVC.out w9 10 hm09 (by rw [hqq.out, if_pos hfu])
        replace hfin := Lib.hid hfin
        have hmx : (R : Int) < max ((wt F1 : Nat) : Int) ((wt F2 : Nat) : Int) := by omega
        clear hm9 hV9
        go_wp2_with (go_at_call 102; (with_reducible refine hRm.out.mono ?_); rintro e w10 ⟨rfl, rfl⟩)
        go_ret
        exact hfin.out
      · have hmx : ¬ (R : Int) < max ((wt F1 : Nat) : Int) ((wt F2 : Nat) : Int) := by omega
        have hSt := vStore_ok hV9 (hcl4.out w9 hm49).2 hoky.out (by have := hyl.out; omega) (by rw [hyr.out, show sets s.f [(nd.toNat, some d)] = set1 s.f (nd.toNat, some d) from rfl, hF1.out, hRe.out]; omega) hrm
        rw [hyr.out, show sets s.f [(nd.toNat, some d)] = set1 s.f (nd.toNat, some d) from rfl, hF1.out] at hSt
        replace hSt := Lib.hid hSt
        have hq2 : q = ({ s with f := F1 }, 0) := by rw [hqq.out, if_neg hfu]
        replace hq2 := Lib.hid hq2
        replace hm09 := Lib.hid hm09
        clear hm9 hV9 hfu
        go_wp2_with (go_at_call 102; (with_reducible refine hRm.out.mono ?_); rintro e w10 ⟨rfl, rfl⟩)
        refine hSt.out.mono ?_
        rintro e w11 hpost
        have hfin : VCall w A m s q.1 q.2 (vcost A) e w11 := by
          rw [hq2.out]; exact (hpost.call).from (hm09.out.nowhere)
        obtain ⟨ne, rfl⟩ := hfin.errno
        replace hfin := Lib.hid hfin
        clear hpost
        go_wp2
        go_ret
        exact hfin.out
/-! ### All calls -/
theorem VCall.more {w w' : World} {A : VAt} {m : Mem} {s s' : VSt} {er n n' : Nat} {e : Ending} (h : VCall w A m s s' er n e w') (hn : n ≤ n') : VCall w A m s s' er n' e w' := by
  rcases h with ⟨m', k, a, b, c, d⟩ | ⟨m', f, a, b, c, d, e⟩
  · exact .inl ⟨m', k, a, b, Nat.le_trans c hn, d⟩
  · exact .inr ⟨m', f, a, b, c, d.mono hn, e⟩
set_option maxRecDepth 100000 in
set_option maxHeartbeats 4000000 in
theorem vDo_ok {w : World} {A : VAt} {m : Mem} {s : VSt} (h : VRep w A m s) (hxn : s.l.length ≤ 1000000) (op nd : Int) {v : Value} {d : List Nat} (hd : Src w v d) (hb : Bytes d) (hdn : d.length ≤ 1099511627776) (hrm : Room m (vcost A)) :
    Calls Tryz.prog 38 #[ptr A.vb, .agg #[.int .i64 op, .int .i64 nd, v]] w (VCall w A m s (vDo A.Z s op nd d).1 (vDo A.Z s op nd d).2 (vcost A)) := by
  have hd0 := hd
  obtain ⟨va, vc, rfl, -⟩ := hd
  obtain ⟨dl, hdl⟩ : ∃ dl, d.length = dl := ⟨_, rfl⟩
  rw [hdl] at hd0 ⊢
  obtain ⟨W0, hW0⟩ : ∃ W0, w.alloc (.cells #[.int .i64 op, .int .i64 nd, .slice va dl vc] 60) = W0 := ⟨_, rfl⟩
  have hm0 : Mod Nowhere w W0 := by rw [← hW0]; exact (Mod.refl _ w).alloc _
  have hbx : Blk W0 w.heap.size [.int .i64 op, .int .i64 nd, .slice va dl vc] 60 := by rw [← hW0]; exact Blk.new' rfl rfl
  have k0 : W0.cell? ⟨w.heap.size, 0, none⟩ = some (.int .i64 op) := hbx.cell 0
  have k1 : W0.cell? ⟨w.heap.size, 1, none⟩ = some (.int .i64 nd) := hbx.cell 1
  have k2 : W0.cell? ⟨w.heap.size, 2, none⟩ = some (.slice va dl vc) := hbx.cell 2
  have kl := hbx.lt
  have hV := h.fresh hm0
  have hdW := hd0.fresh hm0
  have cPut := vPutS_ok hV hxn nd hdW hb hdn hrm
  have cDel := vDelete_ok hV hxn nd hrm
  have cNow := vNow_ok hV hxn nd hdW hb hdn hrm
  have cBeg := vBegin_ok hV
  have cCom := vCommit_ok hV hxn hrm
  have cAbo := vAbort_ok hV
  have cBac := vBack_ok hV hxn nd
  obtain ⟨q, hq⟩ : ∃ q, vDo A.Z s op nd d = q := ⟨_, rfl⟩
  rw [hq]
  have fin : ∀ e w', VCall W0 A m s q.1 q.2 (vcost A) e w' → VCall w A m s q.1 q.2 (vcost A) e w' := fun e w' hc => hc.from (hm0.nowhere (S := A.S))
  replace hq := Lib.hid hq
  replace fin := Lib.hid fin
  replace cPut := Lib.hid cPut
  replace cDel := Lib.hid cDel
  replace cNow := Lib.hid cNow
  replace cBeg := Lib.hid cBeg
  replace cCom := Lib.hid cCom
  replace cAbo := Lib.hid cAbo
  replace cBac := Lib.hid cBac
  replace hdl := Lib.hid hdl
  clear h hd0 hV hdW hm0 hbx hdn hrm hb
  by_cases h0 : op = 0
  · have hqq : q = vPut A.Z s nd d := by rw [← hq.out]; unfold vDo; rw [if_pos h0]
    subst hqq
    clear hq
    subst h0
    go_enter Tryz.func38, Tryz.ntmps38
    go_wp2_with fail
    replace hW0 := Lib.hid hW0
    refine cPut.out.mono ?_
    rintro e w5 hc
    have hfin := fin.out _ _ hc
    obtain ⟨ne, rfl⟩ := hfin.errno
    replace hfin := Lib.hid hfin
    clear hc
    go_wp2
    go_ret
    exact hfin.out
  by_cases h1 : op = 1
  · have hqq : q = vDel A.Z s nd := by rw [← hq.out]; unfold vDo; rw [if_neg h0]; rw [if_pos h1]
    subst hqq
    clear hq
    subst h1
    go_enter Tryz.func38, Tryz.ntmps38
    go_wp2_with fail
    replace hW0 := Lib.hid hW0
    refine cDel.out.mono ?_
    rintro e w5 hc
    have hfin := fin.out _ _ hc
    obtain ⟨ne, rfl⟩ := hfin.errno
    replace hfin := Lib.hid hfin
    clear hc
    go_wp2
    go_ret
    exact hfin.out
  by_cases h2 : op = 2
  · have hqq : q = vNow A.Z s nd d := by rw [← hq.out]; unfold vDo; rw [if_neg h0]; rw [if_neg h1]; rw [if_pos h2]
    subst hqq
    clear hq
    subst h2
    go_enter Tryz.func38, Tryz.ntmps38
    go_wp2_with fail
    replace hW0 := Lib.hid hW0
    refine cNow.out.mono ?_
    rintro e w5 hc
    have hfin := fin.out _ _ hc
    obtain ⟨ne, rfl⟩ := hfin.errno
    replace hfin := Lib.hid hfin
    clear hc
    go_wp2
    go_ret
    exact hfin.out
  by_cases h3 : op = 3
  · have hqq : q = vBegin s := by rw [← hq.out]; unfold vDo; rw [if_neg h0]; rw [if_neg h1]; rw [if_neg h2]; rw [if_pos h3]
    subst hqq
    clear hq
    subst h3
    go_enter Tryz.func38, Tryz.ntmps38
    go_wp2_with fail
    replace hW0 := Lib.hid hW0
    refine cBeg.out.mono ?_
    rintro e w5 hc
    have hfin := fin.out _ _ (hc.more (Nat.zero_le _))
    obtain ⟨ne, rfl⟩ := hfin.errno
    replace hfin := Lib.hid hfin
    clear hc
    go_wp2
    go_ret
    exact hfin.out
  by_cases h4 : op = 4
  · have hqq : q = vCommit A.Z s := by rw [← hq.out]; unfold vDo; rw [if_neg h0]; rw [if_neg h1]; rw [if_neg h2]; rw [if_neg h3]; rw [if_pos h4]
    subst hqq
    clear hq
    subst h4
    go_enter Tryz.func38, Tryz.ntmps38
    go_wp2_with fail
    replace hW0 := Lib.hid hW0
    refine cCom.out.mono ?_
    rintro e w5 hc
    have hfin := fin.out _ _ hc
    obtain ⟨ne, rfl⟩ := hfin.errno
    replace hfin := Lib.hid hfin
    clear hc
    go_wp2
    go_ret
    exact hfin.out
  by_cases h5 : op = 5
  · have hqq : q = vAbort s := by rw [← hq.out]; unfold vDo; rw [if_neg h0]; rw [if_neg h1]; rw [if_neg h2]; rw [if_neg h3]; rw [if_neg h4]; rw [if_pos h5]
    subst hqq
    clear hq
    subst h5
    go_enter Tryz.func38, Tryz.ntmps38
    go_wp2_with fail
    replace hW0 := Lib.hid hW0
    refine cAbo.out.mono ?_
    rintro e w5 hc
    have hfin := fin.out _ _ (hc.more (Nat.zero_le _))
    obtain ⟨ne, rfl⟩ := hfin.errno
    replace hfin := Lib.hid hfin
    clear hc
    go_wp2
    go_ret
    exact hfin.out
  have hqq : q = vBack s nd := by rw [← hq.out]; unfold vDo; rw [if_neg h0]; rw [if_neg h1]; rw [if_neg h2]; rw [if_neg h3]; rw [if_neg h4]; rw [if_neg h5]
  subst hqq
  clear hq
  go_enter Tryz.func38, Tryz.ntmps38
  go_wp2_with fail
  replace hW0 := Lib.hid hW0
  refine cBac.out.mono ?_
  rintro e w5 hc
  have hfin := fin.out _ _ (hc.more (Nat.zero_le _))
  obtain ⟨ne, rfl⟩ := hfin.errno
  replace hfin := Lib.hid hfin
  clear hc
  go_wp2
  go_ret
  exact hfin.out
end Go.Proofs.YtikkodanpbmmkaaGreat
