/-
  The reference of the vault: deleting, committing, going back.
-/
import Derived.Test.YtikkodanpbmmkaaGreatG24
import Derived.Test.YtikkodanpbmmkaaGreatG25
import Derived.Test.YtikkodanpbmmkaaGreatInp
import Derived.Test.YtikkodanpbmmkaaGreatG23
import Derived.Deep.QuietTactic
import Derived.BigQuiet
set_option linter.unusedVariables false
set_option linter.unusedSimpArgs false
namespace Go.Proofs.YtikkodanpbmmkaaGreat
open Go.RowKit
open Jn Vn
attribute [local go_sem] Oper.semAt_some

set_option maxRecDepth 100000 in
set_option maxHeartbeats 2000000 in
theorem rDelete_ok {w : World} {v : Value} {R Z : Nat} {s : VSt} (h : RRep w v R s) (hR : Z / 2 = R) (nd : Int) (hn : s.l.length ≤ 8000) :
    Calls Tryz.prog 83 #[v, .int .i64 nd] w (RPost w R (vDel Z s nd).1 (vDel Z s nd).2) := by
  have h0 := h
  obtain ⟨iv, ev, xs, es, rfl, hs⟩ := h.ex
  obtain ⟨ia, ic, rfl, -⟩ := hs.it.sl.gen
  obtain ⟨ea, ec, rfl, -⟩ := hs.ed.sl.gen
  have hI := fun W => rIsItem_ok (w := W) nd none 0 0 (by omega)
  obtain ⟨act, hact⟩ : ∃ act, s.act = act := ⟨_, rfl⟩
  rw [hact] at h0 ⊢
  obtain ⟨W0, hW0⟩ : ∃ W0, (w.alloc (.cells #[.int .i64 R, .slice ia xs.length ic, .bool act, .slice ea es.length ec] 54)).alloc (.cells #[.int .i64 0, .slice none 0 0, .bool false, .slice none 0 0] 54) = W0 := ⟨_, rfl⟩
  obtain ⟨hm0, hb1, hb2, hz⟩ := two_blocks _ _ _ _ _ hW0
  obtain ⟨⟨k0, k1, k2, k3⟩, ⟨k4, k5, k6, k7⟩, k8, k9, k10, k11⟩ := two_cells hb1 hb2
  have hcl : ∀ W, Mod Nowhere W0 W → _ := fun W hm => two_cells (hb1.mod hm id) (hb2.mod hm id)
  unfold vDel
  obtain ⟨bv, hbv⟩ : ∃ bv, validB nd 0 = bv := ⟨_, rfl⟩
  rw [hbv] at hI ⊢
  have hs0 := hs.fresh hm0
  have hG := rGet_ok (h0.fresh hm0) nd
  obtain ⟨o, ho⟩ : ∃ o, at_ (sets s.f s.l) nd = o := ⟨_, rfl⟩
  rw [ho] at hG ⊢
  have hCh := fun (hv : validB nd 0 = true) W (hm : Mod Nowhere W0 W) => rChange_ok (r := (nd.toNat, none)) ((h0.fresh hm0).fresh hm) hR (show DSl W (.slice none 0 0) (((nd.toNat, none) : Rec).2.getD []) from Sl.nil _ _ _) (validB_none hv).1 hn
  have hid := fun (hv : validB nd 0 = true) => (validB_none hv).2.1
  obtain ⟨s', hs'⟩ : ∃ s', (vChange Z s (nd.toNat, none)).1 = s' := ⟨_, rfl⟩
  obtain ⟨er, her⟩ : ∃ er, (vChange Z s (nd.toNat, none)).2 = er := ⟨_, rfl⟩
  simp only [hs', her] at hCh
  replace hI := Lib.hid hI
  replace hG := Lib.hid hG
  replace ho := Lib.hid ho
  replace hCh := Lib.hid hCh
  replace hid := Lib.hid hid
  replace hs0 := Lib.hid hs0
  replace hm0 := Lib.hid hm0
  replace hb1 := Lib.hid hb1
  replace hb2 := Lib.hid hb2
  replace hact := Lib.hid hact
  replace hcl := Lib.hid hcl
  replace hs' := Lib.hid hs'
  replace her := Lib.hid her
  replace hbv := Lib.hid hbv
  replace hz := Lib.hid hz
  clear h h0 hs
  cases bv
  · rw [if_neg Bool.false_ne_true]
    go_enter Tryz.func83, Tryz.ntmps83
    go_wp2_with fail
    replace hW0 := Lib.hid hW0
    refine (hI.out _).mono ?_
    rintro e w1 ⟨rfl, rfl⟩
    go_wp2
    exact st_end rfl rfl rfl hm0.out (Nat.le_refl _) (by omega) hb1.out hb2.out (by omega) (Mod.refl _ _) hs0.out (by exact hact.out)
  · rw [if_pos rfl]
    have hi := hid.out hbv.out
    have hC := hCh.out hbv.out
    simp only [show (((nd.toNat, none) : Rec).1 : Int) = nd from hi, show ((nd.toNat, none) : Rec).2.isNone = true from rfl] at hC
    replace hC := Lib.hid hC
    cases o with
    | none =>
      rw [if_neg (by simp)]
      go_enter Tryz.func83, Tryz.ntmps83
      go_wp2_with fail
      replace hW0 := Lib.hid hW0
      refine (hI.out _).mono ?_
      rintro e w1 ⟨rfl, rfl⟩
      go_wp2_with fail
      refine hG.out.mono ?_
      rintro e w2 ⟨gv, rfl, hgd, hm2⟩
      obtain ⟨ga, gc, rfl, -⟩ := Sl.len hgd
      clear k0 k1 k2 k3 k4 k5 k6 k7 k8 k9 k10 k11
      obtain ⟨⟨k0, k1, k2, k3⟩, ⟨k4, k5, k6, k7⟩, k8, k9, k10, k11⟩ := hcl.out w2 hm2
      clear hgd
      go_wp2
      exact st_end rfl rfl rfl (hm0.out.trans hm2) (Nat.le_refl _) (by omega) (hb1.out.mod hm2 (fun e => e)) (hb2.out.mod hm2 (fun e => e)) (by omega) (Mod.refl _ _) (hs0.out.fresh hm2) (by exact hact.out)
    | some d =>
      rw [if_pos (by simp), hs'.out, her.out]
      go_enter Tryz.func83, Tryz.ntmps83
      go_wp2_with fail
      replace hW0 := Lib.hid hW0
      refine (hI.out _).mono ?_
      rintro e w1 ⟨rfl, rfl⟩
      go_wp2_with fail
      refine hG.out.mono ?_
      rintro e w2 ⟨gv, rfl, hgd, hm2⟩
      obtain ⟨ga, gc, rfl, -⟩ := Sl.len hgd
      clear k0 k1 k2 k3 k4 k5 k6 k7 k8 k9 k10 k11
      obtain ⟨⟨k0, k1, k2, k3⟩, ⟨k4, k5, k6, k7⟩, k8, k9, k10, k11⟩ := hcl.out w2 hm2
      have hC2 := hC.out w2 hm2
      replace hC2 := Lib.hid hC2
      replace hm2 := Lib.hid hm2
      clear hgd
      go_wp2_with fail
      refine hC2.out.mono ?_
      rintro e w5 ⟨v5, rfl, hr5, hm5⟩
      obtain ⟨iv5, ev5, ys5, es5, rfl, hs5⟩ := hr5.ex
      obtain ⟨a5, c5, rfl, -⟩ := hs5.it.sl.gen
      obtain ⟨b5, d5, rfl, -⟩ := hs5.ed.sl.gen
      clear k0 k1 k2 k3 k4 k5 k6 k7 k8 k9 k10 k11
      have hm05 := hm2.out.trans hm5
      obtain ⟨⟨k0, k1, k2, k3⟩, ⟨k4, k5, k6, k7⟩, k8, k9, k10, k11⟩ := hcl.out w5 hm05
      replace hs5 := Lib.hid hs5
      replace hm05 := Lib.hid hm05
      clear hr5 hm5
      go_wp2
      exact st_end rfl rfl rfl (hm0.out.trans hm05.out) (Nat.le_refl _) (by omega) (hb1.out.mod hm05.out (fun e => e)) (hb2.out.mod hm05.out (fun e => e)) (by omega) (Mod.refl _ _) hs5.out rfl
set_option maxRecDepth 100000 in
set_option maxHeartbeats 2000000 in
theorem rCommit_ok {w : World} {v : Value} {R Z : Nat} {s : VSt} (h : RRep w v R s) (hR : Z / 2 = R) :
    Calls Tryz.prog 84 #[v] w (RPost w R (vCommit Z s).1 (vCommit Z s).2) := by
  have h0 := h
  obtain ⟨iv, ev, xs, es, rfl, hs⟩ := h.ex
  obtain ⟨ia, ic, rfl, -⟩ := hs.it.sl.gen
  obtain ⟨ea, ec, rfl, -⟩ := hs.ed.sl.gen
  obtain ⟨act, hact⟩ : ∃ act, s.act = act := ⟨_, rfl⟩
  unfold vCommit
  rw [hact] at h0 ⊢
  obtain ⟨W0, hW0⟩ : ∃ W0, (w.alloc (.cells #[.int .i64 R, .slice ia xs.length ic, .bool act, .slice ea es.length ec] 54)).alloc (.cells #[.int .i64 0, .slice none 0 0, .bool false, .slice none 0 0] 54) = W0 := ⟨_, rfl⟩
  obtain ⟨hm0, hb1, hb2, hz⟩ := two_blocks _ _ _ _ _ hW0
  obtain ⟨⟨k0, k1, k2, k3⟩, ⟨k4, k5, k6, k7⟩, k8, k9, k10, k11⟩ := two_cells hb1 hb2
  have hcl : ∀ W, Mod Nowhere W0 W → _ := fun W hm => two_cells (hb1.mod hm (fun e => e)) (hb2.mod hm (fun e => e))
  have hs0 := hs.fresh hm0
  have hVw := rView_ok (h0.fresh hm0)
  have hIF : IOk (sets s.f s.l) := hs.iok.sets _ hs.ok
  obtain ⟨F, hF⟩ : ∃ F, sets s.f s.l = F := ⟨_, rfl⟩
  rw [hF] at hVw hIF
  rw [hF, hR]
  replace hVw := Lib.hid hVw
  replace hIF := Lib.hid hIF
  replace hF := Lib.hid hF
  replace hs0 := Lib.hid hs0
  replace hm0 := Lib.hid hm0
  replace hb1 := Lib.hid hb1
  replace hb2 := Lib.hid hb2
  replace hact := Lib.hid hact
  replace hcl := Lib.hid hcl
  replace hz := Lib.hid hz
  clear h h0 hs
  cases act
  · rw [if_neg Bool.false_ne_true]
    go_enter Tryz.func84, Tryz.ntmps84
    go_wp2
    replace hW0 := Lib.hid hW0
    exact st_end rfl rfl rfl hm0.out (Nat.le_refl _) (by omega) hb1.out hb2.out (by omega) (Mod.refl _ _) hs0.out (by exact hact.out)
  · rw [if_pos rfl]
    by_cases hfu : R < wt F
    · rw [if_pos hfu]
      go_enter Tryz.func84, Tryz.ntmps84
      go_wp2_with fail
      replace hW0 := Lib.hid hW0
      refine hVw.out.mono ?_
      rintro e w2 ⟨v2, ys, rfl, hi2, hy2, hm2⟩
      obtain ⟨ya, yc, rfl, -⟩ := hi2.sl.gen
      clear k0 k1 k2 k3 k4 k5 k6 k7 k8 k9 k10 k11
      obtain ⟨⟨k0, k1, k2, k3⟩, ⟨k4, k5, k6, k7⟩, k8, k9, k10, k11⟩ := hcl.out w2 hm2
      have hWt := fun W (hm : Mod Nowhere w2 W) => rWeight_ok (hi2.fresh hm) (by rw [← its_len, hy2]; have := itemsOf_len F; omega) (by rw [hy2]; exact itemsOf_short hIF.out)
      rw [hy2, wtI_itemsOf] at hWt
      replace hWt := Lib.hid hWt
      replace hi2 := Lib.hid hi2
      replace hy2 := Lib.hid hy2
      replace hm2 := Lib.hid hm2
      have hfi : (R : Int) < (wt F : Nat) := by omega
      generalize hwF : wt F = wF at *
      replace hwF := Lib.hid hwF
      go_wp2_with fail
      go_quiet ((go_at_call 106; exact Calls.quiet_of_same ((hWt.out _ ((Mod.refl Nowhere _).drewN _)).mono fun _ _ h => ⟨h.1, h.2.symm⟩)))
      go_wp2
      have hw2 : Mod Nowhere W0 (w2.drewN nq) := hm2.out.drewN nq
      exact st_end rfl rfl rfl (hm0.out.trans hw2) (Nat.le_refl _) (by omega) (hb1.out.mod hw2 (fun e => e)) (hb2.out.mod hw2 (fun e => e)) (by omega) (Mod.refl _ _) (hs0.out.fresh hw2) (by exact hact.out)
    · rw [if_neg hfu]
      go_enter Tryz.func84, Tryz.ntmps84
      go_wp2_with fail
      replace hW0 := Lib.hid hW0
      refine hVw.out.mono ?_
      rintro e w2 ⟨v2, ys, rfl, hi2, hy2, hm2⟩
      obtain ⟨ya, yc, rfl, -⟩ := hi2.sl.gen
      clear k0 k1 k2 k3 k4 k5 k6 k7 k8 k9 k10 k11
      obtain ⟨⟨k0, k1, k2, k3⟩, ⟨k4, k5, k6, k7⟩, k8, k9, k10, k11⟩ := hcl.out w2 hm2
      have hWt := fun W (hm : Mod Nowhere w2 W) => rWeight_ok (hi2.fresh hm) (by rw [← its_len, hy2]; have := itemsOf_len F; omega) (by rw [hy2]; exact itemsOf_short hIF.out)
      rw [hy2, wtI_itemsOf] at hWt
      replace hWt := Lib.hid hWt
      replace hi2 := Lib.hid hi2
      replace hy2 := Lib.hid hy2
      replace hm2 := Lib.hid hm2
      have hfi : ¬ (R : Int) < (wt F : Nat) := by omega
      generalize hwF : wt F = wF at *
      replace hwF := Lib.hid hwF
      go_wp2_with fail
      go_quiet ((go_at_call 106; exact Calls.quiet_of_same ((hWt.out _ ((Mod.refl Nowhere _).drewN _)).mono fun _ _ h => ⟨h.1, h.2.symm⟩)))
      go_wp2
      have hw2 : Mod Nowhere W0 (w2.drewN nq) := hm2.out.drewN nq
      exact st_end rfl rfl rfl (hm0.out.trans hw2) (Nat.le_refl _) (by omega) (hb1.out.mod hw2 (fun e => e)) (hb2.out.mod hw2 (fun e => e)) (by omega) (Mod.refl _ _)
        (show RSt (w2.drewN nq) R (.slice ya ys.length yc) (.slice none 0 0) ys [] { f := F, act := false, l := [] } from ⟨hi2.out.fresh ((Mod.refl Nowhere _).drewN _), hy2.out, ⟨Sl.nil _ _ _, fun x hx => (List.not_mem_nil hx).elim⟩, rfl, fun r hr => (List.not_mem_nil hr).elim, hIF.out, Nat.zero_le _, hs0.out.room, fun _ => rfl⟩) rfl
theorem ESl.take {w : World} {b off n cap : Nat} {xs : List Vx} (h : ESl w (.slice (some ⟨b, off, none⟩) n cap) xs) {k : Nat} (hk : k ≤ xs.length) : ESl w (.slice (some ⟨b, off, none⟩) k cap) (xs.take k) := by
  refine ⟨?_, fun x hx => h.data x (List.mem_of_mem_take hx)⟩
  have hl : (xs.take k).length = k := by rw [List.length_take]; omega
  have hlen : ∀ ys : List Vx, (ecsCells ys).length = ys.length * 3 := fun ys => by
    induction ys with
    | nil => rfl
    | cons x ys ih => show (ecCells x ++ ecsCells ys).length = _; rw [List.length_append, ih]; simp [ecCells]; omega
  rw [hl]
  have e : (ecsCells xs).take (k * 3) = ecsCells (xs.take k) := by
    have h2 := ecsCells_append (xs.take k) (xs.drop k)
    rw [List.take_append_drop] at h2
    rw [h2, List.take_left' (by rw [hlen, hl])]
  obtain ⟨ha, hb⟩ := h.sl
  refine ⟨by rw [hlen, hl], ?_⟩
  rcases hb with ⟨hb, _⟩ | ⟨b', off', cap', cs, hb, h3, h4, h5, h6, h7⟩
  · cases hb
  · simp at hb
    obtain ⟨⟨rfl, rfl⟩, rfl, rfl⟩ := hb
    refine .inr ⟨b, off, cap, cs, rfl, h3, by omega, h5, h6, ?_⟩
    rw [← e, ← h7, List.take_take, Nat.min_eq_left (by omega)]
theorem run_upto_nil {P : Program} {t e : TypeId} {z : Value} {sz bytes : Nat} (ht : P.underlying t = some (.slice e)) (hi : (P.info? e).map (fun i => (i.zero, i.size, i.bytes)) = some (some z, sz, bytes)) (W : World) :
    (Instr.slice t (.slice none 0 0) none (some (.int .i64 0)) none).run P W = .ok (.slice none 0 0) W := by
  obtain ⟨i0, hi0, hz0, hz1, hz2⟩ := info_parts hi
  simp [Instr.slice, Instr.sliceBounds, Instr.sliceBound, run_underlying ht, asIntOf, sizeOf, typeInfo, hi0, hz1]
/-- The edits up to a mark, as a slice. -/
theorem edits_upto {W : World} {n ec : Nat} {ea : Option Addr} {es : List Vx} (he : ESl W (.slice ea n ec) es) (hn : n = es.length) {k : Nat} (hk : k ≤ n) :
    ∃ ka kc, (∀ X, (Instr.slice 52 (.slice ea n ec) none (some (.int .i64 k)) none).run Tryz.prog X = .ok (.slice ka k kc) X) ∧ ESl W (.slice ka k kc) (es.take k) := by
  subst hn
  rcases he.sl.2 with ⟨e, h0⟩ | ⟨b, off, cap, cs, e, -, h1, -⟩
  · simp at e
    obtain ⟨rfl, rfl, rfl⟩ := e
    obtain rfl : k = 0 := by simpa using hk
    exact ⟨none, 0, fun X => run_upto_nil Tryz.underlying52 info_edit X, by simpa using he⟩
  · simp at e
    obtain ⟨rfl, rfl⟩ := e
    exact ⟨_, ec, fun X => run_uptoN Tryz.underlying52 info_edit b off _ ec k (by omega) X, he.take hk⟩
set_option maxRecDepth 100000 in
set_option maxHeartbeats 2000000 in
theorem rBack_ok {w : World} {v : Value} {R : Nat} {s : VSt} (h : RRep w v R s) (k : Int) (hn : s.l.length ≤ 8000) :
    Calls Tryz.prog 85 #[v, .int .i64 k] w (RPost w R (vBack s k).1 (vBack s k).2) := by
  obtain ⟨iv, ev, xs, es, rfl, hs⟩ := h.ex
  obtain ⟨ia, ic, rfl, -⟩ := hs.it.sl.gen
  obtain ⟨ea, ec, rfl, -⟩ := hs.ed.sl.gen
  obtain ⟨act, hact⟩ : ∃ act, s.act = act := ⟨_, rfl⟩
  unfold vBack
  rw [hact]
  obtain ⟨W0, hW0⟩ : ∃ W0, (w.alloc (.cells #[.int .i64 R, .slice ia xs.length ic, .bool act, .slice ea es.length ec] 54)).alloc (.cells #[.int .i64 0, .slice none 0 0, .bool false, .slice none 0 0] 54) = W0 := ⟨_, rfl⟩
  obtain ⟨hm0, hb1, hb2, hz⟩ := two_blocks _ _ _ _ _ hW0
  obtain ⟨⟨k0, k1, k2, k3⟩, ⟨k4, k5, k6, k7⟩, k8, k9, k10, k11⟩ := two_cells hb1 hb2
  have hs0 := hs.fresh hm0
  have hel := hs.eds_len
  replace hs0 := Lib.hid hs0
  replace hm0 := Lib.hid hm0
  replace hb1 := Lib.hid hb1
  replace hb2 := Lib.hid hb2
  replace hact := Lib.hid hact
  replace hz := Lib.hid hz
  clear h hs
  cases act
  · rw [if_neg Bool.false_ne_true]
    replace hel := Lib.hid hel
    go_enter Tryz.func85, Tryz.ntmps85
    go_wp2
    replace hW0 := Lib.hid hW0
    exact st_end rfl rfl rfl hm0.out (Nat.le_refl _) (by omega) hb1.out hb2.out (by omega) (Mod.refl _ _) hs0.out (by exact hact.out)
  · rw [if_pos rfl, ← hel]
    by_cases h1 : k < 0
    · rw [if_pos (.inl h1)]
      replace hel := Lib.hid hel
      go_enter Tryz.func85, Tryz.ntmps85
      go_wp2
      replace hW0 := Lib.hid hW0
      exact st_end rfl rfl rfl hm0.out (Nat.le_refl _) (by omega) hb1.out hb2.out (by omega) (Mod.refl _ _) hs0.out (by exact hact.out)
    · by_cases h2 : (es.length : Int) < k
      · rw [if_pos (.inr h2)]
        replace hel := Lib.hid hel
        go_enter Tryz.func85, Tryz.ntmps85
        go_wp2
        replace hW0 := Lib.hid hW0
        exact st_end rfl rfl rfl hm0.out (Nat.le_refl _) (by omega) hb1.out hb2.out (by omega) (Mod.refl _ _) hs0.out (by exact hact.out)
      · rw [if_neg (by omega)]
        obtain ⟨kn, rfl⟩ : ∃ kn : Nat, k = (kn : Int) := ⟨k.toNat, by omega⟩
        have hkn : kn ≤ es.length := by omega
        rw [show ((kn : Int)).toNat = kn from rfl]
        obtain ⟨ka, kc, hrun, hke⟩ := edits_upto hs0.out.ed rfl hkn
        obtain ⟨va, vc, X, r1, o1, m1, n1⟩ := edits_copy (b := W0.heap.size) hke (by rw [List.length_take]; omega) ((Mod.refl Nowhere W0).alloc (.cells #[] 135)) (Blk.new' rfl rfl) (Nat.le_refl _) (by omega)
        obtain ⟨⟨q0, q1, q2, q3⟩, ⟨q4, q5, q6, q7⟩, q8, q9, q10, q11⟩ := two_cells (hb1.out.mod n1 (fun e => e)) (hb2.out.mod n1 (fun e => e))
        have hst : RSt X R (.slice ia xs.length ic) (.slice va kn vc) xs (es.take kn) { s with l := s.l.take kn } := by
          have hsX := hs0.out.fresh n1
          have hfd := hke.fresh n1
          refine ⟨hsX.it, hsX.its, ⟨?_, fun x hx => hfd.data x hx⟩, by rw [recs_take', hsX.eds], fun r hr => hsX.ok r (List.mem_of_mem_take hr), hsX.iok, by show (s.l.take kn).length ≤ 9000; rw [List.length_take]; omega, hsX.room, fun e => by have e : s.act = false := e; rw [hact.out] at e; cases e⟩
          have hl : (es.take kn).length = kn := by rw [List.length_take]; omega
          rw [hl]
          exact Sl.of_owns o1
        rw [show ({ s with l := s.l.take kn } : VSt) = ⟨s.f, true, s.l.take kn⟩ by rw [← hact.out]] at hst
        replace hel := Lib.hid hel
        replace hst := Lib.hid hst
        replace n1 := Lib.hid n1
        clear hke o1 m1
        go_enter Tryz.func85, Tryz.ntmps85
        go_wp2_with (at_builtin; refine Lib.wpList_append_run _ rfl _ _ _ _ rfl _ _ (by rfl) (by rfl) _ _ r1 ?_; clear r1)
        replace hW0 := Lib.hid hW0
        exact st_end rfl rfl rfl (hm0.out.trans n1.out) (Nat.le_refl _) (by omega) (hb1.out.mod n1.out (fun e => e)) (hb2.out.mod n1.out (fun e => e)) (by omega) ((Mod.refl (fun k => k = w.heap.size) _).setCell (p := ⟨w.heap.size, 3, none⟩) (fun _ => rfl) _) hst.out rfl
end Go.Proofs.YtikkodanpbmmkaaGreat
/-
  The reference of the vault: changes at once, numbers, and all calls.
-/
namespace Go.Proofs.YtikkodanpbmmkaaGreat
open Go.RowKit
open Jn Vn
attribute [local go_sem] Oper.semAt_some

def sameId (nd : Int) (r : Rec) : Bool := decide (((r.1 : Nat) : Int) = nd)
theorem vNow_eq (Z : Nat) (s : VSt) (nd : Int) (d : List Nat) : vNow Z s nd d = if validB nd d.length = true then (if s.l.any (sameId nd) = true then (s, 14) else if Z / 2 < wt (set1 s.f (nd.toNat, some d)) ∨ Z / 2 < wt (sets (set1 s.f (nd.toNat, some d)) s.l) then (s, 10) else ({ s with f := set1 s.f (nd.toNat, some d) }, 0)) else (s, 1) := rfl
theorem recs_len' (xs : List Vx) : (recs xs).length = xs.length := by simp [recs]
set_option maxRecDepth 100000 in
set_option maxHeartbeats 4000000 in
theorem rNow_ok {w : World} {v u : Value} {R Z : Nat} {s : VSt} {d : List Nat} (h : RRep w v R s) (hR : Z / 2 = R) (nd : Int) (hu : Src w u d) (hb : Bytes d) (hdn : d.length ≤ 1099511627776) (hn : s.l.length ≤ 8000) :
    Calls Tryz.prog 51 #[v, .int .i64 nd, u] w (RPost w R (vNow Z s nd d).1 (vNow Z s nd d).2) := by
  have hu0 := hu
  obtain ⟨iv, ev, xs, es, rfl, hs⟩ := h.ex
  obtain ⟨ia, ic, rfl, -⟩ := hs.it.sl.gen
  obtain ⟨ea, ec, rfl, -⟩ := hs.ed.sl.gen
  obtain ⟨ua, uc, rfl, -⟩ := hu
  have hI := fun W => rIsItem_ok (w := W) nd ua d.length uc hdn
  obtain ⟨act, hact⟩ : ∃ act, s.act = act := ⟨_, rfl⟩
  rw [vNow_eq, hact]
  obtain ⟨W0, hW0⟩ : ∃ W0, (w.alloc (.cells #[.int .i64 R, .slice ia xs.length ic, .bool act, .slice ea es.length ec] 54)).alloc (.cells #[.int .i64 0, .slice none 0 0, .bool false, .slice none 0 0] 54) = W0 := ⟨_, rfl⟩
  obtain ⟨hm0, hb1, hb2, hz⟩ := two_blocks _ _ _ _ _ hW0
  obtain ⟨⟨k0, k1, k2, k3⟩, ⟨k4, k5, k6, k7⟩, k8, k9, k10, k11⟩ := two_cells hb1 hb2
  have hcl : ∀ W, Mod Nowhere W0 W → _ := fun W hm => two_cells (hb1.mod hm (fun e => e)) (hb2.mod hm (fun e => e))
  have hs0 := hs.fresh hm0
  have huW := hu0.fresh hm0
  have hel : es.length ≤ 8000 := by have := hs.eds_len; omega
  obtain ⟨bv, hbv⟩ : ∃ bv, validB nd d.length = bv := ⟨_, rfl⟩
  rw [hbv] at hI ⊢
  cases bv
  · rw [if_neg Bool.false_ne_true]
    replace hI := Lib.hid hI
    replace hs0 := Lib.hid hs0
    replace hm0 := Lib.hid hm0
    replace hb1 := Lib.hid hb1
    replace hb2 := Lib.hid hb2
    replace hact := Lib.hid hact
    clear h hs hz hu0 hcl huW
    go_enter Tryz.func51, Tryz.ntmps51
    go_wp2_with fail
    replace hW0 := Lib.hid hW0
    refine (hI.out _).mono ?_
    rintro e w1 ⟨rfl, rfl⟩
    go_wp2
    exact st_end rfl rfl rfl hm0.out (Nat.le_refl _) (by omega) hb1.out hb2.out (by omega) (Mod.refl _ _) hs0.out (by exact hact.out)
  · rw [if_pos rfl]
    obtain ⟨hrok, hid⟩ := validB_ok hbv hb
    have hSt := rSet13_ok hs0.it (by rw [hs0.its]; exact srt_itemsOf _) (by have := hs0.items_len; omega) nd.toNat hrok.hi huW hrok.len
    rw [hs0.its, hid, ← itemsOf_set (by have := hrok.hi; show nd.toNat < 4097; have : ((nd.toNat, some d) : Rec).1 ≤ 4096 := hrok.hi; omega)] at hSt
    have hI1 : IOk (set1 s.f (nd.toNat, some d)) := hs0.iok.set1 hrok
    obtain ⟨F1, hF1⟩ : ∃ F1, set1 s.f (nd.toNat, some d) = F1 := ⟨_, rfl⟩
    rw [hF1] at hSt hI1 ⊢
    have hI2 : IOk (sets F1 s.l) := hI1.sets _ hs0.ok
    obtain ⟨F2, hF2⟩ : ∃ F2, sets F1 s.l = F2 := ⟨_, rfl⟩
    rw [hF2] at hI2 ⊢
    rw [hR]
    generalize hq : (if s.l.any (sameId nd) = true then (s, 14) else if R < wt F1 ∨ R < wt F2 then (s, 10) else (({ f := F1, act := act, l := s.l } : VSt), 0)) = q
    replace hq := Lib.hid hq
    generalize d.length = dl at *
    replace hI := Lib.hid hI
    replace hSt := Lib.hid hSt
    replace hI1 := Lib.hid hI1
    replace hI2 := Lib.hid hI2
    replace hF1 := Lib.hid hF1
    replace hF2 := Lib.hid hF2
    replace hcl := Lib.hid hcl
    replace hm0 := Lib.hid hm0
    replace hb1 := Lib.hid hb1
    replace hb2 := Lib.hid hb2
    replace hact := Lib.hid hact
    replace hs0 := Lib.hid hs0
    clear h hs hu0 hrok hid hz huW
    go_enter Tryz.func51, Tryz.ntmps51
    go_wp2_with fail
    replace hW0 := Lib.hid hW0
    refine (hI.out _).mono ?_
    rintro e w1 ⟨rfl, rfl⟩
    go_wp2
    go_loopw [8] (fun i wr => ∃ k : Nat, k ≤ es.length ∧ i = .int .i64 k ∧ ((recs es).take k).any (sameId nd) = false ∧ W0 = wr) (fun i _ => es.length - (RowKit.intOf i).toNat)
    case atStart => exact ⟨0, by omega, rfl, rfl, rfl⟩
    case round =>
      obtain ⟨k, hk, rfl, hno, rfl⟩ := hrel
      by_cases hlt : k < es.length
      · obtain ⟨b, off, cap', xa, xc, e0, hbl, hcc1, hcc2, c1, c2, c3, e3⟩ := hs0.out.ed.at_ hlt
        have hlk : k < (recs es).length := by rw [recs_len']; exact hlt
        have hek : (recs es)[k] = es[k].2 := by simp [recs]
        have htk : ((recs es).take (k + 1)).any (sameId nd) = (((recs es).take k).any (sameId nd) || sameId nd es[k].2) := by
          rw [List.take_succ_eq_append_getElem hlk, List.any_append, hek]; simp only [List.any_cons, List.any_nil, Bool.or_false]
        have hall : sameId nd es[k].2 = true → s.l.any (sameId nd) = true := fun hp => by
          rw [← hs0.out.eds]; exact List.any_eq_true.2 ⟨_, List.getElem_mem hlk, by rw [hek]; exact hp⟩
        have hsid : sameId nd es[k].2 = decide (((es[k].2.1 : Nat) : Int) = nd) := rfl
        obtain ⟨rfl, rfl⟩ : ea = some ⟨b, off, none⟩ ∧ ec = cap' := by
          simp at e0; exact ⟨e0.1, e0.2⟩
        rw [hsid] at htk hall
        generalize es[k].2.1 = o at *
        replace htk := Lib.hid htk
        replace hno := Lib.hid hno
        replace e3 := Lib.hid e3
        replace hek := Lib.hid hek
        clear hsid
        by_cases heq : (o : Int) = nd
        · have ha := hall (by simpa using heq)
          obtain rfl : q = (s, 14) := by rw [← hq.out, if_pos ha]
          clear hall
          subst heq
          go_wp2
          exact st_end rfl rfl rfl hm0.out (Nat.le_refl _) (by omega) hb1.out hb2.out (by omega) (Mod.refl _ _) hs0.out (by exact hact.out)
        · have hnb : ((o : Int) == nd) = false := by simpa using heq
          have hd : decide ((o : Int) = nd) = false := by simpa using heq
          have hno2 : ((recs es).take (k + 1)).any (sameId nd) = false := by rw [htk.out, hno.out, hd]; rfl
          replace hno2 := Lib.hid hno2
          clear hall hd
          go_wp2
          go_roundw
          case rel => exact ⟨k + 1, by omega, by go_num, hno2.out, by first | rfl | trivial⟩
          case measure => simp [RowKit.intOf]; omega
      · obtain rfl : k = es.length := by omega
        have hno2 : s.l.any (sameId nd) = false := by
          rw [← recs_len', List.take_length, hs0.out.eds] at hno; exact hno
        have hq2 : q = if R < wt F1 ∨ R < wt F2 then (s, 10) else (({ f := F1, act := act, l := s.l } : VSt), 0) := by rw [← hq.out, if_neg (by rw [hno2]; simp)]
        replace hq2 := Lib.hid hq2
        clear hq
        replace hno2 := Lib.hid hno2
        clear hno
        have fin0 : ∀ W, Mod Nowhere W0 W → RSt W R (.slice ia xs.length ic) (.slice ea es.length ec) xs es s := fun W hm => hs0.out.fresh hm
        have fin1 : ∀ (W : World) (ya : Option Addr) (yc : Nat) (ys : List Ix), Mod Nowhere W0 W → ISl W (.slice ya ys.length yc) ys → its ys = itemsOf F1 → RSt W R (.slice ya ys.length yc) (.slice ea es.length ec) ys es ⟨F1, act, s.l⟩ := fun W ya yc ys hm hi hy =>
          ⟨hi, hy, (hs0.out.fresh hm).ed, hs0.out.eds, hs0.out.ok, hI1.out, hs0.out.len, hs0.out.room, fun e => hs0.out.idle (hact.out.trans e)⟩
        replace fin0 := Lib.hid fin0
        replace fin1 := Lib.hid fin1
        by_cases hf1 : R < wt F1
        · obtain rfl : q = (s, 10) := by rw [hq2.out, if_pos (.inl hf1)]
          have hfi : (R : Int) < (wt F1 : Nat) := by omega
          go_wp2_with fail
          refine hSt.out.mono ?_
          rintro e w2 ⟨v2, ys, rfl, hi2, hy2, hm2⟩
          obtain ⟨ya, yc, rfl, -⟩ := hi2.sl.gen
          clear k0 k1 k2 k3 k4 k5 k6 k7 k8 k9 k10 k11
          obtain ⟨⟨k0, k1, k2, k3⟩, ⟨k4, k5, k6, k7⟩, k8, k9, k10, k11⟩ := hcl.out w2 hm2
          have hW1 := fun W (hm : Mod Nowhere w2 W) => rWeight_ok (hi2.fresh hm) (by rw [← its_len, hy2]; have := itemsOf_len F1; omega) (by rw [hy2]; exact itemsOf_short hI1.out)
          have hSn := fun W (hm : Mod Nowhere w2 W) => rSeen_ok (hi2.fresh hm) hy2 ((hs0.out.fresh hm2).fresh hm).ed (by rw [hs0.out.eds]; exact hs0.out.ok) (by omega)
          rw [hy2, wtI_itemsOf] at hW1
          rw [hs0.out.eds, hF2.out] at hSn
          replace hW1 := Lib.hid hW1
          replace hSn := Lib.hid hSn
          replace hi2 := Lib.hid hi2
          replace hy2 := Lib.hid hy2
          replace hm2 := Lib.hid hm2
          generalize hwF1 : wt F1 = wF1 at *
          generalize hwF2 : wt F2 = wF2 at *
          replace hwF1 := Lib.hid hwF1
          replace hwF2 := Lib.hid hwF2
          go_wp2_with fail
          go_quiet ((go_at_call 106; exact Calls.quiet_of_same ((hW1.out _ ((Mod.refl Nowhere _).drewN _)).mono fun _ _ h => ⟨h.1, h.2.symm⟩)))
          go_wp2
          have hw2 : Mod Nowhere W0 (w2.drewN nq) := hm2.out.drewN nq
          exact st_end rfl rfl rfl (hm0.out.trans hw2) (Nat.le_refl _) (by omega) (hb1.out.mod hw2 (fun e => e)) (hb2.out.mod hw2 (fun e => e)) (by omega) (Mod.refl _ _) (fin0.out _ hw2) (by exact hact.out)
        · have hfi : ¬ (R : Int) < (wt F1 : Nat) := by omega
          by_cases hf2 : R < wt F2
          · obtain rfl : q = (s, 10) := by rw [hq2.out, if_pos (.inr hf2)]
            have hfj : (R : Int) < (wt F2 : Nat) := by omega
            go_wp2_with fail
            refine hSt.out.mono ?_
            rintro e w2 ⟨v2, ys, rfl, hi2, hy2, hm2⟩
            obtain ⟨ya, yc, rfl, -⟩ := hi2.sl.gen
            clear k0 k1 k2 k3 k4 k5 k6 k7 k8 k9 k10 k11
            obtain ⟨⟨k0, k1, k2, k3⟩, ⟨k4, k5, k6, k7⟩, k8, k9, k10, k11⟩ := hcl.out w2 hm2
            have hW1 := fun W (hm : Mod Nowhere w2 W) => rWeight_ok (hi2.fresh hm) (by rw [← its_len, hy2]; have := itemsOf_len F1; omega) (by rw [hy2]; exact itemsOf_short hI1.out)
            have hSn := fun W (hm : Mod Nowhere w2 W) => rSeen_ok (hi2.fresh hm) hy2 ((hs0.out.fresh hm2).fresh hm).ed (by rw [hs0.out.eds]; exact hs0.out.ok) (by omega)
            rw [hy2, wtI_itemsOf] at hW1
            rw [hs0.out.eds, hF2.out] at hSn
            replace hW1 := Lib.hid hW1
            replace hSn := Lib.hid hSn
            replace hi2 := Lib.hid hi2
            replace hy2 := Lib.hid hy2
            replace hm2 := Lib.hid hm2
            generalize hwF1 : wt F1 = wF1 at *
            generalize hwF2 : wt F2 = wF2 at *
            replace hwF1 := Lib.hid hwF1
            replace hwF2 := Lib.hid hwF2
            go_wp2_with fail
            go_region_held3 (fun w' => w'.cell? ⟨w.heap.size, 0, none⟩ = some (.int .i64 R) ∧ w'.cell? ⟨w.heap.size, 3, none⟩ = some (.slice ea es.length ec)) (simp [*, World.cell?_alloc_some, World.cell?_setCell_far, World.cell?_setCell_other])
              (first
                | (go_at_call 107; (with_reducible refine (hSn.out _ (Mod.refl Nowhere w2).drew).mono ?_); rintro e w3 ⟨v3, zs, rfl, hi3, hy3, hm3⟩; obtain ⟨za, zc, rfl, -⟩ := hi3.sl.gen; have hW3 := rWeight_ok hi3 (by rw [← its_len, hy3]; have := itemsOf_len F2; omega) (by rw [hy3]; exact itemsOf_short hI2.out); rw [hy3, wtI_itemsOf, hwF2.out] at hW3; have hm23 := hm2.out.drew.trans hm3; obtain ⟨⟨q0, q1, q2, q3⟩, ⟨q4, q5, q6, q7⟩, q8, q9, q10, q11⟩ := hcl.out w3 hm23; have hi23 := hi2.out.fresh ((Mod.refl Nowhere w2).drew.trans hm3); replace hW3 := Lib.hid hW3; replace hm23 := Lib.hid hm23; replace hi23 := Lib.hid hi23; clear hi3 hy3 hm3)
                | (go_at_call 106; (with_reducible refine (hW1.out _ (Mod.refl Nowhere w2).drew).mono ?_); rintro e w3 ⟨rfl, rfl⟩)
                | (go_at_call 106; (with_reducible refine hW3.out.mono ?_); rintro e w4 ⟨rfl, rfl⟩)
                | fail)
            go_wp2
            exact st_end rfl rfl rfl (hm0.out.trans hm23.out) (Nat.le_refl _) (by omega) (hb1.out.mod hm23.out (fun e => e)) (hb2.out.mod hm23.out (fun e => e)) (by omega) (Mod.refl _ _) (fin0.out _ hm23.out) (by exact hact.out)
          · obtain rfl : q = (({ f := F1, act := act, l := s.l } : VSt), 0) := by rw [hq2.out, if_neg (by omega)]
            have hfj : ¬ (R : Int) < (wt F2 : Nat) := by omega
            go_wp2_with fail
            refine hSt.out.mono ?_
            rintro e w2 ⟨v2, ys, rfl, hi2, hy2, hm2⟩
            obtain ⟨ya, yc, rfl, -⟩ := hi2.sl.gen
            clear k0 k1 k2 k3 k4 k5 k6 k7 k8 k9 k10 k11
            obtain ⟨⟨k0, k1, k2, k3⟩, ⟨k4, k5, k6, k7⟩, k8, k9, k10, k11⟩ := hcl.out w2 hm2
            have hW1 := fun W (hm : Mod Nowhere w2 W) => rWeight_ok (hi2.fresh hm) (by rw [← its_len, hy2]; have := itemsOf_len F1; omega) (by rw [hy2]; exact itemsOf_short hI1.out)
            have hSn := fun W (hm : Mod Nowhere w2 W) => rSeen_ok (hi2.fresh hm) hy2 ((hs0.out.fresh hm2).fresh hm).ed (by rw [hs0.out.eds]; exact hs0.out.ok) (by omega)
            rw [hy2, wtI_itemsOf] at hW1
            rw [hs0.out.eds, hF2.out] at hSn
            replace hW1 := Lib.hid hW1
            replace hSn := Lib.hid hSn
            replace hi2 := Lib.hid hi2
            replace hy2 := Lib.hid hy2
            replace hm2 := Lib.hid hm2
            generalize hwF1 : wt F1 = wF1 at *
            generalize hwF2 : wt F2 = wF2 at *
            replace hwF1 := Lib.hid hwF1
            replace hwF2 := Lib.hid hwF2
            go_wp2_with fail
            go_region_held3 (fun w' => w'.cell? ⟨w.heap.size, 0, none⟩ = some (.int .i64 R) ∧ w'.cell? ⟨w.heap.size, 3, none⟩ = some (.slice ea es.length ec)) (simp [*, World.cell?_alloc_some, World.cell?_setCell_far, World.cell?_setCell_other])
              (first
                | (go_at_call 107; (with_reducible refine (hSn.out _ (Mod.refl Nowhere w2).drew).mono ?_); rintro e w3 ⟨v3, zs, rfl, hi3, hy3, hm3⟩; obtain ⟨za, zc, rfl, -⟩ := hi3.sl.gen; have hW3 := rWeight_ok hi3 (by rw [← its_len, hy3]; have := itemsOf_len F2; omega) (by rw [hy3]; exact itemsOf_short hI2.out); rw [hy3, wtI_itemsOf, hwF2.out] at hW3; have hm23 := hm2.out.drew.trans hm3; obtain ⟨⟨q0, q1, q2, q3⟩, ⟨q4, q5, q6, q7⟩, q8, q9, q10, q11⟩ := hcl.out w3 hm23; have hi23 := hi2.out.fresh ((Mod.refl Nowhere w2).drew.trans hm3); replace hW3 := Lib.hid hW3; replace hm23 := Lib.hid hm23; replace hi23 := Lib.hid hi23; clear hi3 hy3 hm3)
                | (go_at_call 106; (with_reducible refine (hW1.out _ (Mod.refl Nowhere w2).drew).mono ?_); rintro e w3 ⟨rfl, rfl⟩)
                | (go_at_call 106; (with_reducible refine hW3.out.mono ?_); rintro e w4 ⟨rfl, rfl⟩)
                | fail)
            go_wp2
            exact st_end rfl rfl rfl (hm0.out.trans hm23.out) (Nat.le_refl _) (by omega) (hb1.out.mod hm23.out (fun e => e)) (hb2.out.mod hm23.out (fun e => e)) (by omega) ((Mod.refl (fun k => k = w.heap.size) _).setCell (p := ⟨w.heap.size, 1, none⟩) (fun _ => rfl) _) (fin1.out _ _ _ _ hm23.out hi23.out hy2.out) rfl
theorem info_int13 : (Tryz.prog.info? 3).map (fun i => (i.zero, i.size, i.bytes)) = some (some (.int .i64 0), 1, 8) := by kernel_rfl
theorem inRow_owns {w : World} {base n : Nat} {v : Value} {ks : List Nat} (h : w.ownsRow base 3 1 v n (ks.map fun k : Nat => Value.int .i64 (k : Int))) (hn : n = ks.length) : InRow w v (ks.map fun k : Nat => (k : Int)) := by
  subst hn
  have hs := Sl.of_owns h
  obtain ⟨a, c, rfl, h1, h2, h3⟩ := hs.gen
  have hl : (ks.map fun k : Nat => (k : Int)).length = ks.length := List.length_map ..
  refine ⟨a, c, by rw [hl], by rw [hl]; exact h1, h2, fun h0 => ?_⟩
  rw [hl] at h0
  obtain ⟨b, off, e, hb, hc, _⟩ := h3 h0
  refine ⟨b, off, e, hb, fun i hi => ?_⟩
  rw [hl] at hi
  rw [hc i (by omega)]
  simp [List.getD_eq_getElem?_getD, List.getElem?_map, List.getElem?_eq_getElem hi]
set_option maxRecDepth 100000 in
set_option maxHeartbeats 2000000 in
theorem rIDs_ok {w : World} {v : Value} {R : Nat} {s : VSt} (h : RRep w v R s) :
    Calls Tryz.prog 94 #[v] w fun e w' => ∃ u, e = .returned u ∧ InRow w' u ((dom (sets s.f s.l)).map fun k : Nat => (k : Int)) ∧ Mod Nowhere w w' := by
  have hV := fun W (hm : Mod Nowhere w W) => rView_ok (h.fresh hm)
  obtain ⟨iv, ev, xs, es, rfl, hs⟩ := h.ex
  clear h
  obtain ⟨ia, ic, rfl, -⟩ := hs.it.sl.gen
  obtain ⟨ea, ec, rfl, -⟩ := hs.ed.sl.gen
  have hsup := dom_itemsOf (sets s.f s.l)
  obtain ⟨F, hF⟩ : ∃ F, sets s.f s.l = F := ⟨_, rfl⟩
  rw [hF] at hV hsup ⊢
  generalize s.act = a at *
  have hm : Mod Nowhere w (w.alloc (.cells #[.int .i64 R, .slice ia xs.length ic, .bool a, .slice ea es.length ec] 54)) := (Mod.refl _ w).alloc _
  have hV1 := hV _ hm
  replace hs := Lib.hid hs
  replace hV1 := Lib.hid hV1
  replace hm := Lib.hid hm
  replace hF := Lib.hid hF
  replace hsup := Lib.hid hsup
  clear hV
  go_enter Tryz.func94, Tryz.ntmps94
  go_wp2_with fail
  refine hV1.out.mono ?_
  rintro e w2 ⟨v2, ys, rfl, hi2, hy2, hm2⟩
  have hm02 := hm.out.trans hm2
  have hyl : ys.length ≤ 4097 := by rw [← its_len, hy2]; exact itemsOf_len F
  obtain ⟨ya, yc, rfl, -⟩ := hi2.sl.gen
  replace hi2 := Lib.hid hi2
  replace hy2 := Lib.hid hy2
  replace hm02 := Lib.hid hm02
  clear hm2
  go_wp2
  go_loopw [3, 5] (fun v i wr => ∃ (k : Nat) (va : Option Addr) (vc : Nat), k ≤ ys.length ∧ i = .int .i64 k ∧ v = .slice va k vc ∧ wr.ownsRow w2.heap.size 3 1 (.slice va k vc) k ((((its ys).take k).map (·.1)).map fun j : Nat => Value.int .i64 (j : Int)) ∧ Mod Nowhere w2 wr) (fun _ i _ => ys.length - (RowKit.intOf i).toNat)
  case atStart => exact ⟨0, none, 0, by omega, rfl, rfl, World.ownsRow_nil _ _ _ _, Mod.refl _ _⟩
  case round =>
    obtain ⟨k, va, vc, hk, rfl, rfl, hown, hmk⟩ := hrel
    by_cases hlt : k < ys.length
    · obtain ⟨b, off, cap', xa, xc, e0, hb, _, _, c1, c2, e3⟩ := (hi2.out.fresh hmk).at_ hlt
      obtain ⟨rfl, rfl⟩ : ya = some ⟨b, off, none⟩ ∧ yc = cap' := by
        simp at e0; exact ⟨e0.1, e0.2⟩
      have hlk : k < (its ys).length := by rw [its_len]; exact hlt
      have hek : (its ys)[k] = ys[k].2 := by simp [its]
      have htk : (((its ys).take (k + 1)).map (·.1)).map (fun j : Nat => Value.int .i64 (j : Int)) = (((its ys).take k).map (·.1)).map (fun j : Nat => Value.int .i64 (j : Int)) ++ [Value.int .i64 (ys[k].2.1 : Nat)] := by
        rw [List.take_succ_eq_append_getElem hlk, hek]; simp
      generalize ys[k].2.1 = o at *
      have hcb : Blk (wr.alloc (.cells #[.int .i64 o] 3)) wr.heap.size [.int .i64 o] 3 := Blk.new' rfl rfl
      have hsl : Sl (wr.alloc (.cells #[.int .i64 o] 3)) (.slice (some ⟨wr.heap.size, 0, none⟩) 1 1) 3 1 1 [.int .i64 o] := Sl.whole hcb rfl (by decide)
      have hmA : Mod Nowhere wr (wr.alloc (.cells #[.int .i64 o] 3)) := (Mod.refl _ wr).alloc _
      obtain ⟨va', vc', w', S, r1, h2, h3, h4, h5⟩ := append_ty (ty := 27) Tryz.underlying27 info_int13 rfl (by decide) (owns_mod hown hmA (fun _ _ => (fun e => e))) hsl (by simp [Value.oneCell']) (by unfold maxLen; omega) (by omega) (Nat.le_trans hmk.size hmA.size)
      have hfin : Mod Nowhere w2 w' := (hmk.trans hmA).step h3 fun i hi e => by have := h4 i e; omega
      rw [← htk] at h2
      replace h2 := Lib.hid h2
      replace hfin := Lib.hid hfin
      replace hown := Lib.hid hown
      replace hmk := Lib.hid hmk
      replace htk := Lib.hid htk
      replace hek := Lib.hid hek
      replace e3 := Lib.hid e3
      replace hcb := Lib.hid hcb
      replace hsl := Lib.hid hsl
      replace hmA := Lib.hid hmA
      clear h3 h4 h5 c2
      go_wp2_with (at_builtin; refine Lib.wpList_append_run _ rfl _ _ _ _ rfl _ _ (by rfl) (by rfl) _ _ r1 ?_; clear r1)
      go_roundw
      case rel => exact ⟨k + 1, va', vc', by omega, by go_num, rfl, h2.out, hfin.out⟩
      case measure => simp [RowKit.intOf]; omega
    · obtain rfl : k = ys.length := by omega
      have hfin : InRow wr (.slice va ys.length vc) ((dom F).map fun k : Nat => (k : Int)) := by
        have e : (its ys).take ys.length = its ys := by rw [← its_len, List.take_length]
        rw [e, hy2.out, hsup.out] at hown
        exact inRow_owns hown (by rw [← hsup.out, ← hy2.out, List.length_map, its_len])
      replace hfin := Lib.hid hfin
      have hm3 := hm02.out.trans hmk
      replace hm3 := Lib.hid hm3
      clear hown hmk
      go_wp2
      go_ret
      exact ⟨_, rfl, hfin.out, hm3.out⟩
/-- The three blocks that a call of Do begins with. -/
theorem three_blocks (w : World) (R : Nat) (i e x0 x1 x2 : Value) (a : Bool) {W : World} (h : ((w.alloc (.cells #[.int .i64 R, i, .bool a, e] 54)).alloc (.cells #[x0, x1, x2] 60)).alloc (.cells #[.int .i64 0, .slice none 0 0, .bool false, .slice none 0 0] 54) = W) :
    Mod Nowhere w W ∧ Blk W w.heap.size [.int .i64 R, i, .bool a, e] 54 ∧ Blk W (w.heap.size + 1) [x0, x1, x2] 60 ∧ Blk W (w.heap.size + 1 + 1) [.int .i64 0, .slice none 0 0, .bool false, .slice none 0 0] 54 ∧ W.heap.size = w.heap.size + 1 + 1 + 1 := by
  rw [← h]
  exact ⟨(((Mod.refl _ w).alloc _).alloc _).alloc _, ((Blk.new' rfl rfl).alloc _).alloc _, (Blk.new' (by simp) rfl).alloc _, Blk.new' (by simp) rfl, by simp⟩
theorem three_cells {W : World} {B : Nat} {c0 c1 c2 c3 x0 x1 x2 o0 o1 o2 o3 : Value} (h1 : Blk W B [c0, c1, c2, c3] 54) (h2 : Blk W (B + 1) [x0, x1, x2] 60) (h3 : Blk W (B + 1 + 1) [o0, o1, o2, o3] 54) :
    (W.cell? ⟨B, 0, none⟩ = some c0 ∧ W.cell? ⟨B, 1, none⟩ = some c1 ∧ W.cell? ⟨B, 2, none⟩ = some c2 ∧ W.cell? ⟨B, 3, none⟩ = some c3) ∧ (W.cell? ⟨B + 1, 0, none⟩ = some x0 ∧ W.cell? ⟨B + 1, 1, none⟩ = some x1 ∧ W.cell? ⟨B + 1, 2, none⟩ = some x2) ∧
    (W.cell? ⟨B + 1 + 1, 0, none⟩ = some o0 ∧ W.cell? ⟨B + 1 + 1, 1, none⟩ = some o1 ∧ W.cell? ⟨B + 1 + 1, 2, none⟩ = some o2 ∧ W.cell? ⟨B + 1 + 1, 3, none⟩ = some o3) ∧ (∀ o, W.frozen? ⟨B + 1 + 1, o, none⟩ = false) ∧ B + 1 + 1 < W.heap.size :=
  ⟨⟨h1.cell 0, h1.cell 1, h1.cell 2, h1.cell 3⟩, ⟨h2.cell 0, h2.cell 1, h2.cell 2⟩, ⟨h3.cell 0, h3.cell 1, h3.cell 2, h3.cell 3⟩, h3.frozen, h3.lt⟩
set_option maxRecDepth 100000 in
set_option maxHeartbeats 4000000 in
theorem rDo_ok {w : World} {v u : Value} {R Z : Nat} {s : VSt} {d : List Nat} (h : RRep w v R s) (hR : Z / 2 = R) (op nd : Int) (hu : Src w u d) (hb : Bytes d) (hdn : d.length ≤ 1099511627776) (hn : s.l.length ≤ 8000) :
    Calls Tryz.prog 39 #[v, .agg #[.int .i64 op, .int .i64 nd, u]] w (RPost w R (vDo Z s op nd d).1 (vDo Z s op nd d).2) := by
  have h0 := h
  have hu0 := hu
  obtain ⟨iv, ev, xs, es, rfl, hs⟩ := h.ex
  obtain ⟨ia, ic, rfl, -⟩ := hs.it.sl.gen
  obtain ⟨ea, ec, rfl, -⟩ := hs.ed.sl.gen
  obtain ⟨ua, uc, rfl, -⟩ := hu
  obtain ⟨act, hact⟩ : ∃ act, s.act = act := ⟨_, rfl⟩
  rw [hact] at h0 ⊢
  obtain ⟨dl, hdl⟩ : ∃ dl, d.length = dl := ⟨_, rfl⟩
  rw [hdl] at hu0 ⊢
  replace hdl := Lib.hid hdl
  obtain ⟨W0, hW0⟩ : ∃ W0, ((w.alloc (.cells #[.int .i64 R, .slice ia xs.length ic, .bool act, .slice ea es.length ec] 54)).alloc (.cells #[.int .i64 op, .int .i64 nd, .slice ua dl uc] 60)).alloc (.cells #[.int .i64 0, .slice none 0 0, .bool false, .slice none 0 0] 54) = W0 := ⟨_, rfl⟩
  obtain ⟨hm0, hb1, hbx, hb2, hz⟩ := three_blocks _ _ _ _ _ _ _ _ hW0
  obtain ⟨⟨k0, k1, k2, k3⟩, ⟨k4, k5, k6⟩, ⟨k7, k8, k9, k10⟩, k11, k12⟩ := three_cells hb1 hbx hb2
  have hcl : ∀ W, Mod Nowhere W0 W → _ := fun W hm => three_cells (hb1.mod hm (fun e => e)) (hbx.mod hm (fun e => e)) (hb2.mod hm (fun e => e))
  have hr := h0.fresh hm0
  have huW := hu0.fresh hm0
  have cPut := rPut_ok hr hR nd huW hb hdn hn
  have cDel := rDelete_ok hr hR nd hn
  have cNow := rNow_ok hr hR nd huW hb hdn hn
  have cBeg := rBegin_ok hr
  have cCom := rCommit_ok hr hR
  have cAbo := rAbort_ok hr
  have cBac := rBack_ok hr nd hn
  obtain ⟨q, hq⟩ : ∃ q, vDo Z s op nd d = q := ⟨_, rfl⟩
  rw [hq]
  replace hq := Lib.hid hq
  replace cPut := Lib.hid cPut
  replace cDel := Lib.hid cDel
  replace cNow := Lib.hid cNow
  replace cBeg := Lib.hid cBeg
  replace cCom := Lib.hid cCom
  replace cAbo := Lib.hid cAbo
  replace cBac := Lib.hid cBac
  replace hcl := Lib.hid hcl
  replace hm0 := Lib.hid hm0
  replace hb1 := Lib.hid hb1
  replace hb2 := Lib.hid hb2
  replace hact := Lib.hid hact
  replace hz := Lib.hid hz
  clear h h0 hs hu0 hr huW hbx
  by_cases h0 : op = 0
  · have hqq : q = vPut Z s nd d := by rw [← hq.out]; unfold vDo; rw [if_pos h0]
    subst hqq
    clear hq
    subst h0
    go_enter Tryz.func39, Tryz.ntmps39
    go_wp2_with fail
    replace hW0 := Lib.hid hW0
    refine cPut.out.mono ?_
    rintro e w5 ⟨v5, rfl, hr5, hm5⟩
    obtain ⟨iv5, ev5, ys5, es5, rfl, hs5⟩ := hr5.ex
    obtain ⟨a5, c5, rfl, -⟩ := hs5.it.sl.gen
    obtain ⟨b5, d5, rfl, -⟩ := hs5.ed.sl.gen
    clear k0 k1 k2 k3 k4 k5 k6 k7 k8 k9 k10 k11 k12
    obtain ⟨⟨k0, k1, k2, k3⟩, ⟨k4, k5, k6⟩, ⟨k7, k8, k9, k10⟩, k11, k12⟩ := hcl.out w5 hm5
    have v0 : w.heap.size < w5.heap.size := by omega
    replace hs5 := Lib.hid hs5
    replace hm5 := Lib.hid hm5
    clear hr5
    go_wp2
    exact st_end rfl rfl rfl (hm0.out.trans hm5.out) (Nat.le_refl _) (by omega) (hb1.out.mod hm5.out (fun e => e)) (hb2.out.mod hm5.out (fun e => e)) (by omega) (Mod.refl _ _) hs5.out rfl
  by_cases h1 : op = 1
  · have hqq : q = vDel Z s nd := by rw [← hq.out]; unfold vDo; rw [if_neg h0]; rw [if_pos h1]
    subst hqq
    clear hq
    subst h1
    go_enter Tryz.func39, Tryz.ntmps39
    go_wp2_with fail
    replace hW0 := Lib.hid hW0
    refine cDel.out.mono ?_
    rintro e w5 ⟨v5, rfl, hr5, hm5⟩
    obtain ⟨iv5, ev5, ys5, es5, rfl, hs5⟩ := hr5.ex
    obtain ⟨a5, c5, rfl, -⟩ := hs5.it.sl.gen
    obtain ⟨b5, d5, rfl, -⟩ := hs5.ed.sl.gen
    clear k0 k1 k2 k3 k4 k5 k6 k7 k8 k9 k10 k11 k12
    obtain ⟨⟨k0, k1, k2, k3⟩, ⟨k4, k5, k6⟩, ⟨k7, k8, k9, k10⟩, k11, k12⟩ := hcl.out w5 hm5
    have v0 : w.heap.size < w5.heap.size := by omega
    replace hs5 := Lib.hid hs5
    replace hm5 := Lib.hid hm5
    clear hr5
    go_wp2
    exact st_end rfl rfl rfl (hm0.out.trans hm5.out) (Nat.le_refl _) (by omega) (hb1.out.mod hm5.out (fun e => e)) (hb2.out.mod hm5.out (fun e => e)) (by omega) (Mod.refl _ _) hs5.out rfl
  by_cases h2 : op = 2
  · have hqq : q = vNow Z s nd d := by rw [← hq.out]; unfold vDo; rw [if_neg h0]; rw [if_neg h1]; rw [if_pos h2]
    subst hqq
    clear hq
    subst h2
    go_enter Tryz.func39, Tryz.ntmps39
    go_wp2_with fail
    replace hW0 := Lib.hid hW0
    refine cNow.out.mono ?_
    rintro e w5 ⟨v5, rfl, hr5, hm5⟩
    obtain ⟨iv5, ev5, ys5, es5, rfl, hs5⟩ := hr5.ex
    obtain ⟨a5, c5, rfl, -⟩ := hs5.it.sl.gen
    obtain ⟨b5, d5, rfl, -⟩ := hs5.ed.sl.gen
    clear k0 k1 k2 k3 k4 k5 k6 k7 k8 k9 k10 k11 k12
    obtain ⟨⟨k0, k1, k2, k3⟩, ⟨k4, k5, k6⟩, ⟨k7, k8, k9, k10⟩, k11, k12⟩ := hcl.out w5 hm5
    have v0 : w.heap.size < w5.heap.size := by omega
    replace hs5 := Lib.hid hs5
    replace hm5 := Lib.hid hm5
    clear hr5
    go_wp2
    exact st_end rfl rfl rfl (hm0.out.trans hm5.out) (Nat.le_refl _) (by omega) (hb1.out.mod hm5.out (fun e => e)) (hb2.out.mod hm5.out (fun e => e)) (by omega) (Mod.refl _ _) hs5.out rfl
  by_cases h3 : op = 3
  · have hqq : q = vBegin s := by rw [← hq.out]; unfold vDo; rw [if_neg h0]; rw [if_neg h1]; rw [if_neg h2]; rw [if_pos h3]
    subst hqq
    clear hq
    subst h3
    go_enter Tryz.func39, Tryz.ntmps39
    go_wp2_with fail
    replace hW0 := Lib.hid hW0
    refine cBeg.out.mono ?_
    rintro e w5 ⟨v5, rfl, hr5, hm5⟩
    obtain ⟨iv5, ev5, ys5, es5, rfl, hs5⟩ := hr5.ex
    obtain ⟨a5, c5, rfl, -⟩ := hs5.it.sl.gen
    obtain ⟨b5, d5, rfl, -⟩ := hs5.ed.sl.gen
    clear k0 k1 k2 k3 k4 k5 k6 k7 k8 k9 k10 k11 k12
    obtain ⟨⟨k0, k1, k2, k3⟩, ⟨k4, k5, k6⟩, ⟨k7, k8, k9, k10⟩, k11, k12⟩ := hcl.out w5 hm5
    have v0 : w.heap.size < w5.heap.size := by omega
    replace hs5 := Lib.hid hs5
    replace hm5 := Lib.hid hm5
    clear hr5
    go_wp2
    exact st_end rfl rfl rfl (hm0.out.trans hm5.out) (Nat.le_refl _) (by omega) (hb1.out.mod hm5.out (fun e => e)) (hb2.out.mod hm5.out (fun e => e)) (by omega) (Mod.refl _ _) hs5.out rfl
  by_cases h4 : op = 4
  · have hqq : q = vCommit Z s := by rw [← hq.out]; unfold vDo; rw [if_neg h0]; rw [if_neg h1]; rw [if_neg h2]; rw [if_neg h3]; rw [if_pos h4]
    subst hqq
    clear hq
    subst h4
    go_enter Tryz.func39, Tryz.ntmps39
    go_wp2_with fail
    replace hW0 := Lib.hid hW0
    refine cCom.out.mono ?_
    rintro e w5 ⟨v5, rfl, hr5, hm5⟩
    obtain ⟨iv5, ev5, ys5, es5, rfl, hs5⟩ := hr5.ex
    obtain ⟨a5, c5, rfl, -⟩ := hs5.it.sl.gen
    obtain ⟨b5, d5, rfl, -⟩ := hs5.ed.sl.gen
    clear k0 k1 k2 k3 k4 k5 k6 k7 k8 k9 k10 k11 k12
    obtain ⟨⟨k0, k1, k2, k3⟩, ⟨k4, k5, k6⟩, ⟨k7, k8, k9, k10⟩, k11, k12⟩ := hcl.out w5 hm5
    have v0 : w.heap.size < w5.heap.size := by omega
    replace hs5 := Lib.hid hs5
    replace hm5 := Lib.hid hm5
    clear hr5
    go_wp2
    exact st_end rfl rfl rfl (hm0.out.trans hm5.out) (Nat.le_refl _) (by omega) (hb1.out.mod hm5.out (fun e => e)) (hb2.out.mod hm5.out (fun e => e)) (by omega) (Mod.refl _ _) hs5.out rfl
  by_cases h5 : op = 5
  · have hqq : q = vAbort s := by rw [← hq.out]; unfold vDo; rw [if_neg h0]; rw [if_neg h1]; rw [if_neg h2]; rw [if_neg h3]; rw [if_neg h4]; rw [if_pos h5]
    subst hqq
    clear hq
    subst h5
    go_enter Tryz.func39, Tryz.ntmps39
    go_wp2_with fail
    replace hW0 := Lib.hid hW0
    refine cAbo.out.mono ?_
    rintro e w5 ⟨v5, rfl, hr5, hm5⟩
    obtain ⟨iv5, ev5, ys5, es5, rfl, hs5⟩ := hr5.ex
    obtain ⟨a5, c5, rfl, -⟩ := hs5.it.sl.gen
    obtain ⟨b5, d5, rfl, -⟩ := hs5.ed.sl.gen
    clear k0 k1 k2 k3 k4 k5 k6 k7 k8 k9 k10 k11 k12
    obtain ⟨⟨k0, k1, k2, k3⟩, ⟨k4, k5, k6⟩, ⟨k7, k8, k9, k10⟩, k11, k12⟩ := hcl.out w5 hm5
    have v0 : w.heap.size < w5.heap.size := by omega
    replace hs5 := Lib.hid hs5
    replace hm5 := Lib.hid hm5
    clear hr5
    go_wp2
    exact st_end rfl rfl rfl (hm0.out.trans hm5.out) (Nat.le_refl _) (by omega) (hb1.out.mod hm5.out (fun e => e)) (hb2.out.mod hm5.out (fun e => e)) (by omega) (Mod.refl _ _) hs5.out rfl
  have hqq : q = vBack s nd := by rw [← hq.out]; unfold vDo; rw [if_neg h0]; rw [if_neg h1]; rw [if_neg h2]; rw [if_neg h3]; rw [if_neg h4]; rw [if_neg h5]
  subst hqq
  clear hq
  go_enter Tryz.func39, Tryz.ntmps39
  go_wp2_with fail
  replace hW0 := Lib.hid hW0
  refine cBac.out.mono ?_
  rintro e w5 ⟨v5, rfl, hr5, hm5⟩
  obtain ⟨iv5, ev5, ys5, es5, rfl, hs5⟩ := hr5.ex
  obtain ⟨a5, c5, rfl, -⟩ := hs5.it.sl.gen
  obtain ⟨b5, d5, rfl, -⟩ := hs5.ed.sl.gen
  clear k0 k1 k2 k3 k4 k5 k6 k7 k8 k9 k10 k11 k12
  obtain ⟨⟨k0, k1, k2, k3⟩, ⟨k4, k5, k6⟩, ⟨k7, k8, k9, k10⟩, k11, k12⟩ := hcl.out w5 hm5
  have v0 : w.heap.size < w5.heap.size := by omega
  replace hs5 := Lib.hid hs5
  replace hm5 := Lib.hid hm5
  clear hr5
  go_wp2
  exact st_end rfl rfl rfl (hm0.out.trans hm5.out) (Nat.le_refl _) (by omega) (hb1.out.mod hm5.out (fun e => e)) (hb2.out.mod hm5.out (fun e => e)) (by omega) (Mod.refl _ _) hs5.out rfl
end Go.Proofs.YtikkodanpbmmkaaGreat
/-
  Comparing strings of bytes, and lists of numbers.
-/
namespace Go.Proofs.YtikkodanpbmmkaaGreat
open Go.RowKit
open Jn Vn
attribute [local go_sem] Oper.semAt_some

theorem take_snoc_eq {a b : List Nat} {k : Nat} (h1 : k < a.length) (h2 : k < b.length) (h : a.take k = b.take k) (e : a.getD k 0 = b.getD k 0) : a.take (k + 1) = b.take (k + 1) := by
  rw [List.take_succ_eq_append_getElem h1, List.take_succ_eq_append_getElem h2, h]
  rw [List.getD_eq_getElem?_getD, List.getD_eq_getElem?_getD, List.getElem?_eq_getElem h1, List.getElem?_eq_getElem h2] at e
  simp at e
  rw [e]
theorem getD_congr {a b : List Nat} (h : a = b) (k : Nat) : a.getD k 0 = b.getD k 0 := by rw [h]
set_option maxRecDepth 100000 in
set_option maxHeartbeats 2000000 in
theorem rCompare_ok {w : World} {u v : Value} {a b : List Nat} (hu : Src w u a) (hv : Src w v b) (ha : Bytes a) (hb : Bytes b) (hla : a.length ≤ 1099511627776) (hlb : b.length ≤ 1099511627776) :
    Calls Tryz.prog 91 #[u, v] w fun e w' => ∃ c : Int, e = .returned (.int .i64 c) ∧ decide (c = 0) = decide (a = b) ∧ Mod Nowhere w w' := by
  obtain ⟨ua, uc, rfl, hu1, hu2, hu3⟩ := hu
  obtain ⟨va, vc, rfl, hv1, hv2, hv3⟩ := hv
  obtain ⟨n, hn⟩ : ∃ n, a.length = n := ⟨_, rfl⟩
  obtain ⟨m, hm⟩ : ∃ m, b.length = m := ⟨_, rfl⟩
  rw [hn] at hu1 hu3 hla ⊢
  rw [hm] at hv1 hv3 hlb ⊢
  have hne : ∀ k, k < n → k < m → a.getD k 0 ≠ b.getD k 0 → a ≠ b := fun k _ _ h e => h (getD_congr e k)
  have heq : ∀ k, k ≤ n → k ≤ m → a.take k = b.take k → ¬ (k < n ∧ k < m) → (a = b ↔ n = m) := fun k h1 h2 h3 h4 => by
    constructor
    · intro e; rw [← hn, ← hm, e]
    · intro e
      have : k = n := by omega
      rw [this, ← hn, List.take_length, hn, e, ← hm, List.take_length] at h3
      exact h3
  replace hn := Lib.hid hn
  replace hm := Lib.hid hm
  replace hu3 := Lib.hid hu3
  replace hv3 := Lib.hid hv3
  replace hne := Lib.hid hne
  replace heq := Lib.hid heq
  replace ha := Lib.hid ha
  replace hb := Lib.hid hb
  go_enter Tryz.func91, Tryz.ntmps91
  go_wp2
  go_loopw [5] (fun i wr => ∃ k : Nat, k ≤ n ∧ k ≤ m ∧ i = .int .i64 k ∧ a.take k = b.take k ∧ Mod Nowhere w wr) (fun i _ => n - (RowKit.intOf i).toNat)
  case atStart => exact ⟨0, by omega, by omega, rfl, rfl, Mod.refl _ _⟩
  case round =>
    obtain ⟨k, hk1, hk2, rfl, htk, hmd⟩ := hrel
    by_cases hlt : k < n ∧ k < m
    · obtain ⟨hlt1, hlt2⟩ := hlt
      obtain ⟨b1, o1, rfl, hb1, hc1⟩ := hu3.out (by omega)
      obtain ⟨b2, o2, rfl, hb2, hc2⟩ := hv3.out (by omega)
      have c1 := (hmd.cell (p := ⟨b1, o1 + k, none⟩) hb1 id).trans (hc1 k hlt1)
      have c2 := (hmd.cell (p := ⟨b2, o2 + k, none⟩) hb2 id).trans (hc2 k hlt2)
      have hx := ha.out k
      have hy := hb.out k
      have hstep := take_snoc_eq (a := a) (b := b) (k := k) (by rw [hn.out]; exact hlt1) (by rw [hm.out]; exact hlt2) htk
      have hn2 := hne.out k hlt1 hlt2
      generalize a.getD k 0 = x at *
      generalize b.getD k 0 = y at *
      replace hstep := Lib.hid hstep
      replace hn2 := Lib.hid hn2
      replace htk := Lib.hid htk
      replace hmd := Lib.hid hmd
      clear hc1 hc2
      have hw1 : (k : Int) < n := by omega
      have hw2 : (k : Int) < m := by omega
      by_cases hxy : x < y
      · have hi1 : (x : Int) < y := by omega
        have hab : a ≠ b := hn2.out (by omega)
        replace hab := Lib.hid hab
        go_wp2_with fail
        go_quiet (fail)
        go_wp2
        go_ret
        exact ⟨-1, rfl, by simp [hab.out], hmd.out.drewN _⟩
      · by_cases hyx : y < x
        · have hi1 : ¬ (x : Int) < y := by omega
          have hi2 : (y : Int) < x := by omega
          have hab : a ≠ b := hn2.out (by omega)
          replace hab := Lib.hid hab
          go_wp2_with fail
          go_quiet (fail)
          go_wp2_with fail
          go_quiet (fail)
          go_wp2
          go_ret
          exact ⟨1, rfl, by simp [hab.out], (hmd.out.drewN _).drewN _⟩
        · have hi1 : ¬ (x : Int) < y := by omega
          have hi2 : ¬ (y : Int) < x := by omega
          have ht2 := hstep.out (by omega)
          replace ht2 := Lib.hid ht2
          go_wp2_with fail
          go_quiet (fail)
          go_wp2_with fail
          go_quiet (fail)
          go_wp2
          go_roundw
          case rel => exact ⟨k + 1, by omega, by omega, by go_num, ht2.out, hmd.out.drewN _⟩
          case measure => simp [RowKit.intOf]; omega
    · have he := heq.out k hk1 hk2 htk hlt
      replace he := Lib.hid he
      replace hmd := Lib.hid hmd
      replace htk := Lib.hid htk
      have fin : ∀ c : Int, (c = 0 ↔ n = m) → decide (c = 0) = decide (a = b) := fun c h => by
        rw [decide_eq_decide, he.out]; exact h
      replace fin := Lib.hid fin
      by_cases hkn : k < n
      · have hkm : k = m := by omega
        subst hkm
        go_wp2
        go_ret
        exact ⟨1, rfl, fin.out 1 (by omega), hmd.out⟩
      · have hkn2 : k = n := by omega
        subst hkn2
        by_cases hkm : k < m
        · go_wp2
          go_ret
          exact ⟨-1, rfl, fin.out (-1) (by omega), hmd.out⟩
        · have hkm2 : k = m := by omega
          have hab : a = b := he.out.2 (by omega)
          subst hkm2
          replace hab := Lib.hid hab
          go_wp2
          go_ret
          exact ⟨0, rfl, by simp [hab.out], hmd.out⟩
set_option maxRecDepth 100000 in
set_option maxHeartbeats 400000 in
theorem rSame_ok {w : World} {u v : Value} {a b : List Nat} (hu : Src w u a) (hv : Src w v b) (ha : Bytes a) (hb : Bytes b) (hla : a.length ≤ 1099511627776) (hlb : b.length ≤ 1099511627776) :
    Calls Tryz.prog 42 #[u, v] w fun e w' => e = .returned (.bool (decide (a = b))) ∧ Mod Nowhere w w' := by
  have hC := rCompare_ok hu hv ha hb hla hlb
  obtain ⟨ua, uc, rfl, -⟩ := hu
  obtain ⟨va, vc, rfl, -⟩ := hv
  generalize a.length = n at *
  generalize b.length = m at *
  replace hC := Lib.hid hC
  go_enter Tryz.func42, Tryz.ntmps42
  go_wp2_with fail
  refine hC.out.mono ?_
  rintro e w1 ⟨c, rfl, hc, hm1⟩
  go_wp2
  go_ret
  exact ⟨ret_bool (by rw [← hc]; rfl), hm1⟩
theorem take_snoc_eq' {a b : List Int} {k : Nat} (h1 : k < a.length) (h2 : k < b.length) (h : a.take k = b.take k) (e : a.getD k 0 = b.getD k 0) : a.take (k + 1) = b.take (k + 1) := by
  rw [List.take_succ_eq_append_getElem h1, List.take_succ_eq_append_getElem h2, h]
  rw [List.getD_eq_getElem?_getD, List.getD_eq_getElem?_getD, List.getElem?_eq_getElem h1, List.getElem?_eq_getElem h2] at e
  simp at e
  rw [e]
set_option maxRecDepth 100000 in
set_option maxHeartbeats 2000000 in
theorem rInts_ok {w : World} {u v : Value} {a b : List Int} (hu : InRow w u a) (hv : InRow w v b) (hla : a.length ≤ 1099511627776) (hlb : b.length ≤ 1099511627776) :
    Calls Tryz.prog 79 #[u, v] w fun e w' => e = .returned (.bool (decide (a = b))) ∧ Mod Nowhere w w' := by
  obtain ⟨ua, uc, rfl, hu1, hu2, hu3⟩ := hu
  obtain ⟨va, vc, rfl, hv1, hv2, hv3⟩ := hv
  obtain ⟨n, hn⟩ : ∃ n, a.length = n := ⟨_, rfl⟩
  obtain ⟨m, hm⟩ : ∃ m, b.length = m := ⟨_, rfl⟩
  rw [hn] at hu1 hu3 hla ⊢
  rw [hm] at hv1 hv3 hlb ⊢
  by_cases hnm : n = m
  · have hne : ∀ k, k < n → a.getD k 0 ≠ b.getD k 0 → a ≠ b := fun k _ h e => h (by rw [e])
    have heq : a.take n = b.take n → a = b := fun h3 => by
      rw [← hn, List.take_length, hn, hnm, ← hm, List.take_length] at h3
      exact h3
    subst hnm
    replace hn := Lib.hid hn
    replace hm := Lib.hid hm
    replace hu3 := Lib.hid hu3
    replace hv3 := Lib.hid hv3
    replace hne := Lib.hid hne
    replace heq := Lib.hid heq
    go_enter Tryz.func79, Tryz.ntmps79
    go_wp2
    go_loopw [5] (fun i wr => ∃ k : Nat, k ≤ n ∧ i = .int .i64 k ∧ a.take k = b.take k ∧ Mod Nowhere w wr) (fun i _ => n - (RowKit.intOf i).toNat)
    case atStart => exact ⟨0, by omega, rfl, rfl, Mod.refl _ _⟩
    case round =>
      obtain ⟨k, hk1, rfl, htk, hmd⟩ := hrel
      by_cases hlt : k < n
      · obtain ⟨b1, o1, rfl, hb1, hc1⟩ := hu3.out (by omega)
        obtain ⟨b2, o2, rfl, hb2, hc2⟩ := hv3.out (by omega)
        have c1 := (hmd.cell (p := ⟨b1, o1 + k, none⟩) hb1 id).trans (hc1 k hlt)
        have c2 := (hmd.cell (p := ⟨b2, o2 + k, none⟩) hb2 id).trans (hc2 k hlt)
        have hstep := take_snoc_eq' (a := a) (b := b) (k := k) (by rw [hn.out]; exact hlt) (by rw [hm.out]; exact hlt) htk
        have hn2 := hne.out k hlt
        generalize a.getD k 0 = x at *
        generalize b.getD k 0 = y at *
        replace hstep := Lib.hid hstep
        replace hn2 := Lib.hid hn2
        replace htk := Lib.hid htk
        replace hmd := Lib.hid hmd
        clear hc1 hc2
        have hw1 : (k : Int) < n := by omega
        by_cases hxy : x = y
        · subst hxy
          have ht2 := hstep.out rfl
          replace ht2 := Lib.hid ht2
          go_wp2_with fail
          go_quiet (fail)
          go_wp2
          go_roundw
          case rel => exact ⟨k + 1, by omega, by go_num, ht2.out, hmd.out.drewN _⟩
          case measure => simp [RowKit.intOf]; omega
        · have hab : a ≠ b := hn2.out hxy
          replace hab := Lib.hid hab
          have hxb : (x == y) = false := by simpa using hxy
          go_wp2_with fail
          go_quiet (fail)
          go_wp2
          go_ret
          exact ⟨ret_bool (by simp [hab.out]), hmd.out.drewN _⟩
      · obtain rfl : k = n := by omega
        have hab := heq.out htk
        replace hab := Lib.hid hab
        replace hmd := Lib.hid hmd
        replace htk := Lib.hid htk
        go_wp2
        go_ret
        exact ⟨ret_bool (by simp [hab.out]), hmd.out⟩
  · have hab : a ≠ b := fun e => hnm (by rw [← hn, ← hm, e])
    have hb : ((n : Int) == (m : Int)) = false := by simpa using fun e => hnm (by omega)
    replace hab := Lib.hid hab
    replace hn := Lib.hid hn
    replace hm := Lib.hid hm
    replace hu3 := Lib.hid hu3
    replace hv3 := Lib.hid hv3
    go_enter Tryz.func79, Tryz.ntmps79
    go_wp2
    go_ret
    exact ⟨ret_bool (by simp [hab.out]), Mod.refl _ _⟩
end Go.Proofs.YtikkodanpbmmkaaGreat
