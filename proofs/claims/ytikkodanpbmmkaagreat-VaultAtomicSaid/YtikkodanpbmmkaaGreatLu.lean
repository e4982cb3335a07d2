/-
  The law VaultAtomic: the walk.
-/
import Derived.Test.YtikkodanpbmmkaaGreatLt
import Derived.Test.YtikkodanpbmmkaaGreatG27
set_option linter.unusedVariables false
set_option linter.unusedSimpArgs false
namespace Go.Proofs.YtikkodanpbmmkaaGreat
open Go.RowKit
open Jn Vn
attribute [local go_sem] Oper.semAt_some

/-- A vault that is not alive any more stays so while its memory is used, and mounted. -/
theorem VStub.remount {w w' : World} {A : VAt} {m m' : Mem} {P : PAt} {p : PSt} (h : VStub w A m P p) (hm : Mod A.M.S w w') (hr : MemRep w' A.M m') (hv : ¬ A.M.S A.vb) (hj : ¬ A.M.S A.jb) (hp : ¬ A.M.S P.pb) : VStub w' A m' P p :=
  ⟨(hm.cell (p := ⟨A.vb, 0, none⟩) (cell_lt' h.cell) hv).trans h.cell, ⟨h.jb.bj.mod hm hj, h.jb.bp.mod hm hp⟩, hr⟩
theorem shut_of_stub {w : World} {A : VAt} {m : Mem} {P : PAt} {p : PSt} (hs : VStub w A m P p) (ha : alive m p = false) : Shut w (ptr A.vb) 7 (fun id n => if validB id n = true then 7 else 1) := by
  refine ⟨fun W hm => ?_, fun W hm id a n c hn => ?_, fun W hm => ?_, .inl rfl, fun id n => ?_⟩
  · have hR := vReady_ok (hs.mod hm)
    rw [ha] at hR
    exact hR.mono fun e w' ⟨h1, k, h2⟩ => ⟨h1, by rw [h2]; exact (Mod.refl Nowhere W).drewN k⟩
  · have hR := vBegun_ok (hs.mod hm) id a n c hn
    rw [ha] at hR
    exact hR.mono fun e w' ⟨h1, k, h2⟩ => ⟨by rw [h1]; cases validB id n <;> rfl, by rw [h2]; exact (Mod.refl Nowhere W).drewN k⟩
  · have hR := vAlive_ok (hs.mod hm)
    rw [ha] at hR
    exact hR.mono fun e w' ⟨h1, k, h2⟩ => ⟨h1, by rw [h2]; exact (Mod.refl Nowhere W).drewN k⟩
  · cases validB id n <;> simp
/-- What a dead vault's memory is, and that the vault stays dead. -/
structure Grave (w : World) (A : VAt) (m : Mem) (f : Items) (n c : Nat) : Prop where
  inv : MInv w A.M m A.count A.frames f n c
  stub : ∃ P p, VStub w A m P p ∧ p.cuts < m.cuts ∧ ¬ A.M.S A.vb ∧ ¬ A.M.S A.jb ∧ ¬ A.M.S P.pb
theorem Grave.fresh {w w' : World} {A : VAt} {m : Mem} {f : Items} {n c : Nat} (h : Grave w A m f n c) (hm : Mod Nowhere w w') : Grave w' A m f n c := by
  obtain ⟨P, p, a, b⟩ := h.stub
  exact ⟨h.inv.fresh hm, P, p, a.mod hm, b⟩
theorem Grave.shut {w : World} {A : VAt} {m : Mem} {f : Items} {n c : Nat} (h : Grave w A m f n c) : Shut w (ptr A.vb) 7 (fun id n => if validB id n = true then 7 else 1) := by
  obtain ⟨P, p, a, b, -⟩ := h.stub
  refine shut_of_stub a ?_
  unfold alive
  have : (m.cuts == p.cuts) = false := by simp; omega
  rw [this]; simp
theorem Grave.use {w w' : World} {A : VAt} {m m' : Mem} {f : Items} {n n' c c' : Nat} (h : Grave w A m f n c) (hm : Mod A.M.S w w') (hi : MInv w' A.M m' A.count A.frames f n' c') (hc : m.cuts ≤ m'.cuts) : Grave w' A m' f n' c' := by
  obtain ⟨P, p, a, b, d1, d2, d3⟩ := h.stub
  exact ⟨hi, P, p, a.remount hm hi.rep d1 d2 d3, by omega, d1, d2, d3⟩
/-- The law's vault in the middle of its calls, a cut being planned. -/
structure Bc (w wr : World) (A : VAt) (m : Mem) (B R n : Nat) (st sr : VSt) : Prop where
  vl : Vl wr A m st n
  box : RBox wr B R sr
  mod : Mod Nowhere w wr
  Bw : w.heap.size ≤ B
  An : ∀ k, A.S k → w.heap.size ≤ k
  hR : A.Z / 2 = R
  cuts : A.cuts = 0
theorem Bc.fresh {w wr wr' : World} {A : VAt} {m : Mem} {B R n : Nat} {st sr : VSt} (h : Bc w wr A m B R n st sr) (hm : Mod Nowhere wr wr') : Bc w wr' A m B R n st sr :=
  ⟨h.vl.fresh hm, h.box.fresh hm, h.mod.trans hm, h.Bw, h.An, h.hR, h.cuts⟩
theorem Bc.put {w wr : World} {A : VAt} {m : Mem} {B R n : Nat} {st sr s' : VSt} {ia ea : Option Addr} {k ic j ec : Nat} {a : Bool} {xs : List Ix} {es : List Vx} (h : Bc w wr A m B R n st sr) (hs : RSt wr R (.slice ia k ic) (.slice ea j ec) xs es s') (ha : s'.act = a) :
    Bc w (outW wr B (.int .i64 R) (.slice ia k ic) (.bool a) (.slice ea j ec)) A m B R n st s' := by
  obtain ⟨ia', n', ic', ea', k', ec', a', xs', es', -, hs', hb⟩ := h.box.get
  exact ⟨h.vl.keepB (outW_mod _ _ _ _ _ _) hb, RBox.put hs hb ha, h.mod.step (outW_mod _ _ _ _ _ _) fun i hi e => absurd hi (by have := h.Bw; omega), h.Bw, h.An, h.hR, h.cuts⟩
theorem VDead.grave {w w1 : World} {A : VAt} {m m' : Mem} {st : VSt} {f : Items} {n k : Nat} (hd : VDead w1 A m' f) (hs : Stopped m m' k) (hv : Vl w A m st (n + k)) (hc : A.cuts = 0) : Grave w1 A m' f n 1 := by
  have hmc := hv.rep.mem.2.2.2
  obtain ⟨P, p, pc, J, bank, end_, hP, hO, -⟩ := hd.ex
  obtain ⟨b, e, ib, act, lv, hbv⟩ := hd.bv
  have hno : ∀ {x : Nat} {cs : List Value} {T : TypeId}, Blk w1 x cs T → T ≠ 108 ∧ T ≠ 151 ∧ T ≠ 3 → ¬ A.M.S x := by
    rintro x cs T hb hT (e | e | e)
    · rw [e] at hb; exact hT.1 (hb.inj hd.mem.bm).2
    · rw [e] at hb; exact hT.2.1 (hb.inj hd.mem.bw).2
    · rw [e] at hb; exact hT.2.2 (hb.inj hd.mem.br).2
  obtain ⟨fx, hp⟩ := hP.bp
  have hrm := hv.room.endu
  refine ⟨⟨hd.mem, hs.clean hv.clean, hs.good, by rw [hs.size]; exact hv.c240, by rw [hs.size]; exact hv.cC, by rw [hs.size]; exact hv.cN, hv.c33, hd.vmem, ?_, by rw [hs.cuts, hmc, hc]; omega⟩, P, p, ⟨hbv.cell 0, ⟨by rw [hO.pb]; exact hd.bj, hP.bp⟩, hd.mem⟩, by rw [hs.cuts, hmc, hO.cuts]; omega, hno hbv (by decide), hno hd.bj (by decide), hno hp (by decide)⟩
  rw [hs.endu]; have := hs.hi; omega
theorem Bc.call {w wr w1 : World} {A : VAt} {m : Mem} {B R n k : Nat} {st sr st' : VSt} {er : Nat} {e : Ending} (h : Bc w wr A m B R (n + k) st sr) (hc : VCall wr A m st st' er k e w1) (hl : st'.l.length ≤ 1000) :
    (∃ m', e = .returned (errno er) ∧ m'.off = false ∧ Bc w w1 A m' B R n st' sr) ∨ (∃ m' f, e = .returned (errno 7) ∧ (f = st.f ∨ f = st'.f) ∧ m'.off = true ∧ Grave w1 A m' f n 1 ∧ RBox w1 B R sr ∧ Mod Nowhere w w1) := by
  have hmod : ∀ {w2}, Mod A.S wr w2 → Mod Nowhere w w2 := fun hm => h.mod.step hm fun i hi e => absurd hi (by have := h.An i e; omega)
  rcases hc.vl h.vl hl with ⟨m', h1, h2, -, -, h5, h6⟩ | ⟨m', f, h1, h2, h3, h4, h5⟩
  · exact .inl ⟨m', h1, h5, h2, h.box.keepA h.vl.rep h6, hmod h6, h.Bw, h.An, h.hR, h.cuts⟩
  · exact .inr ⟨m', f, h1, h2, h4.off, h3.grave h4 h.vl h.cuts, h.box.keepA h.vl.rep h5, hmod h5⟩
theorem Both.cut {w wr w' : World} {A : VAt} {m : Mem} {B R n : Nat} {st sr : VSt} (h : Both w wr A m B R n st sr) (hc : A.cuts = 0) {c : Nat} (hm : Mod A.M.S wr w') (hr : MemRep w' A.M (m.cut c)) : Bc w w' A (m.cut c) B R n st sr :=
  ⟨⟨h.vl.rep.replan hm hr rfl rfl rfl rfl, h.vl.len, ⟨h.vl.room.endu, h.vl.room.cuts⟩, h.vl.cost, h.vl.clean.of rfl, h.vl.c240, h.vl.cC, h.vl.cN, h.vl.c33⟩, h.box.mem h.vl.rep.mem.1 hm, h.mod.step hm fun i hi e => absurd hi (by have := h.An i (.inr (.inr e)); omega), h.Bw, h.An, h.hR, hc⟩
set_option maxRecDepth 100000 in
set_option maxHeartbeats 16000000 in
theorem lawAtomic13_ok (v : Value) (l : List Vop) (cut : Int) (large : Bool) (w : World) (hin : InOps w v l) : Calls Tryz.prog 13 #[v, .int .i64 cut, .bool large] w fun e w' => e = .returned (.bool true) ∧ Below w.heap.size w w' := by
  have hL := light_ok hin
  obtain ⟨a, cap, rfl, h1, h2, h3⟩ := hin
  have hE := fun W => example13_ok W
  have hbl : ∀ W : World, Mod Nowhere w W → Below w.heap.size w W := fun W h => h.below
  have hO := fun W => open_ok W large
  obtain ⟨lt, hlt⟩ : ∃ lt, lightB l = lt := ⟨_, rfl⟩
  rw [hlt] at hL
  replace hE := Lib.hid hE
  replace hbl := Lib.hid hbl
  replace hO := Lib.hid hO
  replace h3 := Lib.hid h3
  replace hL := Lib.hid hL
  cases lt
  · replace hlt := Lib.hid hlt
    go_enter Tryz.func13, Tryz.ntmps13
    go_wp2_with fail
    refine (hL.out).mono ?_
    rintro e w1 ⟨rfl, rfl⟩
    go_wp2_with fail
    refine (hE.out _).mono ?_
    rintro e w1 ⟨rfl, hm1⟩
    have hfin := hbl.out _ hm1
    replace hfin := Lib.hid hfin
    go_wp2
    go_ret
    exact ⟨rfl, hfin.out⟩
  by_cases hc0 : cut < 0
  · replace hlt := Lib.hid hlt
    go_enter Tryz.func13, Tryz.ntmps13
    go_wp2_with fail
    refine (hL.out).mono ?_
    rintro e w1 ⟨rfl, rfl⟩
    go_wp2_with fail
    refine (hE.out _).mono ?_
    rintro e w1 ⟨rfl, hm1⟩
    have hfin := hbl.out _ hm1
    replace hfin := Lib.hid hfin
    go_wp2
    go_ret
    exact ⟨rfl, hfin.out⟩
  by_cases hc1 : 1099511627776 < cut
  · replace hlt := Lib.hid hlt
    go_enter Tryz.func13, Tryz.ntmps13
    go_wp2_with fail
    refine (hL.out).mono ?_
    rintro e w1 ⟨rfl, rfl⟩
    go_wp2_with fail
    refine (hE.out _).mono ?_
    rintro e w1 ⟨rfl, hm1⟩
    have hfin := hbl.out _ hm1
    replace hfin := Lib.hid hfin
    go_wp2
    go_ret
    exact ⟨rfl, hfin.out⟩
  obtain ⟨cn, rfl⟩ : ∃ cn : Nat, cut = (cn : Int) := ⟨cut.toNat, by omega⟩
  obtain ⟨hl60, hl3⟩ := lightB_ok hlt
  replace hlt := Lib.hid hlt
  replace hl3 := Lib.hid hl3
  go_enter Tryz.func13, Tryz.ntmps13
  go_wp2_with fail
  refine (hL.out).mono ?_
  rintro e w1 ⟨rfl, rfl⟩
  go_wp2_with fail
  refine (hO.out _).mono ?_
  rintro e w1 ⟨A, m, rfl, hu, hpd, hA0, -, hR2, -, hAS, hm1⟩
  obtain ⟨R, hR⟩ : ∃ R, A.Z / 2 = R := ⟨_, rfl⟩
  have hb1 := both_open hu hpd hR2 hR hAS hm1
  have hB : w.heap.size ≤ w1.heap.size := hm1.size
  have hCt := Cut_ok hb1.vl.rep.mem.1 hb1.vl.rep.mem.2.1 cn (by omega)
  rw [hR]
  replace hR := Lib.hid hR
  replace hb1 := Lib.hid hb1
  replace hA0 := Lib.hid hA0
  replace hCt := Lib.hid hCt
  clear hu hpd hR2 hAS hm1
  go_wp2_with fail
  refine hCt.out.mono ?_
  rintro e w2 ⟨rfl, hr2, hm2⟩
  have hb2 := hb1.out.cut hA0.out hm2 hr2
  clear hr2 hm2 hb1 hCt
  replace hb2 := Lib.hid hb2
  go_wp2
  generalize w1.heap.size = B at *
  go_loopw [11] (fun i wr => ∃ (k : Nat) (mk : Mem) (st : VSt), k ≤ l.length ∧ i = .int .i64 k ∧ Bc w wr A mk B R ((200 - k) * 1022784) st st ∧ st.l.length ≤ k) (fun i _ => l.length - (RowKit.intOf i).toNat)
  case atStart => exact ⟨0, _, _, by omega, rfl, { hb2.out with vl := hb2.out.vl.less (by omega) }, Nat.le_refl _⟩
  case round =>
    obtain ⟨k, mk, st, hk, rfl, hbk, hsl⟩ := hrel
    by_cases hlt2 : k < l.length
    · obtain ⟨b, off, rfl, hc⟩ := h3.out (by omega)
      obtain ⟨op, nd, da, dl, dc, d, hx, -⟩ := OpAt.of (hc k hlt2) (hl3.out _ (List.getElem_mem hlt2))
      obtain ⟨c0, c1, c2, cl⟩ := hx.cells wr hbk.mod
      have hfin : ∀ W mk' st', Bc w W A mk' B R ((200 - (k + 1)) * 1022784) st' st' → st'.l.length ≤ k + 1 → ∃ (k' : Nat) (mk : Mem) (st : VSt), k' ≤ l.length ∧ Value.int .i64 ((k : Int) + 1) = .int .i64 k' ∧ Bc w W A mk B R ((200 - k') * 1022784) st st ∧ st.l.length ≤ k' :=
        fun W mk' st' g1 g2 => ⟨k + 1, mk', st', by omega, by go_num, g1, g2⟩
      clear hc
      obtain ⟨q, hq⟩ : ∃ q, vDo A.Z st op nd d = q := ⟨_, rfl⟩
      have hql : q.1.l.length ≤ k + 1 := by rw [← hq]; exact Nat.le_trans (vDo_len _ _ _ _ _) (by omega)
      have hbk2 : Bc w wr A mk B R ((200 - (k + 1)) * 1022784 + vcost A) st st := { hbk with vl := hbk.vl.less (by have := hbk.vl.cost; omega) }
      have hD := vDo_ok hbk2.vl.rep hbk2.vl.long op nd (hx.src wr hbk.mod) hx.bytes hx.short (hbk2.vl.room.mono (by omega))
      rw [hq] at hD
      obtain ⟨st', er⟩ := q
      dsimp only at hql hD
      clear hbk
      replace hD := Lib.hid hD
      replace hfin := Lib.hid hfin
      replace hbk2 := Lib.hid hbk2
      replace hx := Lib.hid hx
      replace hq := Lib.hid hq
      go_wp2_with fail
      refine hD.out.mono ?_
      rintro e w1 hs5
      rcases hbk2.out.call hs5 (by omega) with ⟨m5, rfl, ho5, hb5⟩ | ⟨m5, f, rfl, hf, ho5, hg5, hbx1, hmw1⟩
      · have hbx1 := hb5.box
        have hmw1 := hb5.mod
        clear hs5
        replace hb5 := Lib.hid hb5
        replace ho5 := Lib.hid ho5
        obtain ⟨ia, n, ic, ea, j, ec, act, xs, es, hact, hst, hbB⟩ := hbx1.get
        have hkB := fun W (hm : Mod Nowhere w1 W) => (hbB.mod hm (fun e => e)).four
        have hkX := fun W (hm : Mod Nowhere w1 W) => hx.out.cells W (hmw1.trans hm)
        have hRD := fun W (hm : Mod Nowhere w1 W) => rDo_ok (RRep.mk' (hst.fresh hm) hact) hR.out op nd (hx.out.src W (hmw1.trans hm)) hx.out.bytes hx.out.short (by omega)
        simp only [hq.out] at hRD
        obtain ⟨k0, k1, k2, k3, kf, kl⟩ := hkB w1 (Mod.refl _ _)
        obtain ⟨k4, k5, k6, kX⟩ := hkX w1 (Mod.refl _ _)
        have hMd : Mod Nowhere w1 w1.drew := (Mod.refl Nowhere w1).drew
        have hMa : Mod Nowhere w1 (w1.alloc (.cells #[.int .i64 0, .slice none 0 0, .bool false, .slice none 0 0] 54)).drew := ((Mod.refl Nowhere w1).alloc _).drew
        have hN0 : Blk (w1.alloc (.cells #[.int .i64 0, .slice none 0 0, .bool false, .slice none 0 0] 54)).drew w1.heap.size [.int .i64 0, .slice none 0 0, .bool false, .slice none 0 0] 54 := Blk.drew (Blk.new' rfl rfl)
        have hN2 := fun W (hm : Mod Nowhere (w1.alloc (.cells #[.int .i64 0, .slice none 0 0, .bool false, .slice none 0 0] 54)).drew W) => hN0.mod hm (fun e => e)
        have hD1 := hRD _ hMd
        have hD2 := hRD _ hMa
        clear hN0 hst hact hRD
        replace hD1 := Lib.hid hD1
        replace hD2 := Lib.hid hD2
        replace hN2 := Lib.hid hN2
        replace hbB := Lib.hid hbB
        replace hkB := Lib.hid hkB
        replace hkX := Lib.hid hkX
        replace hbx1 := Lib.hid hbx1
        replace hmw1 := Lib.hid hmw1
        go_wp2
        go_cut [13, 14] (fun n v wx => ∃ N, n = ptr N ∧ v = Go.Proofs.YtikkodanpbmmkaaGreat.errno er ∧ RBox wx N R st' ∧ Mod Nowhere w1 wx)
        case first =>
          go_region_held3 (fun w' => w'.cell? ⟨B, 0, none⟩ = some (.int .i64 R) ∧ w'.cell? ⟨B, 1, none⟩ = some (.slice ia n ic) ∧ w'.cell? ⟨B, 2, none⟩ = some (.bool act) ∧ w'.cell? ⟨B, 3, none⟩ = some (.slice ea j ec) ∧ w'.cell? ⟨b, off + k * 3, none⟩ = some (.int .i64 op) ∧ w'.cell? ⟨b, off + k * 3 + 1, none⟩ = some (.int .i64 nd) ∧ w'.cell? ⟨b, off + k * 3 + 2, none⟩ = some (.slice da dl dc)) (simp [*, World.cell?_alloc_some, World.cell?_setCell_far, World.cell?_setCell_other])
            (first
              | (go_at_call 39; (with_reducible refine hD1.out.mono ?_); rintro e w5 ⟨v5, rfl, hr5, hm5⟩; obtain ⟨ia5, n5, ic5, ea5, j5, ec5, act5, xs5, es5, hact5, rfl, hs5⟩ := hr5.get; have hmW5 := hMd.trans hm5; obtain ⟨q0, q1, q2, q3, qf, ql⟩ := hkB.out w5 hmW5; obtain ⟨q4, q5, q6, qX⟩ := hkX.out w5 hmW5; have qs := hmW5.size; replace hs5 := Lib.hid hs5; replace hm5 := Lib.hid hm5; replace hmW5 := Lib.hid hmW5; replace hact5 := Lib.hid hact5; clear hr5)
              | (go_at_call 39; (with_reducible refine hD2.out.mono ?_); rintro e w5 ⟨v5, rfl, hr5, hm5⟩; obtain ⟨ia5, n5, ic5, ea5, j5, ec5, act5, xs5, es5, hact5, rfl, hs5⟩ := hr5.get; have hmW5 := hMa.trans hm5; have hN5 := hN2.out w5 hm5; obtain ⟨n0, n1, n2, n3, nf, nl⟩ := hN5.four; obtain ⟨q0, q1, q2, q3, qf, ql⟩ := hkB.out w5 hmW5; obtain ⟨q4, q5, q6, qX⟩ := hkX.out w5 hmW5; have qs := hmW5.size; replace hs5 := Lib.hid hs5; replace hm5 := Lib.hid hm5; replace hmW5 := Lib.hid hmW5; replace hN5 := Lib.hid hN5; replace hact5 := Lib.hid hact5; clear hr5)
              | fail)
          · have hf : RBox (w5.alloc (.cells #[.int .i64 R, .slice ia5 n5 ic5, .bool act5, .slice ea5 j5 ec5] 54)) w5.heap.size R st' := RBox.of (Blk.new' rfl rfl) (hs5.out.fresh ((Mod.refl Nowhere w5).alloc _)) hact5.out
            have hg := hmW5.out.alloc (.cells #[.int .i64 R, .slice ia5 n5 ic5, .bool act5, .slice ea5 j5 ec5] 54)
            replace hf := Lib.hid hf
            replace hg := Lib.hid hg
            go_wp2
            go_meet
            case rel => exact ⟨_, rfl, rfl, hf.out, hg.out⟩
          · have hf := RBox.put hs5.out hN5.out hact5.out
            have hg := hmW5.out.step (outW_mod w5 w1.heap.size (.int .i64 R) (.slice ia5 n5 ic5) (.bool act5) (.slice ea5 j5 ec5)) fun i hi e => absurd hi (by omega)
            unfold outW at hf hg
            replace hf := Lib.hid hf
            replace hg := Lib.hid hg
            go_wp2
            go_meet
            case rel => exact ⟨_, rfl, rfl, hf.out, hg.out⟩
        case rest =>
          obtain ⟨N, rfl, rfl, hbN, hmc⟩ := hcut

          have hb6 := hb5.out.fresh hmc
          have hPw := Power_ok hb6.vl.rep.mem.1
          rw [hb6.vl.rep.mem.2.1] at hPw
          obtain ⟨ia', n', ic', ea', j', ec', act', xs', es', hact', hst', hbN'⟩ := hbN.get
          have hb7 := hb6.put hst' hact'
          obtain ⟨n0, n1, n2, n3, nf, nl⟩ := hbN'.four
          obtain ⟨m0, m1, m2, m3, mf, ml⟩ := (hbB.out.mod hmc (fun e => e)).four
          have hf7 := hfin.out _ m5 st' hb7 hql
          unfold outW at hf7
          clear hb6 hst' hact' hbN' hbN hmc hb7
          replace hPw := Lib.hid hPw
          replace hf7 := Lib.hid hf7
          go_wp2_with fail
          refine hPw.out.mono ?_
          rintro e w7 ⟨rfl, rfl⟩
          go_wp2
          go_roundw
          case rel => exact hf7.out
          case measure => simp [RowKit.intOf]; omega
      · clear hs5
        replace ho5 := Lib.hid ho5
        replace hg5 := Lib.hid hg5
        replace hf := Lib.hid hf
        obtain ⟨ia, n, ic, ea, j, ec, act, xs, es, hact, hst, hbB⟩ := hbx1.get
        have hkB := fun W (hm : Mod Nowhere w1 W) => (hbB.mod hm (fun e => e)).four
        have hkX := fun W (hm : Mod Nowhere w1 W) => hx.out.cells W (hmw1.trans hm)
        have hRD := fun W (hm : Mod Nowhere w1 W) => rDo_ok (RRep.mk' (hst.fresh hm) hact) hR.out op nd (hx.out.src W (hmw1.trans hm)) hx.out.bytes hx.out.short (by omega)
        simp only [hq.out] at hRD
        obtain ⟨k0, k1, k2, k3, kf, kl⟩ := hkB w1 (Mod.refl _ _)
        obtain ⟨k4, k5, k6, kX⟩ := hkX w1 (Mod.refl _ _)
        have hMd : Mod Nowhere w1 w1.drew := (Mod.refl Nowhere w1).drew
        have hMa : Mod Nowhere w1 (w1.alloc (.cells #[.int .i64 0, .slice none 0 0, .bool false, .slice none 0 0] 54)).drew := ((Mod.refl Nowhere w1).alloc _).drew
        have hN0 : Blk (w1.alloc (.cells #[.int .i64 0, .slice none 0 0, .bool false, .slice none 0 0] 54)).drew w1.heap.size [.int .i64 0, .slice none 0 0, .bool false, .slice none 0 0] 54 := Blk.drew (Blk.new' rfl rfl)
        have hN2 := fun W (hm : Mod Nowhere (w1.alloc (.cells #[.int .i64 0, .slice none 0 0, .bool false, .slice none 0 0] 54)).drew W) => hN0.mod hm (fun e => e)
        have hD1 := hRD _ hMd
        have hD2 := hRD _ hMa
        clear hN0 hst hact hRD
        replace hD1 := Lib.hid hD1
        replace hD2 := Lib.hid hD2
        replace hN2 := Lib.hid hN2
        replace hbB := Lib.hid hbB
        replace hkB := Lib.hid hkB
        replace hkX := Lib.hid hkX
        replace hbx1 := Lib.hid hbx1
        replace hmw1 := Lib.hid hmw1
        go_wp2
        go_cut [13, 14] (fun n v wx => ∃ N, n = ptr N ∧ v = Go.Proofs.YtikkodanpbmmkaaGreat.errno er ∧ RBox wx N R st' ∧ Mod Nowhere w1 wx)
        case first =>
          go_region_held3 (fun w' => w'.cell? ⟨B, 0, none⟩ = some (.int .i64 R) ∧ w'.cell? ⟨B, 1, none⟩ = some (.slice ia n ic) ∧ w'.cell? ⟨B, 2, none⟩ = some (.bool act) ∧ w'.cell? ⟨B, 3, none⟩ = some (.slice ea j ec) ∧ w'.cell? ⟨b, off + k * 3, none⟩ = some (.int .i64 op) ∧ w'.cell? ⟨b, off + k * 3 + 1, none⟩ = some (.int .i64 nd) ∧ w'.cell? ⟨b, off + k * 3 + 2, none⟩ = some (.slice da dl dc)) (simp [*, World.cell?_alloc_some, World.cell?_setCell_far, World.cell?_setCell_other])
            (first
              | (go_at_call 39; (with_reducible refine hD1.out.mono ?_); rintro e w5 ⟨v5, rfl, hr5, hm5⟩; obtain ⟨ia5, n5, ic5, ea5, j5, ec5, act5, xs5, es5, hact5, rfl, hs5⟩ := hr5.get; have hmW5 := hMd.trans hm5; obtain ⟨q0, q1, q2, q3, qf, ql⟩ := hkB.out w5 hmW5; obtain ⟨q4, q5, q6, qX⟩ := hkX.out w5 hmW5; have qs := hmW5.size; replace hs5 := Lib.hid hs5; replace hm5 := Lib.hid hm5; replace hmW5 := Lib.hid hmW5; replace hact5 := Lib.hid hact5; clear hr5)
              | (go_at_call 39; (with_reducible refine hD2.out.mono ?_); rintro e w5 ⟨v5, rfl, hr5, hm5⟩; obtain ⟨ia5, n5, ic5, ea5, j5, ec5, act5, xs5, es5, hact5, rfl, hs5⟩ := hr5.get; have hmW5 := hMa.trans hm5; have hN5 := hN2.out w5 hm5; obtain ⟨n0, n1, n2, n3, nf, nl⟩ := hN5.four; obtain ⟨q0, q1, q2, q3, qf, ql⟩ := hkB.out w5 hmW5; obtain ⟨q4, q5, q6, qX⟩ := hkX.out w5 hmW5; have qs := hmW5.size; replace hs5 := Lib.hid hs5; replace hm5 := Lib.hid hm5; replace hmW5 := Lib.hid hmW5; replace hN5 := Lib.hid hN5; replace hact5 := Lib.hid hact5; clear hr5)
              | fail)
          · have hf : RBox (w5.alloc (.cells #[.int .i64 R, .slice ia5 n5 ic5, .bool act5, .slice ea5 j5 ec5] 54)) w5.heap.size R st' := RBox.of (Blk.new' rfl rfl) (hs5.out.fresh ((Mod.refl Nowhere w5).alloc _)) hact5.out
            have hg := hmW5.out.alloc (.cells #[.int .i64 R, .slice ia5 n5 ic5, .bool act5, .slice ea5 j5 ec5] 54)
            replace hf := Lib.hid hf
            replace hg := Lib.hid hg
            go_wp2
            go_meet
            case rel => exact ⟨_, rfl, rfl, hf.out, hg.out⟩
          · have hf := RBox.put hs5.out hN5.out hact5.out
            have hg := hmW5.out.step (outW_mod w5 w1.heap.size (.int .i64 R) (.slice ia5 n5 ic5) (.bool act5) (.slice ea5 j5 ec5)) fun i hi e => absurd hi (by omega)
            unfold outW at hf hg
            replace hf := Lib.hid hf
            replace hg := Lib.hid hg
            go_wp2
            go_meet
            case rel => exact ⟨_, rfl, rfl, hf.out, hg.out⟩
        case rest =>
          obtain ⟨N, rfl, rfl, hbN, hmc⟩ := hcut

          have hg6 := hg5.out.fresh hmc
          have hPw := Power_ok hg6.inv.rep
          rw [ho5.out] at hPw
          have hDe := sDead_ok hg6.shut (by decide)
          obtain ⟨ia', n', ic', ea', j', ec', act', xs', es', hact', hst', hbN'⟩ := hbN.get
          have hbB6 := hbx1.out.fresh hmc
          have hm06 := hmw1.out.trans hmc
          have hAn := hbk2.out.An
          clear hmc
          replace hPw := Lib.hid hPw
          replace hDe := Lib.hid hDe
          replace hg6 := Lib.hid hg6
          replace hst' := Lib.hid hst'
          replace hbN' := Lib.hid hbN'
          replace hbN := Lib.hid hbN
          replace hbB6 := Lib.hid hbB6
          replace hm06 := Lib.hid hm06
          replace hAn := Lib.hid hAn
          clear hact'
          go_wp2_with fail
          refine hPw.out.mono ?_
          rintro e w7 ⟨rfl, rfl⟩
          go_wp2_with fail
          refine (hDe.out).mono ?_
          rintro e w7 ⟨rfl, hm7⟩
          have hg7 := hg6.out.fresh hm7
          have hRs := Restore_ok hg7.inv.rep
          replace hg7 := Lib.hid hg7
          replace hRs := Lib.hid hRs
          replace hm7 := Lib.hid hm7
          go_wp2_with fail
          refine (hRs.out).mono ?_
          rintro e w8 ⟨rfl, hr8, hm8⟩
          have hi8 := hg7.out.inv.set hr8 rfl rfl rfl rfl
          have hg8 := hg7.out.use hm8 hi8 (Nat.le_refl _)
          have hMt := (hi8.less (show 0 + 62580 ≤ (200 - (k + 1)) * 1022784 by omega) (Nat.le_refl 1)).mount rfl (by omega)
          have hb8 := (hbB6.out.fresh hm7.out).mem hg7.out.inv.rep hm8
          have hn8 := (hbN.out.fresh hm7.out).mem hg7.out.inv.rep hm8
          have hm08 := (hm06.out.trans hm7.out).step hm8 fun i hi e => absurd hi (by have := hAn.out i (.inr (.inr e)); omega)
          clear hr8 hm8
          replace hi8 := Lib.hid hi8
          replace hg8 := Lib.hid hg8
          replace hMt := Lib.hid hMt
          replace hb8 := Lib.hid hb8
          replace hn8 := Lib.hid hn8
          replace hm08 := Lib.hid hm08
          go_wp2_with fail
          refine (hMt.out).mono ?_
          rintro e w9 (⟨A9, m9, rfl, hc9, hv9, ho9, hi9, hm9, hk9⟩ | ⟨m9, rfl, ho9, hp9, hi9, hm9⟩)
          case inr => exact absurd (show (false : Bool) = true from hp9) (by decide)
          have hg9 := hg8.out.use hm9 hi9 (by rw [hk9]; exact Nat.le_refl _)
          have hDe9 := sDead_ok hg9.shut (by decide)
          have hb9 := hb8.out.mem hi8.out.rep hm9
          have hn9 := hn8.out.mem hi8.out.rep hm9
          have hm09 := hm08.out.step hm9 fun i hi e => absurd hi (by have := hAn.out i (.inr (.inr e)); omega)
          clear hm9 hi9 hk9
          replace hDe9 := Lib.hid hDe9
          replace hb9 := Lib.hid hb9
          replace hn9 := Lib.hid hn9
          replace hm09 := Lib.hid hm09
          replace hg9 := Lib.hid hg9
          replace hv9 := Lib.hid hv9
          go_wp2_with fail
          refine (hDe9.out).mono ?_
          rintro e w10 ⟨rfl, hm10⟩
          have hv10 := hv9.out.fresh hm10
          obtain ⟨pa, pn, pc, qa, qn, qc, pact, pxs, pes, hpact, hpst, hpb⟩ := (hb9.out.fresh hm10).get
          obtain ⟨sa, sn, sc, ta, tn, tc, sact, sxs, ses, hsact, hsst, hsb⟩ := (hn9.out.fresh hm10).get
          obtain ⟨k0, k1, k2, k3, kf, kl⟩ := hpb.four
          have hRZ : A9.Z / 2 = R := by rw [VAt.Z_of hc9]; exact hR.out
          have hA1 := agrees_any hv10 (hpst.out hpst.it hpst.its hpst.iok) hRZ (by show 0 ≤ 1000000; omega) rfl rfl
          have hA2 := fun W (hm : Mod Nowhere w10 W) (e : st'.f = f) => agrees_ok (hv10.fresh hm) ((hsst.fresh hm).out (hsst.fresh hm).it hsst.its hsst.iok) hRZ (by show 0 ≤ 1000000; omega) rfl rfl e
          have hcl := fun W (hm : Mod Nowhere w10 W) => (hpb.mod hm (fun e => e)).four
          have hcl2 := fun W (hm : Mod Nowhere w10 W) => (hsb.mod hm (fun e => e)).four
          have hm010 := hm09.out.trans hm10
          clear hpst hsst hpb hsb hm10 hpact hsact hv10
          replace hA1 := Lib.hid hA1
          replace hA2 := Lib.hid hA2
          replace hcl := Lib.hid hcl
          replace hcl2 := Lib.hid hcl2
          replace hm010 := Lib.hid hm010
          go_wp2_with fail
          refine hA1.out.mono ?_
          rintro e w11 ⟨b11, rfl, hb11, hm11⟩
          have hm011 := hm010.out.trans hm11
          cases b11
          · have hff : st'.f = f := by
              rcases hf.out with e | e
              · exact absurd (hb11 e.symm) (by decide)
              · exact e.symm
            obtain ⟨k0, k1, k2, k3, kf, kl⟩ := hcl.out w11 hm11
            obtain ⟨n0, n1, n2, n3, nf, nl⟩ := hcl2.out w11 hm11
            have hA3 := hA2.out w11 hm11 hff
            replace hA3 := Lib.hid hA3
            replace hff := Lib.hid hff
            replace hm11 := Lib.hid hm11
            replace hm011 := Lib.hid hm011
            clear hb11
            go_wp2_with fail
            refine hA3.out.mono ?_
            rintro e w12 ⟨b12, rfl, hb12, hm12⟩
            obtain rfl : b12 = true := hb12 hff.out
            have hm012 := hm011.out.trans hm12
            clear hb12 hm12
            replace hm012 := Lib.hid hm012
            go_wp2_with fail
            refine (hE.out _).mono ?_
            rintro e w13 ⟨rfl, hm13⟩
            have hfn := hbl.out _ (hm012.out.trans hm13)
            replace hfn := Lib.hid hfn
            go_wp2
            go_ret
            exact ⟨rfl, hfn.out⟩
          · clear hb11
            replace hm11 := Lib.hid hm11
            replace hm011 := Lib.hid hm011
            go_wp2_with fail
            refine (hE.out _).mono ?_
            rintro e w13 ⟨rfl, hm13⟩
            have hfn := hbl.out _ (hm011.out.trans hm13)
            replace hfn := Lib.hid hfn
            go_wp2
            go_ret
            exact ⟨rfl, hfn.out⟩
    · obtain rfl : k = l.length := by omega
      obtain ⟨ia, n, ic, ea, j, ec, act, xs, es, hact, hst, hbB⟩ := hbk.box.get
      obtain ⟨k0, k1, k2, k3, kf, kl⟩ := hbB.four
      have hAg := agrees_ok hbk.vl.rep (RRep.mk' hst hact) hR.out hbk.vl.long rfl rfl rfl
      have hmk := hbk.mod
      clear hst hact hbB hbk
      replace hAg := Lib.hid hAg
      replace hmk := Lib.hid hmk
      go_wp2_with fail
      refine hAg.out.mono ?_
      rintro e w11 ⟨b11, rfl, hb11, hm11⟩
      obtain rfl : b11 = true := by simpa using hb11
      have hm011 := hmk.out.trans hm11
      clear hb11 hm11
      replace hm011 := Lib.hid hm011
      go_wp2_with fail
      refine (hE.out _).mono ?_
      rintro e w13 ⟨rfl, hm13⟩
      have hfn := hbl.out _ (hm011.out.trans hm13)
      replace hfn := Lib.hid hfn
      go_wp2
      go_ret
      exact ⟨rfl, hfn.out⟩
end Go.Proofs.YtikkodanpbmmkaaGreat
