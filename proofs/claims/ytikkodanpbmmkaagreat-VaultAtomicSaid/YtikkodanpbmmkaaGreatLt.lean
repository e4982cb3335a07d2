/-
  The law VaultMounts: the walk.
-/
import Derived.Test.YtikkodanpbmmkaaGreatLr
import Derived.Test.YtikkodanpbmmkaaGreatInr
set_option linter.unusedVariables false
set_option linter.unusedSimpArgs false
namespace Go.Proofs.YtikkodanpbmmkaaGreat
open Go.RowKit
open Jn Vn
attribute [local go_sem] Oper.semAt_some

/-- A memory that holds the items f, whoever has it open. -/
structure MInv (w : World) (M : MemAt) (m : Mem) (C N : Nat) (f : Items) (n c : Nat) : Prop where
  rep : MemRep w M m
  clean : m.Clean
  good : m.Good
  c240 : 240 ≤ m.size
  cC : m.size / 24 = C
  cN : m.size / 20 = N
  c33 : 33 ≤ C
  vm : VMem m C N f
  wr : m.writes + n ≤ m.endu
  cu : m.cuts ≤ c
theorem MInv.fresh {w w' : World} {M : MemAt} {m : Mem} {C N : Nat} {f : Items} {n c : Nat} (h : MInv w M m C N f n c) (hm : Mod Nowhere w w') : MInv w' M m C N f n c := { h with rep := h.rep.mod hm (fun _ _ => id) }
theorem MInv.less {w : World} {M : MemAt} {m : Mem} {C N : Nat} {f : Items} {n c n' c' : Nat} (h : MInv w M m C N f n c) (hn : n' ≤ n) (hc : c ≤ c') : MInv w M m C N f n' c' := { h with wr := Nat.le_trans (Nat.add_le_add_left hn _) h.wr, cu := Nat.le_trans h.cu hc }
/-- The power is restored, another cut is planned. -/
theorem MInv.set {w w' : World} {M : MemAt} {m m' : Mem} {C N : Nat} {f : Items} {n c : Nat} (h : MInv w M m C N f n c) (hr : MemRep w' M m') (e1 : m'.words = m.words) (e2 : m'.writes = m.writes) (e3 : m'.cuts = m.cuts) (e4 : m'.endu = m.endu) : MInv w' M m' C N f n c :=
  ⟨hr, h.clean.of e1, h.good.of e1, by show 240 ≤ m'.words.length; rw [e1]; exact h.c240, by show m'.words.length / 24 = C; rw [e1]; exact h.cC, by show m'.words.length / 20 = N; rw [e1]; exact h.cN, h.c33, h.vm.of e1 e2, by rw [e2, e4]; exact h.wr, by rw [e3]; exact h.cu⟩
theorem Both.minv {w wr : World} {A : VAt} {m : Mem} {B R n : Nat} {st sr : VSt} (h : Both w wr A m B R n st sr) {c : Nat} (hc : A.cuts ≤ c) : MInv wr A.M m A.count A.frames st.f n c :=
  ⟨h.vl.rep.mem.1, h.vl.clean, h.vl.rep.mem.2.2.1, h.vl.c240, h.vl.cC, h.vl.cN, h.vl.c33, h.vl.rep.vmem, h.vl.room.endu, by rw [h.vl.rep.mem.2.2.2]; exact hc⟩
/-- Mounting: the vault has the items, or the power was cut and the memory holds them. -/
def Remount (w : World) (M : MemAt) (m : Mem) (C N : Nat) (f : Items) (n c : Nat) (e : Ending) (w' : World) : Prop :=
  (∃ A m', e = .returned (.tuple #[ptr A.vb, errno 0]) ∧ A.count = C ∧ VRep w' A m' (vst0 f) ∧ m'.off = false ∧ MInv w' M m' C N f n c ∧ Mod M.S w w' ∧ m'.cuts = m.cuts) ∨
  (∃ m', e = .returned (.tuple #[.pointer none, errno 7]) ∧ m'.off = true ∧ m.pending = true ∧ MInv w' M m' C N f n (c + 1) ∧ Mod M.S w w')
set_option maxRecDepth 100000 in
theorem MInv.mount {w : World} {M : MemAt} {m : Mem} {C N : Nat} {f : Items} {n c : Nat} (h : MInv w M m C N f (n + 62580) c) (hoff : m.off = false) (hc : c ≤ 1000) :
    Calls Tryz.prog 34 #[ptr M.mb] w (Remount w M m C N f n c) := by
  have hm := vMount_ok h.rep hoff h.clean h.good h.c240 h.cC h.cN h.c33 h.vm ⟨(h.less (Nat.le_add_left 62580 n) (Nat.le_refl c)).wr, Nat.lt_of_le_of_lt h.cu (by omega)⟩
  refine hm.mono fun e w' hp => ?_
  have hcu := h.cu
  have hwr := h.wr
  obtain ⟨q, hq⟩ : ∃ q, 62580 = q := ⟨_, rfl⟩
  rw [hq] at hwr
  rcases hp with ⟨A, m', k, a, b, c1, d, e1, g, i, j, -, l⟩ | ⟨m', a, b, d, g, i⟩
  · refine .inl ⟨A, m', a, c1, g, j.off, ⟨?_, j.clean h.clean, j.good, by rw [j.size]; exact h.c240, by rw [j.size]; exact h.cC, by rw [j.size]; exact h.cN, h.c33, ?_, by rw [j.writes, j.endu]; rw [hq] at i; omega, by rw [j.cuts]; exact hcu⟩, l, j.cuts⟩
    · rw [← b]; exact g.mem.1
    · have := g.vmem
      rw [c1, d] at this
      exact this
  · exact .inr ⟨m', a, d.off, d.pend, ⟨b, d.clean h.clean, d.good, by rw [d.size]; exact h.c240, by rw [d.size]; exact h.cC, by rw [d.size]; exact h.cN, h.c33, g, by rw [d.endu]; have := d.hi; rw [hq] at this; omega, by rw [d.cuts]; omega⟩, i⟩
theorem VAt.Z_of {A A' : VAt} (h : A'.count = A.count) : A'.Z = A.Z := by unfold VAt.Z; rw [h]
/-- A state's variable stays where a memory is used. -/
theorem RBox.mem {w w' : World} {b R : Nat} {s : VSt} {M : MemAt} {m : Mem} (h : RBox w b R s) (hr : MemRep w M m) (hm : Mod M.S w w') : RBox w' b R s := by
  have hsh : ∀ T, (T ≠ 108 ∧ T ≠ 151 ∧ T ≠ 3) → Shun M.S w T := fun T hT k hk cs hb => by
    rcases hk with e | e | e
    · rw [e] at hb; exact hT.1 (hb.inj hr.bm).2
    · rw [e] at hb; exact hT.2.1 (hb.inj hr.bw).2
    · rw [e] at hb; exact hT.2.2 (hb.inj hr.br).2
  obtain ⟨ia, ic, ea, ec, xs, es, hb, hs⟩ := h.ex
  exact ⟨_, _, _, _, _, _, hb.mod hm (fun e => hsh _ (by decide) _ e _ hb), ⟨hs.it.mod hm (hsh _ (by decide)) (hsh _ (by decide)), hs.its, hs.ed.mod hm (hsh _ (by decide)) (hsh _ (by decide)), hs.eds, hs.ok, hs.iok, hs.len, hs.room, hs.idle⟩⟩
set_option maxRecDepth 100000 in
set_option maxHeartbeats 16000000 in
theorem lawMounts13_ok (v : Value) (l : List Vop) (u : Value) (zs : List Int) (w : World) (hin : InOps w v l) (hin2 : InRowB w u zs) : Calls Tryz.prog 14 #[v, u] w fun e w' => e = .returned (.bool true) ∧ Below w.heap.size w w' := by
  have hL := light_ok hin
  obtain ⟨a, cap, rfl, h1, h2, h3⟩ := hin
  obtain ⟨⟨a2, cap2, rfl, i1, i2, i3⟩, hzb⟩ := hin2
  have hE := fun W => example13_ok W
  have hbl : ∀ W : World, Mod Nowhere w W → Below w.heap.size w W := fun W h => h.below
  have hO := fun W => open_ok W false
  obtain ⟨lt, hlt⟩ : ∃ lt, lightB l = lt := ⟨_, rfl⟩
  rw [hlt] at hL
  replace hE := Lib.hid hE
  replace hbl := Lib.hid hbl
  replace hO := Lib.hid hO
  replace h3 := Lib.hid h3
  replace i3 := Lib.hid i3
  replace hL := Lib.hid hL
  replace hzb := Lib.hid hzb
  cases lt
  · replace hlt := Lib.hid hlt
    go_enter Tryz.func14, Tryz.ntmps14
    go_wp2_with fail
    refine (hL.out).mono ?_
    rintro e w1 ⟨rfl, rfl⟩
    go_wp2_with fail
    refine (hE.out _).mono ?_
    rintro e w1 ⟨rfl, hm1⟩
    have hfin := hbl.out _ hm1
    replace hfin := Lib.hid hfin
    go_wp2
    go_ret
    exact ⟨rfl, hfin.out⟩
  by_cases hq : 10 < zs.length
  · have hqi : (10 : Int) < (zs.length : Int) := by omega
    replace hlt := Lib.hid hlt
    go_enter Tryz.func14, Tryz.ntmps14
    go_wp2_with fail
    refine (hL.out).mono ?_
    rintro e w1 ⟨rfl, rfl⟩
    go_wp2_with fail
    refine (hE.out _).mono ?_
    rintro e w1 ⟨rfl, hm1⟩
    have hfin := hbl.out _ hm1
    replace hfin := Lib.hid hfin
    go_wp2
    go_ret
    exact ⟨rfl, hfin.out⟩
  have hqi : ¬ (10 : Int) < (zs.length : Int) := by omega
  obtain ⟨hl60, hl3⟩ := lightB_ok hlt
  replace hlt := Lib.hid hlt
  replace hl3 := Lib.hid hl3
  go_enter Tryz.func14, Tryz.ntmps14
  go_wp2_with fail
  refine (hL.out).mono ?_
  rintro e w1 ⟨rfl, rfl⟩
  go_wp2_with fail
  refine (hO.out _).mono ?_
  rintro e w1 ⟨A, m, rfl, hu, hpd, hA0, -, hR2, -, hAS, hm1⟩
  obtain ⟨R, hR⟩ : ∃ R, A.Z / 2 = R := ⟨_, rfl⟩
  have hb1 := both_open hu hpd hR2 hR hAS hm1
  have hB : w.heap.size ≤ w1.heap.size := hm1.size
  rw [hR]
  replace hR := Lib.hid hR
  replace hb1 := Lib.hid hb1
  replace hA0 := Lib.hid hA0
  clear hu hpd hR2 hAS hm1
  go_wp2
  generalize w1.alloc (.cells #[.int .i64 R, .slice none 0 0, .bool false, .slice none 0 0] 54) = X at *
  generalize w1.heap.size = B at *
  go_loopw [9] (fun i wr => ∃ (k : Nat) (mk : Mem) (st : VSt), k ≤ l.length ∧ i = .int .i64 k ∧ Both w wr A mk B R ((200 - k) * 1022784) st st ∧ st.l.length ≤ k) (fun i _ => l.length - (RowKit.intOf i).toNat)
  case atStart => exact ⟨0, _, _, by omega, rfl, { hb1.out with vl := hb1.out.vl.less (by omega) }, Nat.le_refl _⟩
  case round =>
    obtain ⟨k, mk, st, hk, rfl, hbk, hsl⟩ := hrel
    by_cases hlt2 : k < l.length
    · obtain ⟨b, off, rfl, hc⟩ := h3.out (by omega)
      obtain ⟨op, nd, da, dl, dc, d, hx, -⟩ := OpAt.of (hc k hlt2) (hl3.out _ (List.getElem_mem hlt2))
      obtain ⟨c0, c1, c2, cl⟩ := hx.cells wr hbk.mod
      have hfin : ∀ W mk' st', Both w W A mk' B R ((200 - (k + 1)) * 1022784) st' st' → st'.l.length ≤ k + 1 → ∃ (k' : Nat) (mk : Mem) (st : VSt), k' ≤ l.length ∧ Value.int .i64 ((k : Int) + 1) = .int .i64 k' ∧ Both w W A mk B R ((200 - k') * 1022784) st st ∧ st.l.length ≤ k' :=
        fun W mk' st' g1 g2 => ⟨k + 1, mk', st', by omega, by go_num, g1, g2⟩
      clear hc
      obtain ⟨q, hq⟩ : ∃ q, vDo A.Z st op nd d = q := ⟨_, rfl⟩
      have hql : q.1.l.length ≤ k + 1 := by rw [← hq]; exact Nat.le_trans (vDo_len _ _ _ _ _) (by omega)
      have hD := (hbk.vl.less (show (200 - (k + 1)) * 1022784 + 1022784 ≤ (200 - k) * 1022784 by omega)).do_ hbk.pend op nd (hx.src wr hbk.mod) hx.bytes hx.short hq (by omega)
      replace hD := Lib.hid hD
      replace hfin := Lib.hid hfin
      replace hbk := Lib.hid hbk
      replace hx := Lib.hid hx
      replace hq := Lib.hid hq
      go_wp2_with fail
      refine hD.out.mono ?_
      rintro e w5 hs5
      obtain ⟨m5, rfl, hb5⟩ := hbk.out.call hs5
      obtain ⟨ia, n, ic, ea, j, ec, act, xs, es, hact, hst, hbB⟩ := hb5.box.get
      have hkB := fun W (hm : Mod Nowhere w5 W) => (hbB.mod hm (fun e => e)).four
      have hkX := fun W (hm : Mod Nowhere w5 W) => hx.out.cells W (hb5.mod.trans hm)
      have hRD := fun W (hm : Mod Nowhere w5 W) => rDo_ok (RRep.mk' (hst.fresh hm) hact) hb5.hR op nd (hx.out.src W (hb5.mod.trans hm)) hx.out.bytes hx.out.short (by omega)
      simp only [hq.out] at hRD
      obtain ⟨k0, k1, k2, k3, kf, kl⟩ := hkB w5 (Mod.refl _ _)
      obtain ⟨k4, k5, k6, kX⟩ := hkX w5 (Mod.refl _ _)
      have hD1 := hRD w5.drew ((Mod.refl Nowhere w5).drew)
      obtain ⟨st', er⟩ := q
      dsimp only at hql hD1
      clear hs5 hst hact hRD
      replace hb5 := Lib.hid hb5
      replace hbB := Lib.hid hbB
      replace hkB := Lib.hid hkB
      replace hkX := Lib.hid hkX
      replace hD1 := Lib.hid hD1
      dsimp only
      go_wp2
      go_region_law (first | (go_simp; go_at_call 39; (with_reducible refine hD1.out.mono ?_); rintro e w6 ⟨v6, rfl, hr6, hm6⟩; obtain ⟨ia6, n6, ic6, ea6, j6, ec6, act6, xs6, es6, hact6, rfl, hst6⟩ := hr6.get; have hb6 := (hb5.out.fresh ((Mod.refl Nowhere w5).drew.trans hm6)).put hst6 hact6; have hbB6 := hbB.out.mod ((Mod.refl Nowhere w5).drew.trans hm6) (fun e => e); obtain ⟨q0, q1, q2, q3, qf, ql⟩ := hbB6.four; replace hb6 := Lib.hid hb6; replace hbB6 := Lib.hid hbB6; clear hr6 hst6 hact6))
      all_goals
        have hf := hfin.out _ m5 st' hb6.out hql
        unfold outW at hf
        clear q0 q1 q2 q3 qf ql hm6
        replace hf := Lib.hid hf
        go_wp2
        go_roundw
        case rel => exact hf.out
        case measure => simp [RowKit.intOf]; omega
    · obtain rfl : k = l.length := by omega
      have hbk0 : Both w wr A mk B R (100 * 1022784) st st := { hbk with vl := hbk.vl.less (by omega) }
      have hmi0 := hbk0.minv (c := 0) (by rw [hA0.out]; omega)
      have hbx0 := hbk0.box
      have hm00 := hbk0.mod
      have hAn := hbk0.An
      clear hbk hbk0 hb1
      obtain ⟨f, hf⟩ : ∃ f, st.f = f := ⟨_, rfl⟩
      rw [hf] at hmi0
      replace hf := Lib.hid hf
      replace hmi0 := Lib.hid hmi0
      replace hbx0 := Lib.hid hbx0
      replace hm00 := Lib.hid hm00
      replace hAn := Lib.hid hAn
      go_wp2
      go_loopw [10] (fun i wr => ∃ (k : Nat) (mk : Mem), k ≤ zs.length ∧ i = .int .i64 k ∧ MInv wr A.M mk A.count A.frames f ((30 - k) * 62580) k ∧ RBox wr B R st ∧ Mod Nowhere w wr) (fun i _ => zs.length - (RowKit.intOf i).toNat)
      case atStart => exact ⟨0, _, by omega, rfl, hmi0.out.less (by omega) (Nat.le_refl _), hbx0.out, hm00.out⟩
      case round =>
        obtain ⟨k, mk, hk, rfl, hmi, hbx, hmk⟩ := hrel
        by_cases hlt2 : k < zs.length
        · obtain ⟨b, off, rfl, hb, hcell⟩ := i3.out (by omega)
          have hci := hcell k hlt2
          have hc0 : ∀ W, Mod Nowhere w W → W.cell? ⟨b, off + k, none⟩ = some (.int .i64 (zs.getD k 0)) ∧ b < W.heap.size := fun W hm => ⟨(hm.cell (p := ⟨b, off + k, none⟩) hb id).trans hci, Nat.lt_of_lt_of_le hb hm.size⟩
          have hzk := hzb.out (zs.getD k 0) (by rw [List.getD_eq_getElem?_getD, List.getElem?_eq_getElem hlt2]; exact List.getElem_mem hlt2)
          generalize zs.getD k 0 = z at *
          have hfin : ∀ W mk', MInv W A.M mk' A.count A.frames f ((30 - (k + 1)) * 62580) (k + 1) → RBox W B R st → Mod Nowhere w W → ∃ (k' : Nat) (mk : Mem), k' ≤ zs.length ∧ Value.int .i64 ((k : Int) + 1) = .int .i64 k' ∧ MInv W A.M mk A.count A.frames f ((30 - k') * 62580) k' ∧ RBox W B R st ∧ Mod Nowhere w W :=
            fun W mk' g1 g2 g3 => ⟨k + 1, mk', by omega, by go_num, g1, g2, g3⟩
          clear hcell hci
          obtain ⟨c0, cl⟩ := hc0 _ hmk
          by_cases hneg : z < 0
          · have hf2 := hfin _ mk (hmi.less (by omega) (by omega)) hbx hmk
            replace hf2 := Lib.hid hf2
            replace hmi := Lib.hid hmi
            replace hbx := Lib.hid hbx
            replace hmk := Lib.hid hmk
            replace hc0 := Lib.hid hc0
            replace hfin := Lib.hid hfin
            go_wp2
            go_roundw
            case rel => exact hf2.out
            case measure => simp [RowKit.intOf]; omega
          · obtain ⟨n, rfl⟩ : ∃ n : Nat, z = (n : Int) := ⟨z.toNat, by omega⟩
            have hRs := Restore_ok hmi.rep
            replace hmi := Lib.hid hmi
            replace hbx := Lib.hid hbx
            replace hmk := Lib.hid hmk
            replace hc0 := Lib.hid hc0
            replace hfin := Lib.hid hfin
            replace hRs := Lib.hid hRs
            go_wp2_with fail
            refine (hRs.out).mono ?_
            rintro e w2 ⟨rfl, hr2, hm2⟩
            have hmi2 := hmi.out.set hr2 rfl rfl rfl rfl
            have hbx2 := hbx.out.mem hmi.out.rep hm2
            have hmw2 := hmk.out.step hm2 fun i hi e => absurd hi (by have := hAn.out i (.inr (.inr e)); omega)
            have hCt := Cut_ok hr2 rfl n (by omega)
            obtain ⟨c0, cl⟩ := hc0.out _ hmw2
            clear hr2 hm2
            replace hmi2 := Lib.hid hmi2
            replace hbx2 := Lib.hid hbx2
            replace hmw2 := Lib.hid hmw2
            replace hCt := Lib.hid hCt
            go_wp2_with fail
            refine (hCt.out).mono ?_
            rintro e w3 ⟨rfl, hr3, hm3⟩
            have hmi3 := hmi2.out.set hr3 rfl rfl rfl rfl
            have hbx3 := hbx2.out.mem hmi2.out.rep hm3
            have hmw3 := hmw2.out.step hm3 fun i hi e => absurd hi (by have := hAn.out i (.inr (.inr e)); omega)
            have hMt := (hmi3.less (show (30 - (k + 1)) * 62580 + 62580 ≤ (30 - k) * 62580 by omega) (Nat.le_refl k)).mount rfl (by omega)
            clear hr3 hm3
            replace hmi3 := Lib.hid hmi3
            replace hbx3 := Lib.hid hbx3
            replace hmw3 := Lib.hid hmw3
            replace hMt := Lib.hid hMt
            go_wp2_with fail
            refine (hMt.out).mono ?_
            rintro e w4 (⟨A4, m4, rfl, hc4, hv4, ho4, hmi4, hm4, -⟩ | ⟨m4, rfl, ho4, -, hmi4, hm4⟩)
            · have hbx4 := hbx3.out.mem hmi3.out.rep hm4
              have hmw4 := hmw3.out.step hm4 fun i hi e => absurd hi (by have := hAn.out i (.inr (.inr e)); omega)
              have hPw := Power_ok hmi4.rep
              rw [ho4] at hPw
              obtain ⟨ia, n', ic, ea, j, ec, act, xs, es, hact, hst, hbB⟩ := hbx4.get
              have hr1 := hst.out hst.it hst.its hst.iok
              rw [hf.out] at hr1
              obtain ⟨k0, k1, k2, k3, kf, kl⟩ := hbB.four
              have hAg := agrees_ok hv4 hr1 (by rw [VAt.Z_of hc4]; exact hR.out) (by show 0 ≤ 1000000; omega) rfl rfl rfl
              clear hst hbB hact hr1 hm4
              replace hbx4 := Lib.hid hbx4
              replace hmw4 := Lib.hid hmw4
              replace hPw := Lib.hid hPw
              replace hmi4 := Lib.hid hmi4
              replace hAg := Lib.hid hAg
              replace hv4 := Lib.hid hv4
              replace ho4 := Lib.hid ho4
              go_wp2_with fail
              refine (hPw.out).mono ?_
              rintro e w5 ⟨rfl, rfl⟩
              go_wp2_with fail
              refine hAg.out.mono ?_
              rintro e w6 ⟨b6, rfl, hb6, hm6⟩
              obtain rfl : b6 = true := hb6 rfl
              have hmi6 := hmi4.out.fresh hm6
              have hPw6 := Power_ok hmi6.rep
              rw [ho4.out] at hPw6
              have hf6 := hfin.out _ m4 (hmi6.less (Nat.le_refl _) (by omega)) (hbx4.out.fresh hm6) (hmw4.out.trans hm6)
              clear hb6 hm6
              replace hmi6 := Lib.hid hmi6
              replace hPw6 := Lib.hid hPw6
              replace hf6 := Lib.hid hf6
              go_wp2_with fail
              refine (hPw6.out).mono ?_
              rintro e w7 ⟨rfl, rfl⟩
              go_wp2
              go_roundw
              case rel => exact hf6.out
              case measure => simp [RowKit.intOf]; omega
            · have hbx4 := hbx3.out.mem hmi3.out.rep hm4
              have hmw4 := hmw3.out.step hm4 fun i hi e => absurd hi (by have := hAn.out i (.inr (.inr e)); omega)
              have hPw := Power_ok hmi4.rep
              rw [ho4] at hPw
              have hf4 := hfin.out _ m4 hmi4 hbx4 hmw4
              clear hm4
              replace hbx4 := Lib.hid hbx4
              replace hmw4 := Lib.hid hmw4
              replace hPw := Lib.hid hPw
              replace hmi4 := Lib.hid hmi4
              replace hf4 := Lib.hid hf4
              go_wp2_with fail
              refine (hPw.out).mono ?_
              rintro e w5 ⟨rfl, rfl⟩
              go_wp2_with fail
              refine (hPw.out).mono ?_
              rintro e w6 ⟨rfl, rfl⟩
              go_wp2
              go_roundw
              case rel => exact hf4.out
              case measure => simp [RowKit.intOf]; omega
        · obtain rfl : k = zs.length := by omega
          have hRs := Restore_ok hmi.rep
          replace hmi := Lib.hid hmi
          replace hbx := Lib.hid hbx
          replace hmk := Lib.hid hmk
          replace hRs := Lib.hid hRs
          go_wp2_with fail
          refine (hRs.out).mono ?_
          rintro e w2 ⟨rfl, hr2, hm2⟩
          have hmi2 := hmi.out.set hr2 rfl rfl rfl rfl
          have hbx2 := hbx.out.mem hmi.out.rep hm2
          have hmw2 := hmk.out.step hm2 fun i hi e => absurd hi (by have := hAn.out i (.inr (.inr e)); omega)
          have hMt := (hmi2.less (show 62580 + 62580 ≤ (30 - zs.length) * 62580 by omega) (Nat.le_refl zs.length)).mount rfl (by omega)
          clear hr2 hm2
          replace hmi2 := Lib.hid hmi2
          replace hbx2 := Lib.hid hbx2
          replace hmw2 := Lib.hid hmw2
          replace hMt := Lib.hid hMt
          go_wp2_with fail
          refine (hMt.out).mono ?_
          rintro e w4 (⟨A4, m4, rfl, hc4, hv4, ho4, hmi4, hm4, -⟩ | ⟨m4, rfl, ho4, hp4, hmi4, hm4⟩)
          case inr => exact absurd (show (false : Bool) = true from hp4) (by decide)
          have hbx4 := hbx2.out.mem hmi2.out.rep hm4
          have hmw4 := hmw2.out.step hm4 fun i hi e => absurd hi (by have := hAn.out i (.inr (.inr e)); omega)
          obtain ⟨ia, n', ic, ea, j, ec, act, xs, es, hact, hst, hbB⟩ := hbx4.get
          have hr1 := hst.out hst.it hst.its hst.iok
          rw [hf.out] at hr1
          obtain ⟨k0, k1, k2, k3, kf, kl⟩ := hbB.four
          have hAg := agrees_ok hv4 hr1 (by rw [VAt.Z_of hc4]; exact hR.out) (by show 0 ≤ 1000000; omega) rfl rfl rfl
          clear hst hbB hact hr1 hm4 hbx4 hmi4 hv4
          replace hmw4 := Lib.hid hmw4
          replace hAg := Lib.hid hAg
          go_wp2_with fail
          refine hAg.out.mono ?_
          rintro e w6 ⟨b6, rfl, hb6, hm6⟩
          obtain rfl : b6 = true := hb6 rfl
          have hm06 := hmw4.out.trans hm6
          clear hb6 hm6
          replace hm06 := Lib.hid hm06
          go_wp2_with fail
          refine (hE.out _).mono ?_
          rintro e w9 ⟨rfl, hm9⟩
          have hfin := hbl.out _ (hm06.out.trans hm9)
          replace hfin := Lib.hid hfin
          go_wp2
          go_ret
          exact ⟨rfl, hfin.out⟩
end Go.Proofs.YtikkodanpbmmkaaGreat
