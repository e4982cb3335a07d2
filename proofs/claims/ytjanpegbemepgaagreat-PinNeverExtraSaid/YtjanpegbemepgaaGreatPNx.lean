/-
  The law PinNeverExtra: the walk.
-/
import Derived.Test.YtjanpegbemepgaaGreatPnp
import Derived.Test.YtjanpegbemepgaaGreatG36
import Derived.Test.YtjanpegbemepgaaGreatRc
import Derived.Deep.Cut
import Derived.Deep.CutRange
import Derived.Deep.CutBlock
import Derived.Deep.DeepCutAuto
import Derived.Deep.RegionHeld3
set_option linter.unusedVariables false
set_option linter.unusedSimpArgs false
namespace Go.Proofs.YtjanpegbemepgaaGreat
open Go.RowKit
open Jn Vn
attribute [local go_sem] Oper.semAt_some

/-- What stays of a law's card whoever has the memory open. -/
structure NEw (w w' : World) (bv : Nat) : Prop where
  kv : KBlk w' bv neV
  mod : Mod Nowhere w w'
/-- The card is alive. -/
def NEa (w w' : World) (B bv most n c x : Nat) : Prop :=
  ∃ A m s pb, Card w' A m s n c ∧ NEp most s x ∧ PnAt w' pb A.vb ∧ Blk w' B [ptr A.M.mb, ptr A.vb, ptr pb] 28 ∧ ¬ A.S B ∧ ¬ A.S bv ∧ (∀ k, A.S k → w.heap.size ≤ k) ∧ NEw w w' bv
/-- The power was cut. -/
def NEg (w w' : World) (B bv most n c x : Nat) : Prop :=
  ∃ M m f v p, MCard w' M m f n c ∧ m.off = true ∧ NEf most f x ∧ Blk w' B [ptr M.mb, ptr v, ptr p] 28 ∧ ¬ M.S B ∧ ¬ M.S bv ∧ (∀ k, M.S k → w.heap.size ≤ k) ∧ NEw w w' bv
theorem NEw.step {w a b : World} {S : Nat → Prop} {bv : Nat} (h : NEw w a bv) (hm : Mod S a b) (hs : ∀ k, S k → w.heap.size ≤ k) (hn : ¬ S bv) : NEw w b bv :=
  ⟨h.kv.mod hm hn, h.mod.step hm fun i hi e => absurd hi (by have := hs i e; omega)⟩
theorem NEw.fresh {w a b : World} {bv : Nat} (h : NEw w a bv) (hm : Mod Nowhere a b) : NEw w b bv := h.step hm (fun _ e => e.elim) (fun e => e)
theorem NEa.fresh {w a b : World} {B bv most n c x : Nat} (h : NEa w a B bv most n c x) (hm : Mod Nowhere a b) : NEa w b B bv most n c x := by
  obtain ⟨A, m, s, pb, h1, h2, h3, h4, h5, h6, h7, h8⟩ := h
  exact ⟨A, m, s, pb, h1.fresh hm, h2, Blk.mod h3 hm (fun e => e), h4.mod hm (fun e => e), h5, h6, h7, h8.fresh hm⟩
theorem NEg.fresh {w a b : World} {B bv most n c x : Nat} (h : NEg w a B bv most n c x) (hm : Mod Nowhere a b) : NEg w b B bv most n c x := by
  obtain ⟨M, m, f, v, p, h1, h2, h3, h4, h5, h6, h7, h8⟩ := h
  exact ⟨M, m, f, v, p, h1.fresh hm, h2, h3, h4.mod hm (fun e => e), h5, h6, h7, h8.fresh hm⟩
theorem NEa.less {w a : World} {B bv most n c x n' c' : Nat} (h : NEa w a B bv most n c x) (hn : n' ≤ n) (hc : c ≤ c') : NEa w a B bv most n' c' x := by
  obtain ⟨A, m, s, pb, h1, h2, h3, h4, h5, h6, h7, h8⟩ := h
  exact ⟨A, m, s, pb, h1.less hn hc, h2, h3, h4, h5, h6, h7, h8⟩
/-- After a call of the vault or of the PINs: alive, or cut. -/
theorem NEa.call {w a b : World} {B bv most n c x x' y j k : Nat} {A : VAt} {m m' : Mem} {s s' : VSt} {pb : Nat} (h1 : Card a A m s (n + j) c) (h3 : PnAt a pb A.vb) (h4 : Blk a B [ptr A.M.mb, ptr A.vb, ptr pb] 28) (h5 : ¬ A.S B) (h6 : ¬ A.S bv) (h7 : ∀ k, A.S k → w.heap.size ≤ k) (h8 : NEw w a bv)
    (hr : Runs m m' k) (hk : k ≤ j) (hv : VRep b A m' s') (hp : PSP s') (hn : NEp most s' x') (hm : Mod A.S a b) : NEa w b B bv most n c x' :=
  ⟨A, m', s', pb, h1.after hr hk hv hp, hn, Blk.mod h3 hm (h3.notS h1.rep), h4.mod hm h5, h5, h6, h7, h8.step hm h7 h6⟩
theorem NEg.of {w a b : World} {B bv most n c y j : Nat} {A : VAt} {m m' : Mem} {s : VSt} {f : Items} {pb : Nat} (h1 : Card a A m s (n + j) c) (h4 : Blk a B [ptr A.M.mb, ptr A.vb, ptr pb] 28) (h5 : ¬ A.S B) (h6 : ¬ A.S bv) (h7 : ∀ k, A.S k → w.heap.size ≤ k) (h8 : NEw w a bv)
    (hs : Stopped m m' j) (hg : PGone b A m' f) (hf : NEf most f y) (hm : Mod A.S a b) : NEg w b B bv most n (c + 1) y :=
  ⟨A.M, m', f, A.vb, pb, h1.gone hs hg, hs.off, hf, h4.mod hm h5, fun e => h5 (.inr (.inr e)), fun e => h6 (.inr (.inr e)), fun k e => h7 k (.inr (.inr e)), h8.step hm h7 h6⟩
/-- Opened again. -/
theorem NEg.again {w a b : World} {B bv most n c x : Nat} (hB : B < a.heap.size) {M : MemAt} {A : VAt} {m : Mem} {pb : Nat} {f : Items} (hf : NEf most f x) (h5 : ¬ M.S B) (h6 : ¬ M.S bv) (h7 : ∀ k, M.S k → w.heap.size ≤ k) (h8 : NEw w a bv)
    (e : A.M = M) (hc : Card b A m (vst0 f) n c) (hp : PnAt b pb A.vb) (hbB : Blk b B [ptr A.M.mb, ptr A.vb, ptr pb] 28) (hS : ∀ k, A.S k → M.S k ∨ a.heap.size ≤ k) (hb : KBlk b bv neV) (hm : Mod Nowhere w b) : NEa w b B bv most n c x := by
  refine ⟨A, m, vst0 f, pb, hc, hf.ne, hp, hbB, fun e => ?_, fun e => ?_, fun k hk => ?_, ⟨hb, hm⟩⟩
  · rcases hS _ e with h | h
    · exact h5 h
    · omega
  · rcases hS _ e with h | h
    · exact h6 h
    · have := h8.kv.lt; omega
  · rcases hS _ hk with h | h
    · exact h7 k h
    · have := h8.mod.size; omega
/-- What the card's box holds. -/
theorem NEa.box {w a : World} {B bv most n c x : Nat} (h : NEa w a B bv most n c x) : B < a.heap.size := by
  obtain ⟨A, m, s, pb, h1, h2, h3, h4, -⟩ := h
  exact h4.lt
theorem tup_inj {a b c d : Int} (h : Ending.returned (.tuple #[.int .i64 a, errno b]) = .returned (.tuple #[.int .i64 c, errno d])) : a = c ∧ b = d := by
  unfold errno at h
  simpa using h
/-- The calls of a vault that are sure to be done. -/
theorem NEa.sure {w a b : World} {B bv most n c x j er : Nat} {e : Ending} {A : VAt} {m : Mem} {s s' : VSt} {pb : Nat} (h1 : Card a A m s (n + j) c) (h3 : PnAt a pb A.vb) (h4 : Blk a B [ptr A.M.mb, ptr A.vb, ptr pb] 28) (h5 : ¬ A.S B) (h6 : ¬ A.S bv) (h7 : ∀ k, A.S k → w.heap.size ≤ k) (h8 : NEw w a bv)
    (hs : VSure a A m s s' er 0 e b) (hp : PSP s') (hn : NEp most s' x) : e = .returned (errno er) ∧ NEa w b B bv most n c x := by
  obtain ⟨e1, hv, hm⟩ := hs
  exact ⟨e1, A, m, s', pb, ⟨hv, hp, h1.clean, h1.size, h1.cnt, h1.frm, Nat.le_trans (Nat.add_le_add_left (Nat.le_add_right _ _) _) h1.wr, h1.cu⟩, hn, Blk.mod h3 hm (h3.notS h1.rep), h4.mod hm h5, h5, h6, h7, h8.step hm h7 h6⟩
theorem ne_begin {most x : Nat} {s : VSt} (h : NEp most s x) (hp : PSP s) : NEp most (vBegin s).1 x ∧ PSP (vBegin s).1 := by
  unfold vBegin
  by_cases ha : s.act = true
  · rw [if_pos ha]; exact ⟨h, hp⟩
  · rw [if_neg ha]; exact ⟨⟨rfl, h.get, h.tr⟩, hp.begin (by simpa using ha)⟩
theorem ne_abort {most x : Nat} {s : VSt} (h : NEp most s x) (hp : PSP s) : NEp most (vAbort s).1 x ∧ PSP (vAbort s).1 := by
  rw [vAbort_pin]
  by_cases ha : s.act = true
  · rw [if_pos ha]; exact ⟨h.idle, hp.abort⟩
  · rw [if_neg ha]; exact ⟨h, hp⟩
theorem ne_commit {Z most x : Nat} {s : VSt} (h : NEp most s x) (hp : PSP s) (hZ : 1800 ≤ Z / 2) : NEp most (vCommit Z s).1 x ∧ PSP (vCommit Z s).1 ∧ (vCommit Z s).1.f = s.f := by
  rw [vCommit_pin hp.ps hZ]
  by_cases ha : s.act = true
  · rw [if_pos ha, h.view]; exact ⟨h.idle, hp.abort, rfl⟩
  · rw [if_neg ha]; exact ⟨h, hp, rfl⟩
theorem u16_rem (z k : Nat) (hz : z < 65536) (hk : 0 < k) (hk2 : k < 65536) : (z : Int).tmod (k : Int) = ((z % k : Nat) : Int) := by
  rw [Int.tmod_eq_emod_of_nonneg (by omega)]; rfl
set_option maxRecDepth 100000 in
set_option maxHeartbeats 16000000 in
theorem lawExtra21_ok (a0 : Int) (v : Value) (l : List Pop) (u : Value) (zs : List Nat) (w : World) (hw : (Lit.int .u8 a0).wf = true) (hin : InPops w v l) (hin2 : InU16 w u zs) : Calls Tryz.prog 3 #[.int .u8 a0, v, u] w fun e w' => e = .returned (.bool true) ∧ Below w.heap.size w w' := by
  obtain ⟨n0, rfl, hn0⟩ : ∃ n : Nat, a0 = (n : Int) ∧ n ≤ 255 := by
    simp only [Lit.wf, Bool.and_eq_true, decide_eq_true_eq] at hw
    have h1 : 0 ≤ a0 := hw.1
    have h2 : a0 ≤ 255 := hw.2
    exact ⟨a0.toNat, by omega, by omega⟩
  clear hw
  obtain ⟨a, cap, rfl, h1, h2, h3⟩ := hin
  obtain ⟨a2, cap2, rfl, i1, i2, iz, i3⟩ := hin2
  have hE := fun W => awake21_ok W
  have hbl : ∀ W : World, Mod Nowhere w W → Below w.heap.size w W := fun W h => h.below
  have hB := begin21_ok w
  replace hE := Lib.hid hE
  replace hbl := Lib.hid hbl
  replace hB := Lib.hid hB
  replace h3 := Lib.hid h3
  replace i3 := Lib.hid i3
  replace iz := Lib.hid iz
  by_cases hq : 25 < l.length
  · have hqi : (25 : Int) < (l.length : Int) := by omega
    go_enter Tryz.func3, Tryz.ntmps3
    go_wp2
    have hfin := hbl.out _ (Mod.refl _ _)
    go_ret
    exact ⟨rfl, hfin⟩
  have hqi : ¬ (25 : Int) < (l.length : Int) := by omega
  by_cases hq2 : 25 < zs.length
  · have hqi2 : (25 : Int) < (zs.length : Int) := by omega
    go_enter Tryz.func3, Tryz.ntmps3
    go_wp2
    have hfin := hbl.out _ (Mod.refl _ _)
    go_ret
    exact ⟨rfl, hfin⟩
  have hqi2 : ¬ (25 : Int) < (zs.length : Int) := by omega
  have t15 : (n0 : Int).tmod 15 = ((n0 % 15 : Nat) : Int) := u16_rem n0 15 (by omega) (by omega) (by omega)
  obtain ⟨r, hr⟩ : ∃ r, n0 % 15 = r := ⟨_, rfl⟩
  have hr15 : r < 15 := by omega
  rw [hr] at t15
  obtain ⟨most, hmo⟩ : ∃ most, 1 + r = most := ⟨_, rfl⟩
  have hm1 : 1 ≤ most := by omega
  have hm15 : most ≤ 15 := by omega
  have hwr : IntKind.i64.wrap (1 + (r : Int)) = (most : Int) := by rw [IntKind.wrap_i64]; omega
  have hwn : IntKind.i64.wrap (n0 : Int) = (n0 : Int) := by rw [IntKind.wrap_i64]; omega
  replace hr := Lib.hid hr
  replace hmo := Lib.hid hmo
  go_enter Tryz.func3, Tryz.ntmps3
  go_wp2_with fail
  refine (hB.out).mono ?_
  rintro e w1 ⟨A, m, pb, rfl, hc, hp, hpb, hAS, hpd, hmw1⟩
  unfold cardV
  have b0 := Blk.new w1 [ptr A.M.mb, ptr A.vb, ptr pb] 28
  have m0 : Mod Nowhere w1 (w1.alloc (.cells #[ptr A.M.mb, ptr A.vb, ptr pb] 28)) := (Mod.refl _ w1).alloc _
  have z0 : (w1.alloc (.cells #[ptr A.M.mb, ptr A.vb, ptr pb] 28)).heap.size = w1.heap.size + 1 := by simp
  obtain ⟨X0, hX0⟩ : ∃ X0, w1.alloc (.cells #[ptr A.M.mb, ptr A.vb, ptr pb] 28) = X0 := ⟨_, rfl⟩
  have b0 : Blk X0 w1.heap.size [ptr A.M.mb, ptr A.vb, ptr pb] 28 := hX0 ▸ b0
  rw [hX0] at m0 z0
  obtain ⟨X1, -, b1, m1, z1, hc1⟩ := keep1 X0 neV
  rw [z0] at b1 hc1 z1
  have hc1 : (convert 31 31 (.slice (some ⟨w1.heap.size + 1, 0, none⟩) 4 4)).run Tryz.prog (X0.alloc (.cells #[.int .u8 50, .int .u8 52, .int .u8 54, .int .u8 56] 5)) = .ok (.slice (some ⟨w1.heap.size + 1, 0, none⟩) 4 4) X1 := hc1
  have hm01 := m0.trans m1
  have hlt := hc.rep.lt
  have np := hp.notS hc.rep
  have b0' := b0.mod m1 (fun e => e)
  have hcW := (hc.fresh hm01).less (show 999000000 + 767088 ≤ 1000000000 by decide) (Nat.le_refl 0)
  have hpW : PnAt X1 pb A.vb := Blk.mod hp hm01 (fun e => e)
  have hsN : SrcS A X1 (.slice none 0 0) ([] : List Nat) := fun W hm => ⟨none, 0, rfl, Nat.le_refl _, by decide, fun h => by simp at h⟩
  obtain ⟨hcr, hne, hps⟩ := ne_create (Z := A.Z) hm1 hm15 hcW.z
  have hC := pinCreate_ok (neD_ok hm1 hm15) (u1 := .slice (some ⟨w1.heap.size + 1, 0, none⟩) 4 4) (u2 := .slice none 0 0) (b1.srcS (by decide) (fun e => by have := hlt _ e; omega)) hsN hpW hcW.rep (show (0 : Nat) ≤ 90000 by omega) hcW.psp.ps (by rw [hcW.cost]; exact hcW.room (by omega) (by decide))
  rw [hcr, hcW.cost] at hC
  unfold pinV at hC
  have k0 := b0'.cell 2
  simp only [List.getElem?_cons_zero, List.getElem?_cons_succ] at k0
  have kl := b0'.lt
  have hsz1 := hmw1.size
  replace hcW := Lib.hid hcW
  replace hpW := Lib.hid hpW
  replace hC := Lib.hid hC
  replace hc := Lib.hid hc
  replace hp := Lib.hid hp
  replace hpd := Lib.hid hpd
  replace hAS := Lib.hid hAS
  replace hmw1 := Lib.hid hmw1
  replace hm01 := Lib.hid hm01
  replace b0 := Lib.hid b0
  replace b0' := Lib.hid b0'
  replace b1 := Lib.hid b1
  replace hlt := Lib.hid hlt
  replace np := Lib.hid np
  replace hsN := Lib.hid hsN
  replace hcr := Lib.hid hcr
  replace hne := Lib.hid hne
  replace hps := Lib.hid hps
  replace m0 := Lib.hid m0
  replace m1 := Lib.hid m1
  go_wp2_with fail
  refine hC.out.mono ?_
  rintro e w2 hrr
  obtain ⟨rfl, m2, hc2, hpd2, hm2⟩ := hrr.sure (n := 999000000) (c := 0) hcW.out hpd.out hps.out
  have hnB : ¬ A.S w1.heap.size := fun e => by have := hlt.out _ e; omega
  have hnV : ¬ A.S (w1.heap.size + 1) := fun e => by have := hlt.out _ e; omega
  have hA0 : NEa w w2 w1.heap.size (w1.heap.size + 1) most 100000000 0 0 :=
    ⟨A, m2, _, pb, hc2.less (by omega) (Nat.le_refl 0), hne.out, Blk.mod hpW.out hm2 np.out, b0'.out.mod hm2 hnB, hnB, hnV, hAS.out,
     ⟨b1.out.mod hm2 hnV, ((hmw1.out.trans hm01.out).step hm2 fun i hi e => absurd hi (by have := hAS.out i e; omega))⟩⟩
  have hBs : w.heap.size ≤ w1.heap.size := hsz1
  clear hrr k0 kl hc1 z0 z1 hX0 hcW hpW hC hc2 hpd2 hm2 hnB hnV hc hp hpd hAS b0 b0' b1 hlt np hsN hcr hne hps m0 m1 hm01
  obtain ⟨B, hB1⟩ : ∃ B, w1.heap.size = B := ⟨_, rfl⟩
  rw [hB1] at hA0 hBs
  replace hA0 := Lib.hid hA0
  replace hmw1 := Lib.hid hmw1
  go_wp2
  go_loopw [11, 12] (fun v i wr => ∃ k c : Nat, k ≤ l.length ∧ v = .int .i64 c ∧ i = .int .i64 k ∧ c ≤ most ∧ NEa w wr B (B + 1) most ((100 - k) * 1000000) k c) (fun _ i _ => l.length - (RowKit.intOf i).toNat)
  case atStart => exact ⟨0, 0, by omega, rfl, rfl, by omega, hA0.out⟩
  case round =>
    obtain ⟨k, c, hk, rfl, rfl, hcm, hne⟩ := hrel
    by_cases hlt : k < l.length
    · obtain ⟨b, off, rfl, hpo⟩ := h3.out (by omega)
      obtain ⟨x, hxk⟩ : ∃ x, l[k] = x := ⟨_, rfl⟩
      have hx := hpo k hlt
      rw [hxk] at hx
      clear hpo
      have hmod : Mod Nowhere w wr := by obtain ⟨_, _, _, _, _, _, _, _, _, _, _, h⟩ := hne; exact h.mod
      have hkX : ∀ W, Mod Nowhere w W → W.cell? ⟨b, off + k * 11, none⟩ = some (.int .i64 x.op) ∧ W.cell? ⟨b, off + k * 11 + 9, none⟩ = some x.av ∧ b < W.heap.size := fun W hm => by
        have h := hx.fresh hm
        exact ⟨h.cell 0 (by omega), h.cell 9 (by omega), h.lt⟩
      obtain ⟨xa, xc, hxa, hxl1, hxl2, -⟩ := hx.sa
      simp only [hxa] at hkX
      obtain ⟨k0, k9, kl⟩ := hkX wr hmod
      obtain ⟨g, hg⟩ : ∃ g, x.a = g := ⟨_, rfl⟩
      rw [hg] at hkX k9
      have hk25 : k ≤ 25 := by omega
      by_cases h40 : 40 < g.length
      · have h40i : (40 : Int) < (g.length : Int) := by omega
        have hfin := hbl.out _ hmod
        replace hne := Lib.hid hne
        replace hkX := Lib.hid hkX
        replace hx := Lib.hid hx
        replace hxk := Lib.hid hxk
        replace hxa := Lib.hid hxa
        replace hg := Lib.hid hg
        replace hfin := Lib.hid hfin
        replace hmod := Lib.hid hmod
        go_wp2
        go_ret
        exact ⟨rfl, hfin.out⟩
      · have h40i : ¬ (40 : Int) < (g.length : Int) := by omega
        replace hne := Lib.hid hne
        replace hkX := Lib.hid hkX
        replace hx := Lib.hid hx
        replace hxk := Lib.hid hxk
        replace hxa := Lib.hid hxa
        replace hg := Lib.hid hg
        replace hmod := Lib.hid hmod
        obtain ⟨q, hqd⟩ : ∃ q, (decide (k < zs.length) && decide (zs.getD k 0 % 3 = 0)) = q := ⟨_, rfl⟩
        go_upto_region 16 with (fail)
        go_cut [66] (fun v wx => v = .bool q ∧ wr = wx)
        case first =>
          by_cases hz : k < zs.length
          · have hzi : (k : Int) < (zs.length : Int) := by omega
            obtain ⟨b2, off2, rfl, hb2, hcell⟩ := i3.out (by omega)
            have hck := (hmod.out.cell (p := ⟨b2, off2 + k, none⟩) hb2 (fun e => e)).trans (hcell k hz)
            have hl2 : b2 < wr.heap.size := Nat.lt_of_lt_of_le hb2 hmod.out.size
            have hz16 : zs.getD k 0 < 65536 := iz.out _ (by rw [List.getD_eq_getElem?_getD, List.getElem?_eq_getElem hz]; exact List.getElem_mem hz)
            rw [decide_eq_true hz, Bool.true_and] at hqd
            obtain ⟨z, hzz⟩ : ∃ z, zs.getD k 0 = z := ⟨_, rfl⟩
            rw [hzz] at hck hz16 hqd
            have t3 : (z : Int).tmod 3 = ((z % 3 : Nat) : Int) := u16_rem z 3 hz16 (by omega) (by omega)
            clear hcell
            by_cases h30 : z % 3 = 0
            · rw [h30] at t3 hqd
              obtain rfl : q = true := by rw [← hqd]; rfl
              clear hqd
              replace hzz := Lib.hid hzz
              replace h30 := Lib.hid h30
              go_wp2
              go_meet
              case rel => exact ⟨rfl, rfl⟩
            · obtain rfl : q = false := by rw [← hqd]; simpa using h30
              have t0 : ((z : Int) % 3 == 0) = false := beq_false_of_ne (by omega)
              clear hqd t3
              replace hzz := Lib.hid hzz
              replace h30 := Lib.hid h30
              go_wp2
              go_meet
              case rel => exact ⟨by first | rfl | rw [t0], rfl⟩
          · have hzi : ¬ (k : Int) < (zs.length : Int) := by omega
            obtain rfl : q = false := by rw [← hqd, decide_eq_false hz]; rfl
            clear hqd
            go_wp2
            go_meet
            case rel => exact ⟨rfl, rfl⟩
        case rest =>
          obtain ⟨rfl, rfl⟩ := hcut
          go_upto_if 66 with (fail)
          go_cut [] (fun wx => NEa w wx B (B + 1) most ((100 - k) * 1000000) k c)
          case first =>
            cases q
            · clear hqd
              go_wp2
              go_meet
              case rel => exact hne.out
            · simp only [Bool.and_eq_true, decide_eq_true_eq] at hqd
              obtain ⟨hz, h30⟩ := hqd
              obtain ⟨b2, off2, rfl, hb2, hcell⟩ := i3.out (by omega)
              have hck := (hmod.out.cell (p := ⟨b2, off2 + k, none⟩) hb2 (fun e => e)).trans (hcell k hz)
              have hl2 : b2 < wr.heap.size := Nat.lt_of_lt_of_le hb2 hmod.out.size
              have hz16 : zs.getD k 0 < 65536 := iz.out _ (by rw [List.getD_eq_getElem?_getD, List.getElem?_eq_getElem hz]; exact List.getElem_mem hz)
              obtain ⟨z, hzz⟩ : ∃ z, zs.getD k 0 = z := ⟨_, rfl⟩
              rw [hzz] at hck hz16 h30
              clear hcell
              obtain ⟨A, m, s, pb, g1, g2, g3, g4, g5, g6, g7, g8⟩ := hne.out
              have hCt := Cut_ok (g1.fresh ((Mod.refl Nowhere wr).drew)).rep.mem.1 g1.off (z / 3 % 1500) (by omega)
              have e0 : IntKind.u16.wrap ((z : Int) / 3) = ((z / 3 : Nat) : Int) := by
                have h : (z : Int) / 3 = ((z / 3 : Nat) : Int) := by omega
                rw [h]
                rw [show ∀ n, IntKind.u16.wrap n = n % 65536 from fun n => by simp [IntKind.wrap, IntKind.bits, IntKind.signed]]; omega
              have e1 : IntKind.i64.wrap ((IntKind.u16.wrap ((z : Int) / 3)).tmod 1500) = ((z / 3 % 1500 : Nat) : Int) := by
                have h : ((z / 3 : Nat) : Int).tmod 1500 = ((z / 3 % 1500 : Nat) : Int) := u16_rem (z / 3) 1500 (by omega) (by omega) (by omega)
                rw [e0, h, IntKind.wrap_i64]; omega
              clear e0
              rw [← e1] at hCt
              have kB := g4.cell 0
              simp only [List.getElem?_cons_zero] at kB
              have kBl := g4.lt
              have hzi : (k : Int) < (zs.length : Int) := by omega
              have hkZ : ∀ W, Mod A.M.S wr W → W.cell? ⟨B, 0, none⟩ = some (ptr A.M.mb) ∧ W.cell? ⟨b2, off2 + k, none⟩ = some (.int .u16 z) := fun W hm =>
                ⟨(g4.mod hm (fun e => g5 (.inr (.inr e)))).cell 0, (hm.cell (p := ⟨b2, off2 + k, none⟩) hl2 (fun e => absurd hb2 (by have : w.heap.size ≤ b2 := g7 _ (.inr (.inr e)); omega))).trans hck⟩
              have hmd := ((Mod.refl Nowhere wr).drew).nowhere (S := A.M.S)
              replace hkZ := Lib.hid hkZ
              replace hmd := Lib.hid hmd
              replace hzz := Lib.hid hzz
              replace h30 := Lib.hid h30
              replace g1 := Lib.hid g1
              replace g2 := Lib.hid g2
              replace g3 := Lib.hid g3
              replace g4 := Lib.hid g4
              replace g5 := Lib.hid g5
              replace g6 := Lib.hid g6
              replace g7 := Lib.hid g7
              replace g8 := Lib.hid g8
              replace hCt := Lib.hid hCt
              replace e1 := Lib.hid e1
              go_wp2
              go_region_held3 (fun w' => w'.cell? ⟨B, 0, none⟩ = some (ptr A.M.mb) ∧ w'.cell? ⟨b2, off2 + k, none⟩ = some (.int .u16 z)) (simp [*, World.cell?_alloc_some, World.cell?_setCell_far, World.cell?_setCell_other])
                (first
                  | (go_at_call 9; (with_reducible refine hCt.out.mono ?_); rintro e w2 ⟨rfl, hr2, hm2⟩; obtain ⟨y1, y2⟩ := hkZ.out w2 (hmd.out.trans hm2); replace hr2 := Lib.hid hr2; replace hm2 := Lib.hid hm2)
                  | fail)
              have hx2 : NEa w w2 B (B + 1) most ((100 - k) * 1000000) k c := by
                have hmd := (Mod.refl Nowhere wr).drew
                have hmM : Mod A.M.S wr w2 := hmd.nowhere.trans hm2.out
                have hmS : Mod A.S wr w2 := hmM.mono fun _ _ e => .inr (.inr e)
                exact ⟨A, _, s, pb, (g1.out.fresh hmd).plan hm2.out hr2.out, g2.out, Blk.mod g3.out hmS (g3.out.notS g1.out.rep), g4.out.mod hmS g5.out, g5.out, g6.out, g7.out, g8.out.step hmS g7.out g6.out⟩
              replace hx2 := Lib.hid hx2
              go_wp2
              go_meet
              case rel => exact hx2.out
          case rest =>
            have hne2 : NEa w wc B (B + 1) most ((100 - k) * 1000000) k c := hcut
            clear hcut hne k0 k9 kl hmod
            obtain ⟨A, m, s, pb, g1, g2, g3, g4, g5, g6, g7, g8⟩ := hne2
            obtain ⟨n2, hn2, hn3⟩ : ∃ n2, (100 - k) * 1000000 = n2 + 511392 ∧ (100 - (k + 1)) * 1000000 + 62580 ≤ n2 := ⟨(100 - k) * 1000000 - 511392, by omega, by omega⟩
            rw [hn2] at g1
            have hmod := g8.mod
            obtain ⟨k0, k9, kl⟩ := hkX.out wc hmod
            have kB1 := g4.cell 1
            have kB2 := g4.cell 2
            simp only [List.getElem?_cons_zero, List.getElem?_cons_succ] at kB1 kB2
            have kBl := g4.lt
            obtain ⟨op, hop⟩ : ∃ op, x.op = op := ⟨_, rfl⟩
            rw [hop] at k0
            replace g1 := Lib.hid g1
            replace g2 := Lib.hid g2
            replace g3 := Lib.hid g3
            replace g4 := Lib.hid g4
            replace g5 := Lib.hid g5
            replace g6 := Lib.hid g6
            replace g7 := Lib.hid g7
            replace g8 := Lib.hid g8
            replace hmod := Lib.hid hmod
            replace hn2 := Lib.hid hn2
            replace hn3 := Lib.hid hn3
            replace hop := Lib.hid hop
            replace hqd := Lib.hid hqd
            go_upto_block 2 with (fail)
            go_cut [11] (fun v wx => ∃ c' : Nat, v = .int .i64 c' ∧ c' ≤ most ∧ (NEa w wx B (B + 1) most n2 k c' ∨ NEg w wx B (B + 1) most n2 (k + 1) c'))
            case first =>
              by_cases h6 : op = 6
              · subst h6
                obtain ⟨nb, pbb⟩ := ne_begin g2.out g1.out.psp
                have hBg := vBegin_is g1.out.rep
                clear k9
                replace hBg := Lib.hid hBg
                replace nb := Lib.hid nb
                replace pbb := Lib.hid pbb
                go_wp2_with fail
                refine hBg.out.mono ?_
                rintro e w5 hs5
                obtain ⟨rfl, hx5⟩ := NEa.sure g1.out g3.out g4.out g5.out g6.out g7.out g8.out hs5 pbb.out nb.out
                clear hs5
                replace hx5 := Lib.hid hx5
                go_wp2
                go_meet
                case rel => exact ⟨c, rfl, hcm, .inl hx5.out⟩
              · by_cases h7 : op = 7
                · subst h7
                  obtain ⟨nb, pbb, hff⟩ := ne_commit (Z := A.Z) g2.out g1.out.psp g1.out.z
                  have hBg := vCommit_ok g1.out.rep (by rw [g2.out.l]; exact Nat.zero_le _) (by rw [g1.out.cost]; exact g1.out.room (by omega) (by omega))
                  rw [g1.out.cost] at hBg
                  clear k9
                  replace hBg := Lib.hid hBg
                  replace nb := Lib.hid nb
                  replace pbb := Lib.hid pbb
                  replace hff := Lib.hid hff
                  go_wp2_with fail
                  refine hBg.out.mono ?_
                  rintro e w5 hs5
                  rcases hs5 with ⟨m', j, rfl, hv, hj, hr5, hm5⟩ | ⟨m', f, rfl, hf, hd, hst, hm5⟩
                  · have hx5 : NEa w w5 B (B + 1) most n2 k c := NEa.call (x := c) (y := c) g1.out g3.out g4.out g5.out g6.out g7.out g8.out hr5 (by omega) hv pbb.out nb.out hm5
                    clear hv hr5 hm5 hj
                    replace hx5 := Lib.hid hx5
                    go_wp2
                    go_meet
                    case rel => exact ⟨c, rfl, hcm, .inl hx5.out⟩
                  · have hfe : f = s.f := by
                      rcases hf with rfl | rfl
                      · rfl
                      · exact hff.out
                    subst hfe
                    have hx5 : NEg w w5 B (B + 1) most n2 (k + 1) c := NEg.of g1.out g4.out g5.out g6.out g7.out g8.out (hst.mono (by omega)) (PGone.of hd) (g2.out.nef g1.out.psp) hm5
                    clear hd hst hm5 hf
                    replace hx5 := Lib.hid hx5
                    go_wp2
                    go_meet
                    case rel => exact ⟨c, rfl, hcm, .inr hx5.out⟩
                · by_cases h8' : op = 8
                  · subst h8'
                    obtain ⟨nb, pbb⟩ := ne_abort g2.out g1.out.psp
                    have hBg := vAbort_is g1.out.rep
                    clear k9
                    replace hBg := Lib.hid hBg
                    replace nb := Lib.hid nb
                    replace pbb := Lib.hid pbb
                    go_wp2_with fail
                    refine hBg.out.mono ?_
                    rintro e w5 hs5
                    obtain ⟨rfl, hx5⟩ := NEa.sure g1.out g3.out g4.out g5.out g6.out g7.out g8.out hs5 pbb.out nb.out
                    clear hs5
                    replace hx5 := Lib.hid hx5
                    go_wp2
                    go_meet
                    case rel => exact ⟨c, rfl, hcm, .inl hx5.out⟩
                  · have q6 : (op == 6) = false := by simpa using h6
                    have q7 : (op == 7) = false := by simpa using h7
                    have q8 : (op == 8) = false := by simpa using h8'
                    obtain ⟨c', hc', hN, hP, hor, hmid⟩ := ne_guess (Z := A.Z) (g := g) hm1 hm15 g2.out g1.out.psp g1.out.z
                    have hl0 : s.l.length ≤ 90000 := by rw [g2.out.l]; exact Nat.zero_le _
                    have hbx : ∀ W, Mod A.S wc W → Mod Nowhere w W := fun W hm => hmod.out.step hm fun i hi e => absurd hi (by have := g7.out i e; omega)
                    have hsg : SrcS A wc (.slice xa g.length xc) g := fun W hm => by
                      have h := hx.out.sa.fresh (hbx W hm)
                      rw [hxa.out, hg.out] at h
                      exact h
                    have hbg : Bytes g := by rw [← hg.out]; exact hx.out.ba
                    have hV := pinVerify_ok (Blk.mod g3.out ((Mod.refl Nowhere wc).drew) (fun e => e)) (g1.out.rep.fresh ((Mod.refl Nowhere wc).drew)) hl0 g1.out.psp.ps g1.out.z g1.out.two 3 (by decide) (by decide) (hsg.mod ((Mod.refl Nowhere wc).drew.nowhere)) hbg (by rw [g1.out.cost]; exact g1.out.room (by omega) (by omega))
                    rw [g1.out.cost] at hV
                    obtain ⟨G, hG⟩ : ∃ G, pVer A.Z s 3 g = G := ⟨_, rfl⟩
                    rw [hG] at hV hN hP hor hmid
                    have hkS : ∀ W, Mod A.S wc W → W.cell? ⟨B, 2, none⟩ = some (ptr pb) ∧ W.cell? ⟨b, off + k * 11 + 9, none⟩ = some (.slice xa g.length xc) ∧ b < W.heap.size := fun W hm =>
                      ⟨(g4.out.mod hm g5.out).cell 2, (hkX.out W (hbx W hm)).2.1, (hkX.out W (hbx W hm)).2.2⟩
                    have hSm : ∀ W, Mod A.S wc W → Calls Tryz.prog 14 #[.slice xa g.length xc, .slice (some ⟨B + 1, 0, none⟩) 4 4] W fun e w' => e = .returned (.bool (decide (g = neV))) ∧ Mod Nowhere W w' := fun W hm =>
                      rSame_ok (hsg W hm) ((g8.out.kv.mod hm g6.out).src (by decide)) hbg (bytesOf rfl) (by omega) (by decide)
                    have hmd := ((Mod.refl Nowhere wc).drew).nowhere (S := A.S)
                    have hki : (k : Int) < (l.length : Int) := by omega
                    replace hV := Lib.hid hV
                    replace hN := Lib.hid hN
                    replace hP := Lib.hid hP
                    replace hor := Lib.hid hor
                    replace hmid := Lib.hid hmid
                    replace hG := Lib.hid hG
                    replace hkS := Lib.hid hkS
                    replace hSm := Lib.hid hSm
                    replace hbx := Lib.hid hbx
                    replace hsg := Lib.hid hsg
                    replace hbg := Lib.hid hbg
                    replace hl0 := Lib.hid hl0
                    replace hmd := Lib.hid hmd
                    go_wp2
                    go_region_held3 (fun w' => w'.cell? ⟨B, 2, none⟩ = some (ptr pb) ∧ w'.cell? ⟨b, off + k * 11 + 9, none⟩ = some (.slice xa g.length xc)) (simp [*, World.cell?_alloc_some, World.cell?_setCell_far, World.cell?_setCell_other])
                      (first
                        | (go_at_call 13; (with_reducible refine hV.out.mono ?_); rintro e w5 hc5; obtain ⟨ri, rj, rfl⟩ := hc5.no; have hm5 := hmd.out.trans hc5.modS; obtain ⟨y1, y2, y3⟩ := hkS.out w5 hm5; replace hm5 := Lib.hid hm5; replace hc5 := Lib.hid hc5)
                        | fail)
                    rcases hc5.out with ⟨m', j, e1, hv, hj, hr5, -⟩ | ⟨m', f, e1, hf, hg5, hst, -⟩
                    · obtain ⟨rfl, rfl⟩ := tup_inj e1
                      have hx5 : NEa w w5 B (B + 1) most n2 k c' := NEa.call (x := c) (y := c) g1.out g3.out g4.out g5.out g6.out g7.out g8.out hr5 hj hv hP.out hN.out hm5.out
                      have hSm5 := hSm.out w5 hm5.out
                      clear hv hr5 hj e1 hc5
                      obtain ⟨lf, hlf⟩ : ∃ lf, G.left = lf := ⟨_, rfl⟩
                      obtain ⟨er, her⟩ : ∃ er, G.e = er := ⟨_, rfl⟩
                      have hor2 := hor.out
                      rw [hlf, her] at hor2
                      rw [hlf, her]
                      rcases hor2 with ⟨rfl, rfl, hle, -⟩ | ⟨rfl, rfl, hgv, rfl⟩ | ⟨rfl, rfl⟩
                      · have v1 : IntKind.i64.wrap ((c : Int) + 1) = (c : Int) + 1 := by rw [IntKind.wrap_i64]; omega
                        have v2 : IntKind.i64.wrap ((most : Int) - ((c : Int) + 1)) = (most : Int) - ((c : Int) + 1) := by rw [IntKind.wrap_i64]; omega
                        have v3 : ¬ ((most : Int) - ((c : Int) + 1) < (lf : Int)) := by omega
                        have hfin : ∃ c' : Nat, Value.int .i64 ((c : Int) + 1) = .int .i64 c' ∧ c' ≤ most ∧ (NEa w w5 B (B + 1) most n2 k c' ∨ NEg w w5 B (B + 1) most n2 (k + 1) c') := ⟨c + 1, by go_num, hc', .inl hx5⟩
                        replace hx5 := Lib.hid hx5
                        replace hSm5 := Lib.hid hSm5
                        replace hlf := Lib.hid hlf
                        replace her := Lib.hid her
                        replace hfin := Lib.hid hfin
                        go_wp2
                        go_meet
                        case rel => exact hfin.out
                      · rw [decide_eq_true hgv] at hSm5
                        replace hx5 := Lib.hid hx5
                        replace hSm5 := Lib.hid hSm5
                        replace hlf := Lib.hid hlf
                        replace her := Lib.hid her
                        replace hgv := Lib.hid hgv
                        go_wp2_with fail
                        refine hSm5.out.mono ?_
                        rintro e w6 ⟨rfl, hm6⟩
                        have hx6 := hx5.out.fresh hm6
                        replace hx6 := Lib.hid hx6
                        replace hm6 := Lib.hid hm6
                        go_wp2
                        go_meet
                        case rel => exact ⟨0, rfl, by omega, .inl hx6.out⟩
                      · replace hx5 := Lib.hid hx5
                        replace hSm5 := Lib.hid hSm5
                        replace hlf := Lib.hid hlf
                        replace her := Lib.hid her
                        go_wp2
                        go_meet
                        case rel => exact ⟨c', rfl, hcm, .inl hx5.out⟩
                    · obtain ⟨rfl, rfl⟩ := tup_inj e1
                      have hx5 : NEg w w5 B (B + 1) most n2 (k + 1) (if g = neV then 0 else c) := NEg.of g1.out g4.out g5.out g6.out g7.out g8.out hst hg5 (hmid.out f hf) hm5.out
                      have hSm5 := hSm.out w5 hm5.out
                      clear hg5 hst e1 hc5 hf
                      by_cases hgv : g = neV
                      · rw [decide_eq_true hgv] at hSm5
                        rw [if_pos hgv] at hx5
                        replace hx5 := Lib.hid hx5
                        replace hSm5 := Lib.hid hSm5
                        replace hgv := Lib.hid hgv
                        go_wp2_with fail
                        refine hSm5.out.mono ?_
                        rintro e w6 ⟨rfl, hm6⟩
                        have hx6 := hx5.out.fresh hm6
                        replace hx6 := Lib.hid hx6
                        replace hm6 := Lib.hid hm6
                        go_wp2
                        go_meet
                        case rel => exact ⟨0, rfl, by omega, .inr hx6.out⟩
                      · rw [decide_eq_false hgv] at hSm5
                        rw [if_neg hgv] at hx5
                        replace hx5 := Lib.hid hx5
                        replace hSm5 := Lib.hid hSm5
                        replace hgv := Lib.hid hgv
                        go_wp2_with fail
                        refine hSm5.out.mono ?_
                        rintro e w6 ⟨rfl, hm6⟩
                        have hx6 := hx5.out.fresh hm6
                        replace hx6 := Lib.hid hx6
                        replace hm6 := Lib.hid hm6
                        go_wp2
                        go_meet
                        case rel => exact ⟨c, rfl, hcm, .inr hx6.out⟩
            case rest =>
              obtain ⟨c', rfl, hc', hst⟩ := hcut
              clear k0 k9 kl kB1 kB2 kBl
              have hcmi : ¬ ((most : Int) < (c' : Int)) := by omega
              rcases hst with hx5 | hx5
              · obtain ⟨A', m', s', pb', f1, f2, f3, f4, f5, f6, f7, f8⟩ := hx5
                have hPw := Power_ok f1.rep.mem.1
                rw [f1.off] at hPw
                have kB0 := f4.cell 0
                simp only [List.getElem?_cons_zero, List.getElem?_cons_succ] at kB0
                have kBl := f4.lt
                have hfin : ∃ k' c : Nat, k' ≤ l.length ∧ Value.int .i64 (c' : Int) = .int .i64 c ∧ Value.int .i64 ((k : Int) + 1) = .int .i64 k' ∧ c ≤ most ∧ NEa w wc B (B + 1) most ((100 - k') * 1000000) k' c :=
                  ⟨k + 1, c', by omega, rfl, by go_num, hc', A', m', s', pb', f1.less (Nat.le_trans (Nat.le_add_right _ _) hn3.out) (by omega), f2, f3, f4, f5, f6, f7, f8⟩
                replace hPw := Lib.hid hPw
                replace f1 := Lib.hid f1
                replace f2 := Lib.hid f2
                replace f3 := Lib.hid f3
                replace f4 := Lib.hid f4
                replace f5 := Lib.hid f5
                replace f6 := Lib.hid f6
                replace f7 := Lib.hid f7
                replace f8 := Lib.hid f8
                replace hfin := Lib.hid hfin
                go_wp2_with fail
                refine hPw.out.mono ?_
                rintro e w7 ⟨rfl, rfl⟩
                go_wp2
                go_roundw
                case rel => exact hfin.out
                case measure => simp [RowKit.intOf]; omega
              · obtain ⟨M, m', f, v', p', f1, f2, f3, f4, f5, f6, f7, f8⟩ := hx5
                have hPw := Power_ok f1.rep
                rw [f2] at hPw
                have hAg := again21_ok (n := (100 - (k + 1)) * 1000000) (f1.less hn3.out (Nat.le_refl _)) (by omega) f3.inv f3.pairs (ptr v') (ptr p')
                have kB0 := f4.cell 0
                have kB1 := f4.cell 1
                have kB2 := f4.cell 2
                simp only [List.getElem?_cons_zero, List.getElem?_cons_succ] at kB0 kB1 kB2
                have kBl := f4.lt
                replace hPw := Lib.hid hPw
                replace hAg := Lib.hid hAg
                replace f1 := Lib.hid f1
                replace f2 := Lib.hid f2
                replace f3 := Lib.hid f3
                replace f4 := Lib.hid f4
                replace f5 := Lib.hid f5
                replace f6 := Lib.hid f6
                replace f7 := Lib.hid f7
                replace f8 := Lib.hid f8
                go_wp2_with fail
                refine hPw.out.mono ?_
                rintro e w7 ⟨rfl, rfl⟩
                go_wp2_with fail
                refine hAg.out.mono ?_
                rintro e w8 ⟨A', m8, pb', rfl, eM, hcd, hp8, hpb8, hAS8, -, hm8⟩
                unfold cardV
                have g8' := f4.out.mod hm8 f5.out
                have j0 := g8'.cell 0
                have j1 := g8'.cell 1
                have j2 := g8'.cell 2
                simp only [List.getElem?_cons_zero, List.getElem?_cons_succ] at j0 j1 j2
                have jf := g8'.frozen
                have jl := g8'.lt
                obtain ⟨b9, m9⟩ := set3 g8' (ptr A'.M.mb) (ptr A'.vb) (ptr pb')
                have hx9 := NEg.again (n := (100 - (k + 1)) * 1000000) (most := most) (x := c') kBl f3.out f5.out f6.out f7.out f8.out eM { hcd with rep := hcd.rep.keepB m9 g8' (by decide) } (Blk.mod hp8 m9 (fun e => by have e : pb' = B := e; omega)) b9 hAS8
                  ((f8.out.kv.mod hm8 f6.out).mod m9 (fun e => by have e : B + 1 = B := e; omega)) ((f8.out.mod.step hm8 fun i hi e => absurd hi (by have := f7.out i e; omega)).step m9 fun i hi e => absurd hi (by have e : i = B := e; omega))
                have hfin : ∃ k' c : Nat, k' ≤ l.length ∧ Value.int .i64 (c' : Int) = .int .i64 c ∧ Value.int .i64 ((k : Int) + 1) = .int .i64 k' ∧ c ≤ most ∧ NEa w (((w8.setCell ⟨B, 0, none⟩ (ptr A'.M.mb)).setCell ⟨B, 1, none⟩ (ptr A'.vb)).setCell ⟨B, 2, none⟩ (ptr pb')) B (B + 1) most ((100 - k') * 1000000) k' c :=
                  ⟨k + 1, c', by omega, rfl, by go_num, hc', hx9⟩
                clear hcd hp8 hpb8 hAS8 b9 m9 hx9
                replace g8' := Lib.hid g8'
                replace hm8 := Lib.hid hm8
                replace eM := Lib.hid eM
                replace hfin := Lib.hid hfin
                go_wp2
                go_roundw
                case rel => exact hfin.out
                case measure => simp [RowKit.intOf]; omega
    · obtain rfl : k = l.length := by omega
      have hmod : Mod Nowhere w wr := by obtain ⟨_, _, _, _, _, _, _, _, _, _, _, h⟩ := hne; exact h.mod
      replace hne := Lib.hid hne
      replace hmod := Lib.hid hmod
      go_wp2_with fail
      refine (hE.out _).mono ?_
      rintro e w2 ⟨rfl, hm2⟩
      have hfin := hbl.out _ (hmod.out.trans hm2)
      go_wp2
      go_ret
      exact ⟨rfl, hfin⟩
end Go.Proofs.YtjanpegbemepgaaGreat
