/-
  The law of chapter 25 about cuts: the walk.
-/
import Derived.Test.YtikkodanpbmmkaaGreatLyO
import Derived.Test.YtikkodanpbmmkaaGreatVz
set_option linter.unusedVariables false
set_option linter.unusedSimpArgs false
namespace Go.Proofs.YtikkodanpbmmkaaGreat
open Go.RowKit
open Jn Vn
attribute [local go_sem] Oper.semAt_some

set_option maxRecDepth 100000 in
set_option maxHeartbeats 1000000 in
theorem lState_dead {w : World} {A : VAt} {m : Mem} {P : PAt} {p : PSt} (h : VStub w A m P p) (ha : alive m p = false) {lb : Nat} (hb : Blk w lb [ptr A.vb] 42) :
    Calls Tryz.prog 26 #[ptr lb] w fun e w' => e = .returned (.int .i64 0) ∧ Mod Nowhere w w' := by
  have hA := vAlive_ok h
  rw [ha] at hA
  have c0 := hb.cell 0
  have hlb := hb.lt
  simp only [List.getElem?_cons_zero] at c0
  replace hA := Lib.hid hA
  go_enter Tryz.func26, Tryz.ntmps26
  go_wp2_with fail
  refine hA.out.mono ?_
  rintro e w1 ⟨rfl, k, rfl⟩
  have hm1 : Mod Nowhere w (w.drewN k) := (Mod.refl Nowhere w).drewN k
  go_wp2
  go_ret
  exact ⟨rfl, hm1⟩
/-- What a change returns when the power is off. -/
def deadE (b : Bool) : Nat := if b = true then 7 else 1
set_option maxRecDepth 100000 in
set_option maxHeartbeats 1000000 in
theorem lSet_dead {w : World} {A : VAt} {m : Mem} {P : PAt} {p : PSt} (h : VStub w A m P p) (ha : alive m p = false) {lb : Nat} (hb : Blk w lb [ptr A.vb] 42) (t : Int) :
    Calls Tryz.prog 24 #[ptr lb, .int .i64 t] w fun e w' => e = .returned (errno (deadE (hasB 0 t))) ∧ Mod Nowhere w w' := by
  have hH := fun W => has_ok (w := W) 0 t
  have hA : ∀ W, Mod Nowhere w W → Calls Tryz.prog 56 #[ptr A.vb] W fun e w' => e = .returned (.bool false) ∧ ∃ n, w' = W.drewN n := fun W hm => by
    have hA := vAlive_ok (h.mod hm)
    rw [ha] at hA
    exact hA
  have hc0 := fun W (hm : Mod Nowhere w W) => (hb.mod hm id).cell 0
  have hlb := hb.lt
  simp only [List.getElem?_cons_zero] at hc0
  have k0 := hc0 w (Mod.refl _ _)
  generalize hasB 0 t = hbt at *
  replace hH := Lib.hid hH
  replace hA := Lib.hid hA
  replace hc0 := Lib.hid hc0
  clear h hb ha
  cases hbt
  · rw [show deadE false = 1 from rfl]
    go_enter Tryz.func24, Tryz.ntmps24
    go_wp2_with fail
    refine (hH.out _).mono ?_
    rintro e w1 ⟨rfl, hm1⟩
    go_wp2
    go_ret
    exact ⟨rfl, hm1⟩
  · rw [show deadE true = 7 from rfl]
    go_enter Tryz.func24, Tryz.ntmps24
    go_wp2_with fail
    refine (hH.out _).mono ?_
    rintro e w1 ⟨rfl, hm1⟩
    have k1 := hc0.out w1 hm1
    have hA1 := hA.out w1 hm1
    have hl1 : lb < w1.heap.size := Nat.lt_of_lt_of_le hlb hm1.size
    replace hA1 := Lib.hid hA1
    go_wp2_with fail
    refine hA1.out.mono ?_
    rintro e w2 ⟨rfl, n, rfl⟩
    have hm2 : Mod Nowhere w (w1.drewN n) := hm1.drewN n
    go_wp2
    go_ret
    exact ⟨rfl, hm2⟩
theorem LInv.idle0 {s : VSt} (h : LInv s) : LInv (vst0 s.f) := ⟨h.f0, h.f1, fun r hr => (List.not_mem_nil hr).elim⟩
theorem cur_idle {s : VSt} (h : s.l = []) : cur (vst0 s.f) = cur s := by
  unfold cur vst0
  rw [h]
theorem VNew.up0 {w w' : World} {v : Ending} (h : VNew 16384 1073741824 w v w') : ∃ A m, v = .returned (.tuple #[ptr A.M.mb, ptr A.vb, errno 0]) ∧ Up w' A m (vst0 none_) 1000000000 ∧ m.pending = false ∧ A.cuts = 0 ∧ (∀ k, A.S k → w.heap.size ≤ k) ∧ Mod Nowhere w w' := by
  obtain ⟨A, m, k, a, b, c, d, e, f, g, i, j⟩ := h
  refine ⟨A, m, a, ⟨e, LInv.none_, fun _ => rfl, by show 0 ≤ 100; omega, ⟨?_, ?_⟩, g.clean (Mem.new_clean _ _), g.size.trans (Mem.new_size _ _), b, c⟩, g.pend, d, i, j⟩
  · rw [g.writes, g.endu]; show 0 + k + 1000000000 ≤ 1073741824; omega
  · rw [g.cuts]; show 0 < 1099511627776; omega
theorem Up.cut {w w' : World} {A : VAt} {m : Mem} {s : VSt} {n c : Nat} (h : Up w A m s n) (hm : Mod A.M.S w w') (hR : MemRep w' A.M (m.cut c)) : Up w' A (m.cut c) s n :=
  ⟨h.rep.replan hm hR rfl rfl rfl rfl, h.inv, h.idle, h.len, ⟨h.room.endu, h.room.cuts⟩, h.clean.of rfl, h.size, h.cnt, h.frm⟩
theorem hasB_no {t : Int} (h : hasB 0 t = false) : ¬ (1 : Int) ≤ t ∨ (1 ≤ t ∧ ¬ t ≤ 5) := by
  rw [hasB_card] at h
  simp at h
  omega
set_option maxRecDepth 100000 in
set_option maxHeartbeats 16000000 in
theorem lawCuts25_ok (v : Value) (zs : List Int) (t cut : Int) (w : World) (hin : InRow w v zs) : Calls Tryz.prog 7 #[v, .int .i64 t, .int .i64 cut] w fun e w' => e = .returned (.bool true) ∧ Below w.heap.size w w' := by
  obtain ⟨a, cap, rfl, h1, h2, h3⟩ := hin
  have hE := fun W => example25_ok W
  have hbl : ∀ W : World, Mod Nowhere w W → Below w.heap.size w W := fun W h => h.below
  replace hE := Lib.hid hE
  replace hbl := Lib.hid hbl
  by_cases hn : 30 < zs.length
  · have hni : (30 : Int) < (zs.length : Int) := by omega
    go_enter Tryz.func7, Tryz.ntmps7
    go_wp2_with fail
    refine (hE.out _).mono ?_
    rintro e w1 ⟨rfl, hm1⟩
    go_wp2
    go_ret
    exact ⟨rfl, hm1.below⟩
  have hni : ¬ (30 : Int) < (zs.length : Int) := by omega
  by_cases hc0 : cut < 0
  · go_enter Tryz.func7, Tryz.ntmps7
    go_wp2_with fail
    refine (hE.out _).mono ?_
    rintro e w1 ⟨rfl, hm1⟩
    go_wp2
    go_ret
    exact ⟨rfl, hm1.below⟩
  by_cases hc1 : 1000 < cut
  · go_enter Tryz.func7, Tryz.ntmps7
    go_wp2_with fail
    refine (hE.out _).mono ?_
    rintro e w1 ⟨rfl, hm1⟩
    go_wp2
    go_ret
    exact ⟨rfl, hm1.below⟩
  obtain ⟨cn, rfl⟩ : ∃ cn : Nat, cut = (cn : Int) := ⟨cut.toNat, by omega⟩
  have hM := fun W => memory25_ok W
  have hN := fun W => vNew_ok (w := W) (n := 16384) (e := 1073741824) (by omega) (by omega) (by omega) (by omega)
  have hR := fun W c t => rSet_ok (w := W) c t
  replace hM := Lib.hid hM
  replace hN := Lib.hid hN
  replace hR := Lib.hid hR
  replace h3 := Lib.hid h3
  go_enter Tryz.func7, Tryz.ntmps7
  go_wp2_with fail
  refine (hM.out _).mono ?_
  rintro e w1 ⟨rfl, hm1⟩
  replace hm1 := Lib.hid hm1
  go_wp2_with fail
  refine (hN.out _).mono ?_
  rintro e w2 hv
  obtain ⟨A, m, rfl, hup, hpd, hA0, hAS, hm2⟩ := hv.up0
  clear hv
  have hm02 := hm1.out.trans hm2
  have hAn : ∀ k, A.S k → w.heap.size ≤ k := fun k hk => Nat.le_trans hm1.out.size (hAS k hk)
  have hO := lOpen_ok hup.rep hup.inv (by have := hup.len; omega)
  replace hO := Lib.hid hO
  replace hup := Lib.hid hup
  replace hpd := Lib.hid hpd
  replace hAn := Lib.hid hAn
  replace hA0 := Lib.hid hA0
  replace hm02 := Lib.hid hm02
  clear hAS hm2
  go_wp2_with fail
  refine hO.out.mono ?_
  rintro e w3 ⟨lb, rfl, hlb, hbx3, hm3⟩
  have hup3 := hup.out.fresh hm3
  have hm03 := hm02.out.trans hm3
  have hst : Up w3 A m (vst0 none_) ((900 - 0) * 1022784) := hup3.less (by omega)
  replace hbx3 := Lib.hid hbx3
  replace hm03 := Lib.hid hm03
  replace hst := Lib.hid hst
  clear hm3 hO hup3
  go_wp2
  go_loopw [12] (fun i wr => ∃ (k : Nat) (mk : Mem) (st : VSt), k ≤ zs.length ∧ i = .int .i64 k ∧ Up wr A mk st ((900 - k) * 1022784) ∧ mk.pending = false ∧ st.act = false ∧ Blk wr lb [ptr A.vb] 42 ∧ Mod Nowhere w wr) (fun i _ => zs.length - (intOf i).toNat)
  case atStart => exact ⟨0, m, vst0 none_, by omega, rfl, hst.out, hpd.out, rfl, hbx3.out, hm03.out⟩
  case round =>
    obtain ⟨k, mk, st, hk, rfl, hupk, hpdk, hact, hbx, hmk⟩ := hrel
    by_cases hlt : k < zs.length
    · obtain ⟨b, off, rfl, hb, hcell⟩ := h3.out (by omega)
      have hc := (hmk.cell (p := ⟨b, off + k, none⟩) hb id).trans (hcell k hlt)
      have hb2 : b < wr.heap.size := Nat.lt_of_lt_of_le hb hmk.size
      clear hcell
      generalize zs.getD k 0 = t' at *
      have hS := lset_sure (n := (900 - (k + 1)) * 1022784) (hupk.less (by omega)) hpdk (by rw [hupk.idle hact]; decide) hbx t'
      replace hS := Lib.hid hS
      replace hmk := Lib.hid hmk
      replace hact := Lib.hid hact
      replace hbx := Lib.hid hbx
      clear hupk hpdk
      go_wp2_with fail
      refine hS.out.mono ?_
      rintro e w5 ⟨rfl, m5, s5, hup5, hpd5, hc5, ha5, hl5, hm5, hk5⟩
      have hbx5 := hk5 lb hbx.out
      have hm05 := hmk.out.step hm5 fun i hi e => absurd hi (by have := hAn.out i e; omega)
      have hfin : ∃ (k' : Nat) (mk : Mem) (st : VSt), k' ≤ zs.length ∧ Value.int .i64 ((k : Int) + 1) = .int .i64 k' ∧ Up w5 A mk st ((900 - k') * 1022784) ∧ mk.pending = false ∧ st.act = false ∧ Blk w5 lb [ptr A.vb] 42 ∧ Mod Nowhere w w5 :=
        ⟨k + 1, m5, s5, by omega, by go_num, hup5, hpd5, ha5.trans hact.out, hbx5, hm05⟩
      replace hfin := Lib.hid hfin
      clear hup5 hpd5 hc5 ha5 hl5 hm5 hk5 hbx5 hm05
      go_wp2
      go_roundw
      case rel => exact hfin.out
      case measure => simp [intOf]; omega
    · obtain rfl : k = zs.length := by omega
      have hst0 : st.l = [] := hupk.idle hact
      have hupn : Up wr A mk st (100000000 + 1022784) := hupk.less (by omega)
      have hS := lState_ok hupn.rep hupn.inv (by have := hupn.len; omega) hbx
      have hRt := fun W => hR.out W (cur st) t
      obtain ⟨q1, q2, q3, q4, q5, q6⟩ := hupn.inv.set t hupn.z hupn.idle
      have hC5 := fun W (hm : Mod Nowhere wr W) => Cut_ok (hupn.rep.mem.1.mod hm (fun _ _ => id)) hupn.rep.mem.2.1 cn (by omega)
      have hinv := hupn.inv
      have hcc : cur (vst0 st.f) = cur st := cur_idle hst0
      replace hcc := Lib.hid hcc
      obtain ⟨c, hcd⟩ : ∃ c, cur st = c := ⟨_, rfl⟩
      obtain ⟨wn, hwn⟩ : ∃ wn, (setR c t).1 = wn := ⟨_, rfl⟩
      obtain ⟨er, her⟩ : ∃ er, (setR c t).2 = er := ⟨_, rfl⟩
      rw [hcd] at hS q3
      simp only [hcd, hwn, her] at hRt
      rw [hwn] at q3
      have hset := fun W hW hb => lset_up (n := 100000000) (w := W) (A := A) (m := mk.cut cn) (s := st) (lb := lb) hW (by rw [hst0]; decide) hb t
      simp only [hcd, her] at hset
      obtain ⟨st', hst'⟩ : ∃ st', (lSet A.Z st t).1 = st' := ⟨_, rfl⟩
      simp only [hst'] at hset q2 q3 q4 q5
      replace hst0 := Lib.hid hst0
      replace hS := Lib.hid hS
      replace hRt := Lib.hid hRt
      replace hC5 := Lib.hid hC5
      replace hinv := Lib.hid hinv
      replace hcd := Lib.hid hcd
      replace hset := Lib.hid hset
      replace hupn := Lib.hid hupn
      replace q2 := Lib.hid q2
      replace q3 := Lib.hid q3
      replace q4 := Lib.hid q4
      replace q5 := Lib.hid q5
      replace hwn := Lib.hid hwn
      replace her := Lib.hid her
      replace hst' := Lib.hid hst'
      replace hact := Lib.hid hact
      replace hmk := Lib.hid hmk
      replace hbx := Lib.hid hbx
      clear q1 q6 hupk hpdk
      go_wp2_with fail
      refine hS.out.mono ?_
      rintro e w5 ⟨rfl, hm5⟩
      have hup5 := hupn.out.fresh hm5
      have hbx5 := hbx.out.mod hm5 id
      have hm05 := hmk.out.trans hm5
      have hCc := hC5.out w5 hm5
      replace hup5 := Lib.hid hup5
      replace hbx5 := Lib.hid hbx5
      replace hm05 := Lib.hid hm05
      replace hCc := Lib.hid hCc
      clear hm5 hC5
      go_wp2_with fail
      refine (hRt.out _).mono ?_
      rintro e w5' ⟨rfl, rfl⟩
      go_wp2_with fail
      refine hCc.out.mono ?_
      rintro e w6 ⟨rfl, hR6, hm6⟩
      have hup6 := hup5.out.cut hm6 hR6
      have hm6S : Mod A.S w5 w6 := hm6.mono fun _ _ e => .inr (.inr e)
      have hbx6 := hup5.out.life hbx5.out hm6S
      have hm06 := hm05.out.step hm6S fun i hi e => absurd hi (by have := hAn.out i e; omega)
      have hUp := hset.out w6 hup6 hbx6
      have hcl6 := hup6.clean
      have hsz6 := hup6.size
      have hrm6 := hup6.room
      have hcu6 : (mk.cut cn).cuts = 0 := hup6.rep.mem.2.2.2.trans hA0.out
      have hcf : A.count = 682 ∧ A.frames = 819 := ⟨hup6.cnt, hup6.frm⟩
      have hlk := fun W (hm : Mod A.S w6 W) => hup6.life hbx6 hm
      replace hUp := Lib.hid hUp
      replace hm06 := Lib.hid hm06
      replace hcl6 := Lib.hid hcl6
      replace hsz6 := Lib.hid hsz6
      replace hrm6 := Lib.hid hrm6
      replace hcu6 := Lib.hid hcu6
      replace hcf := Lib.hid hcf
      replace hlk := Lib.hid hlk
      clear hR6 hm6 hup6 hm6S hbx6 hup5 hbx5 hset
      go_wp2_with fail
      refine hUp.out.mono ?_
      rintro e w7 (⟨m7, rfl, hup7, hp7, -, hm7⟩ | ⟨m7, f, rfl, hf, hd7, hs7, hm7⟩)
      · have hPw := Power_ok hup7.rep.mem.1
        rw [hup7.rep.mem.2.1] at hPw
        have hbx7 := hlk.out w7 hm7
        have hm07 := hm06.out.step hm7 fun i hi e => absurd hi (by have := hAn.out i e; omega)
        have hS7 := lState_ok hup7.rep hup7.inv (by have := hup7.len; omega) hbx7
        rw [q3.out] at hS7
        replace hPw := Lib.hid hPw
        replace hS7 := Lib.hid hS7
        replace hm07 := Lib.hid hm07
        clear hup7 hp7 hm7 hbx7 hUp
        go_wp2_with fail
        refine hPw.out.mono ?_
        rintro e w8 ⟨rfl, rfl⟩
        go_wp2_with fail
        refine hS7.out.mono ?_
        rintro e w9 ⟨rfl, hm9⟩
        replace hm9 := Lib.hid hm9
        go_wp2_with fail
        refine (hE.out _).mono ?_
        rintro e w10 ⟨rfl, hm10⟩
        have hfin := hbl.out _ ((hm07.out.trans hm9.out).trans hm10)
        go_wp2
        go_ret
        exact ⟨rfl, hfin⟩
      · obtain ⟨P, p, hsb, hal⟩ := hd7.stub
        have hPw := Power_ok hd7.mem
        rw [hs7.off] at hPw
        have hbx7 := hlk.out w7 hm7
        have hm07 := hm06.out.step hm7 fun i hi e => absurd hi (by have := hAn.out i e; omega)
        have hSd := lState_dead hsb hal hbx7
        have hTd := fun W (hm : Mod Nowhere w7 W) => lSet_dead (hsb.mod hm) hal (hbx7.mod hm id) t
        have hRs := fun W (hm : Mod Nowhere w7 W) => Restore_ok (hd7.mem.mod hm (fun _ _ => id))
        have hV : VMem m7.restore 682 819 f := by rw [← hcf.out.1, ← hcf.out.2]; exact hd7.vmem.of rfl rfl
        have hmt := fun W hR => vMount_ok (w := W) (M := A.M) (m := m7.restore) (C := 682) (N := 819) (f := f) hR rfl ((hs7.clean hcl6.out).of rfl) (hs7.good.of rfl) (by show 240 ≤ m7.size; rw [hs7.size, hsz6.out]; omega) (by show m7.size / 24 = 682; rw [hs7.size, hsz6.out]) (by show m7.size / 20 = 819; rw [hs7.size, hsz6.out]) (by omega) hV
          ⟨by show m7.writes + 62580 ≤ m7.endu; have := hs7.hi; have := hrm6.out.endu; rw [hs7.endu]; omega, by show m7.cuts < 1099511627776; rw [hs7.cuts, hcu6.out]; omega⟩
        have hLf : LInv (vst0 f) ∧ (cur (vst0 f) = c ∨ cur (vst0 f) = wn) := by
          rcases hf with rfl | rfl
          · exact ⟨hinv.out.idle0, .inl (hcc.out.trans hcd.out)⟩
          · exact ⟨q2.out.idle0, .inr ((cur_idle (q5.out (q4.out.trans hact.out))).trans q3.out)⟩
        obtain ⟨hLi, hcf2⟩ := hLf
        obtain ⟨c2, hc2⟩ : ∃ c2, cur (vst0 f) = c2 := ⟨_, rfl⟩
        rw [hc2] at hcf2
        have hcase : (c2 = c) ∨ (c2 ≠ c ∧ c2 = wn) := by omega
        replace hPw := Lib.hid hPw
        replace hSd := Lib.hid hSd
        replace hTd := Lib.hid hTd
        replace hRs := Lib.hid hRs
        replace hmt := Lib.hid hmt
        replace hm07 := Lib.hid hm07
        replace hLi := Lib.hid hLi
        replace hc2 := Lib.hid hc2
        replace hcase := Lib.hid hcase
        clear hV hf hd7 hs7 hm7 hbx7 hUp hsb hal hcf2
        go_wp2_with fail
        refine hPw.out.mono ?_
        rintro e w8 ⟨rfl, rfl⟩
        go_wp2_with fail
        refine hSd.out.mono ?_
        rintro e w9 ⟨rfl, hm9⟩
        have hT9 := hTd.out w9 hm9
        obtain ⟨te, hte, htt⟩ : ∃ te : Nat, te = deadE (hasB 0 t) ∧ (te = 7 ∨ (te = 1 ∧ (¬ (1 : Int) ≤ t ∨ (1 ≤ t ∧ ¬ t ≤ 5)))) := by
          cases hb : hasB 0 t
          · exact ⟨1, rfl, .inr ⟨rfl, hasB_no hb⟩⟩
          · exact ⟨7, rfl, .inl rfl⟩
        rw [← hte] at hT9
        replace hT9 := Lib.hid hT9
        replace hm9 := Lib.hid hm9
        replace hte := Lib.hid hte
        rcases htt with rfl | ⟨rfl, hlo | ⟨hlo, hhi⟩⟩
        all_goals
          go_wp2_with fail
          refine hT9.out.mono ?_
          rintro e w10 ⟨rfl, hm10⟩
          have hm710 := hm9.out.trans hm10
          have hR10 := hRs.out w10 hm710
          have hm010 := hm07.out.trans hm710
          replace hR10 := Lib.hid hR10
          replace hm010 := Lib.hid hm010
          clear hm10 hm710
          go_wp2_with fail
          refine hR10.out.mono ?_
          rintro e w11 ⟨rfl, hR11, hm11⟩
          have hm11S : Mod A.S w10 w11 := hm11.mono fun _ _ e => .inr (.inr e)
          have hm011 := hm010.out.step hm11S fun i hi e => absurd hi (by have := hAn.out i e; omega)
          have hMt := hmt.out w11 hR11
          replace hMt := Lib.hid hMt
          replace hm011 := Lib.hid hm011
          clear hR11 hm11 hm11S hR10
          go_wp2_with fail
          refine hMt.out.mono ?_
          rintro e w12 (⟨A2, m12, k12, rfl, -, -, -, -, hv12, -, -, -, hm12⟩ | ⟨m12, rfl, -, hs12, -, -⟩)
          case inr => exact absurd hs12.pend Bool.false_ne_true
          have hm012 := hm011.out.step hm12 fun i hi e => absurd hi (by have := hAn.out i (.inr (.inr e)); omega)
          have hO12 := lOpen_ok hv12 hLi.out (by show 0 ≤ 1000000; omega)
          replace hO12 := Lib.hid hO12
          replace hm012 := Lib.hid hm012
          replace hv12 := Lib.hid hv12
          clear hm12 hMt
          go_wp2_with fail
          refine hO12.out.mono ?_
          rintro e w13 ⟨lb2, rfl, hlb2, hbx13, hm13⟩
          have hv13 := hv12.out.fresh hm13
          have hm013 := hm012.out.trans hm13
          have hS13 := fun W (hm : Mod Nowhere w13 W) => lState_ok (hv13.fresh hm) hLi.out (by show 0 ≤ 1000000; omega) (hbx13.mod hm id)
          simp only [hc2.out] at hS13
          have hS13a := hS13 w13 (Mod.refl _ _)
          replace hS13 := Lib.hid hS13
          replace hS13a := Lib.hid hS13a
          replace hm013 := Lib.hid hm013
          clear hv13 hbx13 hm13 hO12
          rcases hcase.out with rfl | ⟨hne, rfl⟩
          · go_wp2_with fail
            refine hS13a.out.mono ?_
            rintro e w14 ⟨rfl, hm14⟩
            replace hm14 := Lib.hid hm14
            go_wp2_with fail
            refine (hE.out _).mono ?_
            rintro e w15 ⟨rfl, hm15⟩
            have hfin := hbl.out _ ((hm013.out.trans hm14.out).trans hm15)
            go_wp2
            go_ret
            exact ⟨rfl, hfin⟩
          · have hneb : (c2 == c) = false := by simpa using hne
            go_wp2_with fail
            refine hS13a.out.mono ?_
            rintro e w14 ⟨rfl, hm14⟩
            have hS14 := hS13.out w14 hm14
            replace hS14 := Lib.hid hS14
            replace hm14 := Lib.hid hm14
            go_wp2_with fail
            refine hS14.out.mono ?_
            rintro e w15 ⟨rfl, hm15⟩
            replace hm15 := Lib.hid hm15
            go_wp2_with fail
            refine (hE.out _).mono ?_
            rintro e w16 ⟨rfl, hm16⟩
            have hfin := hbl.out _ (((hm013.out.trans hm14.out).trans hm15.out).trans hm16)
            go_wp2
            go_ret
            exact ⟨rfl, hfin⟩
end Go.Proofs.YtikkodanpbmmkaaGreat
