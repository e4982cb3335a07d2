/-
  The PINs: the calls, where the vault is alive.
-/
import Derived.Test.YtjanpegbemepgaaGreatPh
import Derived.Test.YtjanpegbemepgaaGreatG34
import Derived.Test.YtjanpegbemepgaaGreatG32
import Derived.Test.YtjanpegbemepgaaGreatG31
import Derived.Test.YtjanpegbemepgaaGreatG30
set_option linter.unusedVariables false
set_option linter.unusedSimpArgs false
namespace Go.Proofs.YtjanpegbemepgaaGreat
open Go.RowKit
open Jn Vn
attribute [local go_sem] Oper.semAt_some

/-- After a call that returns an error alone. -/
def PGe (D : Items → Prop) (w : World) (A : VAt) (m : Mem) (s' : VSt) (er n : Nat) (e : Ending) (w' : World) : Prop :=
  (∃ m' k, e = .returned (errno er) ∧ VRep w' A m' s' ∧ k ≤ n ∧ Runs m m' k ∧ Mod A.S w w') ∨
  (∃ m' f, e = .returned (errno 7) ∧ D f ∧ PGone w' A m' f ∧ Stopped m m' n ∧ Mod A.S w w')
section
variable {D D' : Items → Prop} {w w1 w' : World} {A : VAt} {m m1 : Mem} {s' : VSt} {er left n k a b : Nat} {e : Ending}
theorem PC.ge (h : PC D w A m s' er a e w') (hD : ∀ f, D f → D' f) (hn : a ≤ b) (hm : Mod A.S w1 w) : PGe D' w1 A m s' er b e w' := by
  rcases h with ⟨m', k, a1, b1, c, d, f⟩ | ⟨m', g, a1, b1, c, d, f⟩
  · exact .inl ⟨m', k, a1, b1, Nat.le_trans c hn, d, hm.trans f⟩
  · exact .inr ⟨m', g, a1, hD _ b1, PGone.of c, d.mono hn, hm.trans f⟩
theorem PGd.of (h : PGd D w A m s' left er a e w') (hD : ∀ f, D f → D' f) (hn : a ≤ b) (hm : Mod A.S w1 w) : PGd D' w1 A m s' left er b e w' := by
  rcases h with ⟨m', k, a1, b1, c, d, f⟩ | ⟨m', g, a1, b1, c, d, f⟩
  · exact .inl ⟨m', k, a1, b1, Nat.le_trans c hn, d, hm.trans f⟩
  · exact .inr ⟨m', g, a1, hD _ b1, c, d.mono hn, hm.trans f⟩
theorem PC2.gd (hr : Runs m m1 k) (hk : k ≤ a) (hm : Mod A.S w w1) (h : PC2 D w1 A m1 s' left er b e w') (hD : ∀ f, D f → D' f) : PGd D' w A m s' left er (a + b) e w' := by
  rcases h with ⟨m', j, a1, b1, c, d, f⟩ | ⟨m', g, a1, b1, c, d, f⟩
  · exact .inl ⟨m', k + j, a1, b1, by omega, hr.trans d, hm.trans f⟩
  · exact .inr ⟨m', g, a1, hD _ b1, PGone.of c, hr.stopped d (by omega), hm.trans f⟩
theorem PGd.no (h : PGd D w A m s' left er n e w') : ∃ i j : Int, e = .returned (.tuple #[.int .i64 i, errno j]) := by
  rcases h with ⟨_, _, e, _⟩ | ⟨_, _, e, _⟩ <;> exact ⟨_, _, e⟩
theorem PGd.modS (h : PGd D w A m s' left er n e w') : Mod A.S w w' := by
  rcases h with ⟨_, _, _, _, _, _, g⟩ | ⟨_, _, _, _, _, _, g⟩ <;> exact g
theorem PC2.modS (h : PC2 D w A m s' left er n e w') : Mod A.S w w' := by
  rcases h with ⟨_, _, _, _, _, _, g⟩ | ⟨_, _, _, _, _, _, g⟩ <;> exact g
end
theorem PGd.same {D : Items → Prop} {w w' : World} {A : VAt} {m : Mem} {s : VSt} {left er n : Nat} (h : VRep w A m s) (hm : Mod Nowhere w w') : PGd D w A m s left er n (.returned (.tuple #[.int .i64 left, errno er])) w' :=
  .inl ⟨m, 0, rfl, h.fresh hm, Nat.zero_le _, by obtain ⟨P, p, pc, J, bank, end_, ib, lv, xs, hV⟩ := h.ex; exact hV.jr.runs, hm.nowhere⟩
theorem PGe.same {D : Items → Prop} {w w' : World} {A : VAt} {m : Mem} {s : VSt} {er n : Nat} (h : VRep w A m s) (hm : Mod Nowhere w w') : PGe D w A m s er n (.returned (errno er)) w' :=
  .inl ⟨m, 0, rfl, h.fresh hm, Nat.zero_le _, by obtain ⟨P, p, pc, J, bank, end_, ib, lv, xs, hV⟩ := h.ex; exact hV.jr.runs, hm.nowhere⟩
/-- Items that a guess may leave where the power is cut. -/
def midIn (G : Guess) : Items → Prop := fun f => f ∈ G.mid
/-! ### The calls in plain numbers -/
def pVer (Z : Nat) (s : VSt) (id : Int) (g : List Nat) : Guess := match atI (pget (view s)) id with
  | none => ⟨s, 0, 12, []⟩
  | some d => pGuard Z s d false g
/-- A value is replaced after a right guess. -/
def pThen (Z : Nat) (d : PinD) (v : List Nat) (G : Guess) : Guess :=
  if G.e = 0 then ⟨(pRepl Z G.s d v).1, pLeft d (pRepl Z G.s d v).2, (pRepl Z G.s d v).2, G.mid ++ [G.s.f, (pRepl Z G.s d v).1.f]⟩ else G
def pChg (Z : Nat) (s : VSt) (id : Int) (g v : List Nat) : Guess := match atI (pget (view s)) id with
  | none => ⟨s, 0, 12, []⟩
  | some d => if fitsB v.length d.lo d.hi = true then pThen Z d v (pGuard Z s d false g) else ⟨s, 0, 2, []⟩
def pUnb (Z : Nat) (s : VSt) (id : Int) (g v : List Nat) : Guess := match atI (pget (view s)) id with
  | none => ⟨s, 0, 12, []⟩
  | some d => if d.code.length = 0 then ⟨s, 0, 19, []⟩ else if fitsB v.length d.lo d.hi = true then pThen Z d v (pGuard Z s d true g) else ⟨s, 0, 2, []⟩
def pSet (Z : Nat) (s : VSt) (id : Int) (v : List Nat) : VSt × Nat := match atI (pget (view s)) id with
  | none => (s, 12)
  | some d => if fitsB v.length d.lo d.hi = true then pRepl Z s d v else (s, 2)
theorem Vn.POk.value {d : PinD} (hd : POk d) {v : List Nat} (hf : fitsB v.length d.lo d.hi = true) (hb : Bytes v) : POk { d with value := v } := by
  unfold fitsB at hf
  simp only [Bool.and_eq_true, decide_eq_true_eq] at hf
  exact ⟨hd.i1, hd.i8, hd.l1, hd.l15, hd.lo, hd.hi, by show d.lo ≤ v.length; omega, by show v.length ≤ d.hi; omega, hd.c, hb, hd.bc⟩
set_option maxRecDepth 100000 in
set_option maxHeartbeats 16000000 in
theorem pinVerify_ok {w : World} {pb : Nat} {A : VAt} {m : Mem} {s : VSt} (hp : PnAt w pb A.vb) (h : VRep w A m s) (hxn : s.l.length ≤ 90000) (hS : PS s) (hZ : 1800 ≤ A.Z / 2) (hA : A.count + 2 ≤ A.frames) (id : Int) (h1 : -9223372036854775808 ≤ id) (h2 : id ≤ 9223372036854775807) {ug : Value} {g : List Nat} (hg : SrcS A w ug g) (bg : Bytes g) (hrm : Room m (vcost A + vcost A)) :
    Calls Tryz.prog 13 #[ptr pb, .int .i64 id, ug] w (PGd (midIn (pVer A.Z s id g)) w A m (pVer A.Z s id g).s (pVer A.Z s id g).left (pVer A.Z s id g).e (vcost A + vcost A)) := by
  have hI := hS.view
  have hlt := h.lt
  have npb := hp.notS h
  have hQ := fun W (hm : Mod Nowhere w W) => pinAll_ok (hp.fresh hm) (h.fresh hm) (by omega) hI
  have hR1 := pinReady_ok hp h.says
  have er : readyE true = 0 := rfl
  simp only [er] at hR1
  clear er
  obtain ⟨ga, gc, rfl, -, -, -⟩ := hg.src
  obtain ⟨R0, hR0⟩ : ∃ R0, pVer A.Z s id g = R0 := ⟨_, rfl⟩
  rw [hR0]
  replace hR0 := Lib.hid hR0
  replace hQ := Lib.hid hQ
  replace hR1 := Lib.hid hR1
  replace h := Lib.hid h
  replace hp := Lib.hid hp
  replace hg := Lib.hid hg
  replace hlt := Lib.hid hlt
  replace npb := Lib.hid npb
  replace hS := Lib.hid hS
  replace hI := Lib.hid hI
  go_enter Tryz.func13, Tryz.ntmps13
  go_wp2_with fail
  refine (hR1.out).mono ?_
  rintro e w1 ⟨rfl, hm1⟩
  have hQ1 := hQ.out _ hm1
  replace hQ1 := Lib.hid hQ1
  replace hm1 := Lib.hid hm1
  go_wp2_with fail
  refine (hQ1.out).mono ?_
  rintro e w2 ⟨mb, rfl, hpm, hm2⟩
  obtain ⟨u, hlk, hlis⟩ := hpm.look h1 h2
  have hm12 := hm1.out.trans hm2
  cases ho : atI (pget (view s)) id with
  | none =>
    rw [ho] at hlk hlis
    obtain rfl : u = zpin := hlis
    unfold zpin at hlk
    simp only [Option.isSome_none] at hlk
    clear hpm
    have hmx : Mod Nowhere w (w2.alloc (.cells #[.int .i64 0, .slice none 0 0, .int .i64 0, .int .i64 0, .int .i64 0, .slice none 0 0, .int .i64 0] 35)) := hm12.alloc _
    have eR : R0 = ⟨s, 0, 12, []⟩ := by rw [← hR0.out]; unfold pVer; rw [ho]
    have hfin : ∀ W, Mod Nowhere w W → PGd (midIn R0) w A m R0.s R0.left R0.e (vcost A + vcost A) (.returned (.tuple #[.int .i64 0, errno 12])) W := fun W hm => by rw [eR]; exact PGd.same h.out hm
    replace hm12 := Lib.hid hm12
    replace hm2 := Lib.hid hm2
    replace ho := Lib.hid ho
    replace hfin := Lib.hid hfin
    replace hmx := Lib.hid hmx
    replace hI := Lib.hid hI
    replace hS := Lib.hid hS
    clear hQ hR1 hQ1 hm1
    go_wp2
    go_ret2
    exact hfin.out _ hmx.out
  | some d =>
    obtain ⟨rfl, hd, hpg⟩ := atI_some hI ho
    rw [ho] at hlk hlis
    obtain ⟨xa, xc, ya, yc, rfl, g1, g2⟩ := hlis.form
    unfold pinV at hlk
    simp only [Option.isSome_some] at hlk
    clear hpm hlis
    have hbx : Mod Nowhere w2 (w2.alloc (.cells #[.int .i64 d.id, .slice xa d.value.length xc, .int .i64 d.limit, .int .i64 d.lo, .int .i64 d.hi, .slice ya d.code.length yc, .int .i64 d.cl] 35)) := (Mod.refl _ w2).alloc _
    have hmx := hm12.trans hbx
    have bP := Blk.new w2 [.int .i64 d.id, .slice xa d.value.length xc, .int .i64 d.limit, .int .i64 d.lo, .int .i64 d.hi, .slice ya d.code.length yc, .int .i64 d.cl] 35
    have hs2 : w.heap.size ≤ w2.heap.size := hm12.size
    obtain ⟨w3, hw3⟩ : ∃ w3, w2.alloc (.cells #[.int .i64 d.id, .slice xa d.value.length xc, .int .i64 d.limit, .int .i64 d.lo, .int .i64 d.hi, .slice ya d.code.length yc, .int .i64 d.cl] 35) = w3 := ⟨_, rfl⟩
    have g1' := (g1.fresh hbx).srcS (h.fresh hmx)
    have g2' := (g2.fresh hbx).srcS (h.fresh hmx)
    rw [hw3] at hbx hmx bP g1' g2'
    have k0 := bP.cell 0
    have k1 := bP.cell 1
    have k2 := bP.cell 2
    have k3 := bP.cell 3
    have k4 := bP.cell 4
    have k5 := bP.cell 5
    have k6 := bP.cell 6
    simp only [List.getElem?_cons_zero, List.getElem?_cons_succ] at k0 k1 k2 k3 k4 k5 k6
    have kl := bP.lt
    have nP : ¬ A.S w2.heap.size := fun e => by have := hlt _ e; omega
    have hG := pinGuarded_ok hd g1' g2' (hg.out.mod hmx.nowhere) bg false hA (hp.out.fresh hmx) (h.out.fresh hmx) hxn hI hrm
    unfold pinV at hG
    have hR : pGuard A.Z s d false g = R0 := by rw [← hR0.out]; unfold pVer; rw [ho]
    rw [hR] at hG
    replace hm12 := Lib.hid hm12
    replace hm2 := Lib.hid hm2
    replace ho := Lib.hid ho
    replace hI := Lib.hid hI
    replace hS := Lib.hid hS
    replace hbx := Lib.hid hbx
    replace bP := Lib.hid bP
    replace hmx := Lib.hid hmx
    replace hG := Lib.hid hG
    replace hR := Lib.hid hR
    replace hd := Lib.hid hd
    replace hpg := Lib.hid hpg
    replace g1 := Lib.hid g1
    replace g2 := Lib.hid g2
    replace g1' := Lib.hid g1'
    replace g2' := Lib.hid g2'
    clear hQ hR1 hQ1 hm1
    go_wp2_with fail
    refine hG.out.mono ?_
    rintro e w4 hc
    obtain ⟨ri, rj, rfl⟩ := hc.no
    have hfin := hc.of (D' := midIn R0) (fun _ h => h) (Nat.le_refl _) hmx.out.nowhere
    clear hc
    replace hfin := Lib.hid hfin
    go_wp2
    go_ret2
    exact hfin.out
set_option maxRecDepth 100000 in
set_option maxHeartbeats 16000000 in
theorem pinChange_ok {w : World} {pb : Nat} {A : VAt} {m : Mem} {s : VSt} (hp : PnAt w pb A.vb) (h : VRep w A m s) (hxn : s.l.length ≤ 90000) (hS : PS s) (hZ : 1800 ≤ A.Z / 2) (hA : A.count + 2 ≤ A.frames) (id : Int) (h1 : -9223372036854775808 ≤ id) (h2 : id ≤ 9223372036854775807) {ug uv : Value} {g v : List Nat} (hg : SrcS A w ug g) (hv : SrcS A w uv v) (bg : Bytes g) (bv : Bytes v) (hrm : Room m (vcost A + vcost A + (vcost A + vcost A + vcost A))) :
    Calls Tryz.prog 23 #[ptr pb, .int .i64 id, ug, uv] w (PGd (midIn (pChg A.Z s id g v)) w A m (pChg A.Z s id g v).s (pChg A.Z s id g v).left (pChg A.Z s id g v).e (vcost A + vcost A + (vcost A + vcost A + vcost A))) := by
  have hI := hS.view
  have hlt := h.lt
  have npb := hp.notS h
  have hQ := fun W (hm : Mod Nowhere w W) => pinAll_ok (hp.fresh hm) (h.fresh hm) (by omega) hI
  have hR1 := pinReady_ok hp h.says
  have er : readyE true = 0 := rfl
  simp only [er] at hR1
  clear er
  have hF := fun W a n c lo hi => pinFits_ok (w := W) a n c lo hi
  obtain ⟨ga, gc, rfl, -, -, -⟩ := hg.src
  obtain ⟨va, vc, rfl, -, -, -⟩ := hv.src
  obtain ⟨R0, hR0⟩ : ∃ R0, pChg A.Z s id g v = R0 := ⟨_, rfl⟩
  rw [hR0]
  replace hR0 := Lib.hid hR0
  replace hQ := Lib.hid hQ
  replace hR1 := Lib.hid hR1
  replace h := Lib.hid h
  replace hp := Lib.hid hp
  replace hg := Lib.hid hg
  replace hv := Lib.hid hv
  replace hF := Lib.hid hF
  replace hlt := Lib.hid hlt
  replace npb := Lib.hid npb
  replace hS := Lib.hid hS
  replace hI := Lib.hid hI
  go_enter Tryz.func23, Tryz.ntmps23
  go_wp2_with fail
  refine (hR1.out).mono ?_
  rintro e w1 ⟨rfl, hm1⟩
  have hQ1 := hQ.out _ hm1
  replace hQ1 := Lib.hid hQ1
  replace hm1 := Lib.hid hm1
  go_wp2_with fail
  refine (hQ1.out).mono ?_
  rintro e w2 ⟨mb, rfl, hpm, hm2⟩
  obtain ⟨u, hlk, hlis⟩ := hpm.look h1 h2
  have hm12 := hm1.out.trans hm2
  cases ho : atI (pget (view s)) id with
  | none =>
    rw [ho] at hlk hlis
    obtain rfl : u = zpin := hlis
    unfold zpin at hlk
    simp only [Option.isSome_none] at hlk
    clear hpm
    have hmx : Mod Nowhere w (w2.alloc (.cells #[.int .i64 0, .slice none 0 0, .int .i64 0, .int .i64 0, .int .i64 0, .slice none 0 0, .int .i64 0] 35)) := hm12.alloc _
    have eR : R0 = ⟨s, 0, 12, []⟩ := by rw [← hR0.out]; unfold pChg; rw [ho]
    have hfin : ∀ W, Mod Nowhere w W → PGd (midIn R0) w A m R0.s R0.left R0.e (vcost A + vcost A + (vcost A + vcost A + vcost A)) (.returned (.tuple #[.int .i64 0, errno 12])) W := fun W hm => by rw [eR]; exact PGd.same h.out hm
    replace hm12 := Lib.hid hm12
    replace hm2 := Lib.hid hm2
    replace ho := Lib.hid ho
    replace hfin := Lib.hid hfin
    replace hmx := Lib.hid hmx
    replace hI := Lib.hid hI
    replace hS := Lib.hid hS
    clear hQ hR1 hQ1 hm1
    go_wp2
    go_ret2
    exact hfin.out _ hmx.out
  | some d =>
    obtain ⟨rfl, hd, hpg⟩ := atI_some hI ho
    rw [ho] at hlk hlis
    obtain ⟨xa, xc, ya, yc, rfl, g1, g2⟩ := hlis.form
    unfold pinV at hlk
    simp only [Option.isSome_some] at hlk
    clear hpm hlis
    have hbx : Mod Nowhere w2 (w2.alloc (.cells #[.int .i64 d.id, .slice xa d.value.length xc, .int .i64 d.limit, .int .i64 d.lo, .int .i64 d.hi, .slice ya d.code.length yc, .int .i64 d.cl] 35)) := (Mod.refl _ w2).alloc _
    have hmx := hm12.trans hbx
    have bP := Blk.new w2 [.int .i64 d.id, .slice xa d.value.length xc, .int .i64 d.limit, .int .i64 d.lo, .int .i64 d.hi, .slice ya d.code.length yc, .int .i64 d.cl] 35
    have hs2 : w.heap.size ≤ w2.heap.size := hm12.size
    obtain ⟨w3, hw3⟩ : ∃ w3, w2.alloc (.cells #[.int .i64 d.id, .slice xa d.value.length xc, .int .i64 d.limit, .int .i64 d.lo, .int .i64 d.hi, .slice ya d.code.length yc, .int .i64 d.cl] 35) = w3 := ⟨_, rfl⟩
    have g1' := (g1.fresh hbx).srcS (h.fresh hmx)
    have g2' := (g2.fresh hbx).srcS (h.fresh hmx)
    rw [hw3] at hbx hmx bP g1' g2'
    have k0 := bP.cell 0
    have k1 := bP.cell 1
    have k2 := bP.cell 2
    have k3 := bP.cell 3
    have k4 := bP.cell 4
    have k5 := bP.cell 5
    have k6 := bP.cell 6
    simp only [List.getElem?_cons_zero, List.getElem?_cons_succ] at k0 k1 k2 k3 k4 k5 k6
    have kl := bP.lt
    have nP : ¬ A.S w2.heap.size := fun e => by have := hlt _ e; omega
    have hF1 := fun W => hF.out W va v.length vc d.lo d.hi
    by_cases hfb : fitsB v.length d.lo d.hi = true
    · have hdv := hd.value hfb bv
      have eR : R0 = pThen A.Z d v (pGuard A.Z s d false g) := by rw [← hR0.out]; unfold pChg; rw [ho]; dsimp only; rw [if_pos hfb]
      rw [hfb] at hF1
      have hG := pinGuarded_ok hd g1' g2' (hg.out.mod hmx.nowhere) bg false hA (hp.out.fresh hmx) (h.out.fresh hmx) hxn hI (hrm.mono (Nat.le_add_right _ _))
      have hGp := pGuard_ps hS hd hZ false g
      unfold pinV at hG
      obtain ⟨R, hR⟩ : ∃ R, pGuard A.Z s d false g = R := ⟨_, rfl⟩
      rw [hR] at hG hGp eR
      unfold pThen at eR
      replace hm12 := Lib.hid hm12
      replace hm2 := Lib.hid hm2
      replace ho := Lib.hid ho
      replace hI := Lib.hid hI
      replace hS := Lib.hid hS
      replace hbx := Lib.hid hbx
      replace bP := Lib.hid bP
      replace hmx := Lib.hid hmx
      replace hG := Lib.hid hG
      replace hR := Lib.hid hR
      replace hd := Lib.hid hd
      replace hpg := Lib.hid hpg
      replace g1 := Lib.hid g1
      replace g2 := Lib.hid g2
      replace g1' := Lib.hid g1'
      replace g2' := Lib.hid g2'
      replace hF1 := Lib.hid hF1
      replace hGp := Lib.hid hGp
      replace hdv := Lib.hid hdv
      replace eR := Lib.hid eR
      clear hQ hR1 hQ1 hm1 hF
      go_wp2_with fail
      refine (hF1.out _).mono ?_
      rintro e w3' ⟨rfl, rfl⟩
      go_wp2_with fail
      refine hG.out.mono ?_
      rintro e w4 hc
      have hm34 := hc.modS
      have b4 := bP.out.mod hm34 nP
      have k0 := b4.cell 0
      have k1 := b4.cell 1
      have k2 := b4.cell 2
      have k3 := b4.cell 3
      have k4 := b4.cell 4
      have k5 := b4.cell 5
      have k6 := b4.cell 6
      simp only [List.getElem?_cons_zero, List.getElem?_cons_succ] at k0 k1 k2 k3 k4 k5 k6
      have kl := b4.lt
      have hmw4 : Mod A.S w w4 := hmx.out.nowhere.trans hm34
      rcases hc with ⟨m', k, rfl, hv4, hk, hr, hm4⟩ | ⟨m', f, rfl, hf, hg4, hst, hm4⟩
      · by_cases h0 : R.e = 0
        · rw [h0]
          have eR2 := eR.out
          rw [if_pos h0] at eR2
          have hP := pinReplaced_ok hd hdv.out (u1 := .slice xa d.value.length xc) ⟨_, _, _, rfl⟩ (hv.out.mod hmw4) (g2'.out.mod hm34) ((Blk.mod (hp.out.fresh hmx.out) hm34 npb.out)) hv4 (by rw [hGp.out.2.1]; exact hxn) hGp.out.1.view (hrm.runs hr (by omega))
          unfold pinV at hP
          obtain ⟨q, hq⟩ : ∃ q, pRepl A.Z R.s d v = q := ⟨_, rfl⟩
          rw [hq] at hP eR2
          replace hv4 := Lib.hid hv4
          replace hr := Lib.hid hr
          replace hm4 := Lib.hid hm4
          replace hk := Lib.hid hk
          replace b4 := Lib.hid b4
          replace hm34 := Lib.hid hm34
          replace hmw4 := Lib.hid hmw4
          replace hP := Lib.hid hP
          replace hq := Lib.hid hq
          replace eR2 := Lib.hid eR2
          go_wp2_with fail
          refine hP.out.mono ?_
          rintro e w5 hc5
          obtain ⟨ri, rj, rfl⟩ := hc5.no
          have hfin := hc5.gd (D' := midIn ⟨q.1, pLeft d q.2, q.2, R.mid ++ [R.s.f, q.1.f]⟩) hr.out hk.out hmw4.out (by rintro f (rfl | rfl) <;> simp [midIn])
          have hfin2 : PGd (midIn R0) w A m R0.s R0.left R0.e (vcost A + vcost A + (vcost A + vcost A + vcost A)) (.returned (.tuple #[.int .i64 ri, errno rj])) w5 := by rw [eR2.out]; exact hfin
          clear hfin
          clear hc5
          replace hfin2 := Lib.hid hfin2
          go_wp2
          go_ret2
          exact hfin2.out
        · have eR2 := eR.out
          rw [if_neg h0] at eR2
          have hz : (((R.e : Nat) : Int) != 0) = true := by simp; omega
          have hfin : PGd (midIn R0) w A m R0.s R0.left R0.e (vcost A + vcost A + (vcost A + vcost A + vcost A)) (.returned (.tuple #[.int .i64 R.left, errno R.e])) w4 := by rw [eR2]; exact .inl ⟨m', k, rfl, hv4, by omega, hr, hmw4⟩
          replace hv4 := Lib.hid hv4
          replace hr := Lib.hid hr
          replace hm4 := Lib.hid hm4
          replace hk := Lib.hid hk
          replace b4 := Lib.hid b4
          replace hm34 := Lib.hid hm34
          replace hmw4 := Lib.hid hmw4
          replace hfin := Lib.hid hfin
          go_wp2
          go_ret2
          exact hfin.out
      · have hfm : midIn R0 f := by
          rw [eR.out]
          unfold midIn
          split
          · exact List.mem_append_left _ hf
          · exact hf
        have hfin : PGd (midIn R0) w A m R0.s R0.left R0.e (vcost A + vcost A + (vcost A + vcost A + vcost A)) (.returned (.tuple #[.int .i64 0, errno 7])) w4 := .inr ⟨m', f, rfl, hfm, hg4, hst.mono (by omega), hmw4⟩
        clear hf hfm
        replace hg4 := Lib.hid hg4
        replace hst := Lib.hid hst
        replace hm4 := Lib.hid hm4
        replace b4 := Lib.hid b4
        replace hm34 := Lib.hid hm34
        replace hmw4 := Lib.hid hmw4
        replace hfin := Lib.hid hfin
        go_wp2
        go_ret2
        exact hfin.out
    · have hfb' : fitsB v.length d.lo d.hi = false := by simpa using hfb
      have eR : R0 = ⟨s, 0, 2, []⟩ := by rw [← hR0.out]; unfold pChg; rw [ho]; dsimp only; rw [if_neg hfb]
      have hfin : PGd (midIn R0) w A m R0.s R0.left R0.e (vcost A + vcost A + (vcost A + vcost A + vcost A)) (.returned (.tuple #[.int .i64 0, errno 2])) w3 := by rw [eR]; exact PGd.same h.out hmx
      rw [hfb'] at hF1
      replace hm12 := Lib.hid hm12
      replace hm2 := Lib.hid hm2
      replace ho := Lib.hid ho
      replace hI := Lib.hid hI
      replace hS := Lib.hid hS
      replace hbx := Lib.hid hbx
      replace bP := Lib.hid bP
      replace hmx := Lib.hid hmx
      replace hd := Lib.hid hd
      replace hpg := Lib.hid hpg
      replace g1 := Lib.hid g1
      replace g2 := Lib.hid g2
      replace g1' := Lib.hid g1'
      replace g2' := Lib.hid g2'
      replace hF1 := Lib.hid hF1
      replace hfin := Lib.hid hfin
      clear hQ hR1 hQ1 hm1 hF
      go_wp2_with fail
      refine (hF1.out _).mono ?_
      rintro e w3' ⟨rfl, rfl⟩
      go_wp2
      go_ret2
      exact hfin.out
set_option maxRecDepth 100000 in
set_option maxHeartbeats 16000000 in
theorem pinUnblock_ok {w : World} {pb : Nat} {A : VAt} {m : Mem} {s : VSt} (hp : PnAt w pb A.vb) (h : VRep w A m s) (hxn : s.l.length ≤ 90000) (hS : PS s) (hZ : 1800 ≤ A.Z / 2) (hA : A.count + 2 ≤ A.frames) (id : Int) (h1 : -9223372036854775808 ≤ id) (h2 : id ≤ 9223372036854775807) {ug uv : Value} {g v : List Nat} (hg : SrcS A w ug g) (hv : SrcS A w uv v) (bg : Bytes g) (bv : Bytes v) (hrm : Room m (vcost A + vcost A + (vcost A + vcost A + vcost A))) :
    Calls Tryz.prog 24 #[ptr pb, .int .i64 id, ug, uv] w (PGd (midIn (pUnb A.Z s id g v)) w A m (pUnb A.Z s id g v).s (pUnb A.Z s id g v).left (pUnb A.Z s id g v).e (vcost A + vcost A + (vcost A + vcost A + vcost A))) := by
  have hI := hS.view
  have hlt := h.lt
  have npb := hp.notS h
  have hQ := fun W (hm : Mod Nowhere w W) => pinAll_ok (hp.fresh hm) (h.fresh hm) (by omega) hI
  have hR1 := pinReady_ok hp h.says
  have er : readyE true = 0 := rfl
  simp only [er] at hR1
  clear er
  have hF := fun W a n c lo hi => pinFits_ok (w := W) a n c lo hi
  obtain ⟨ga, gc, rfl, -, -, -⟩ := hg.src
  obtain ⟨va, vc, rfl, -, -, -⟩ := hv.src
  obtain ⟨R0, hR0⟩ : ∃ R0, pUnb A.Z s id g v = R0 := ⟨_, rfl⟩
  rw [hR0]
  replace hR0 := Lib.hid hR0
  replace hQ := Lib.hid hQ
  replace hR1 := Lib.hid hR1
  replace h := Lib.hid h
  replace hp := Lib.hid hp
  replace hg := Lib.hid hg
  replace hv := Lib.hid hv
  replace hF := Lib.hid hF
  replace hlt := Lib.hid hlt
  replace npb := Lib.hid npb
  replace hS := Lib.hid hS
  replace hI := Lib.hid hI
  go_enter Tryz.func24, Tryz.ntmps24
  go_wp2_with fail
  refine (hR1.out).mono ?_
  rintro e w1 ⟨rfl, hm1⟩
  have hQ1 := hQ.out _ hm1
  replace hQ1 := Lib.hid hQ1
  replace hm1 := Lib.hid hm1
  go_wp2_with fail
  refine (hQ1.out).mono ?_
  rintro e w2 ⟨mb, rfl, hpm, hm2⟩
  obtain ⟨u, hlk, hlis⟩ := hpm.look h1 h2
  have hm12 := hm1.out.trans hm2
  cases ho : atI (pget (view s)) id with
  | none =>
    rw [ho] at hlk hlis
    obtain rfl : u = zpin := hlis
    unfold zpin at hlk
    simp only [Option.isSome_none] at hlk
    clear hpm
    have hmx : Mod Nowhere w (w2.alloc (.cells #[.int .i64 0, .slice none 0 0, .int .i64 0, .int .i64 0, .int .i64 0, .slice none 0 0, .int .i64 0] 35)) := hm12.alloc _
    have eR : R0 = ⟨s, 0, 12, []⟩ := by rw [← hR0.out]; unfold pUnb; rw [ho]
    have hfin : ∀ W, Mod Nowhere w W → PGd (midIn R0) w A m R0.s R0.left R0.e (vcost A + vcost A + (vcost A + vcost A + vcost A)) (.returned (.tuple #[.int .i64 0, errno 12])) W := fun W hm => by rw [eR]; exact PGd.same h.out hm
    replace hm12 := Lib.hid hm12
    replace hm2 := Lib.hid hm2
    replace ho := Lib.hid ho
    replace hfin := Lib.hid hfin
    replace hmx := Lib.hid hmx
    replace hI := Lib.hid hI
    replace hS := Lib.hid hS
    clear hQ hR1 hQ1 hm1
    go_wp2
    go_ret2
    exact hfin.out _ hmx.out
  | some d =>
    obtain ⟨rfl, hd, hpg⟩ := atI_some hI ho
    rw [ho] at hlk hlis
    obtain ⟨xa, xc, ya, yc, rfl, g1, g2⟩ := hlis.form
    unfold pinV at hlk
    simp only [Option.isSome_some] at hlk
    clear hpm hlis
    have hbx : Mod Nowhere w2 (w2.alloc (.cells #[.int .i64 d.id, .slice xa d.value.length xc, .int .i64 d.limit, .int .i64 d.lo, .int .i64 d.hi, .slice ya d.code.length yc, .int .i64 d.cl] 35)) := (Mod.refl _ w2).alloc _
    have hmx := hm12.trans hbx
    have bP := Blk.new w2 [.int .i64 d.id, .slice xa d.value.length xc, .int .i64 d.limit, .int .i64 d.lo, .int .i64 d.hi, .slice ya d.code.length yc, .int .i64 d.cl] 35
    have hs2 : w.heap.size ≤ w2.heap.size := hm12.size
    obtain ⟨w3, hw3⟩ : ∃ w3, w2.alloc (.cells #[.int .i64 d.id, .slice xa d.value.length xc, .int .i64 d.limit, .int .i64 d.lo, .int .i64 d.hi, .slice ya d.code.length yc, .int .i64 d.cl] 35) = w3 := ⟨_, rfl⟩
    have g1' := (g1.fresh hbx).srcS (h.fresh hmx)
    have g2' := (g2.fresh hbx).srcS (h.fresh hmx)
    rw [hw3] at hbx hmx bP g1' g2'
    have k0 := bP.cell 0
    have k1 := bP.cell 1
    have k2 := bP.cell 2
    have k3 := bP.cell 3
    have k4 := bP.cell 4
    have k5 := bP.cell 5
    have k6 := bP.cell 6
    simp only [List.getElem?_cons_zero, List.getElem?_cons_succ] at k0 k1 k2 k3 k4 k5 k6
    have kl := bP.lt
    have nP : ¬ A.S w2.heap.size := fun e => by have := hlt _ e; omega
    by_cases hc0 : d.code.length = 0
    · have eR : R0 = ⟨s, 0, 19, []⟩ := by rw [← hR0.out]; unfold pUnb; rw [ho]; dsimp only; rw [if_pos hc0]
      have hfin : PGd (midIn R0) w A m R0.s R0.left R0.e (vcost A + vcost A + (vcost A + vcost A + vcost A)) (.returned (.tuple #[.int .i64 0, errno 19])) w3 := by rw [eR]; exact PGd.same h.out hmx
      have t0 : ((d.code.length : Int) == 0) = true := by rw [hc0]; rfl
      replace hm12 := Lib.hid hm12
      replace hm2 := Lib.hid hm2
      replace ho := Lib.hid ho
      replace hI := Lib.hid hI
      replace hS := Lib.hid hS
      replace hbx := Lib.hid hbx
      replace bP := Lib.hid bP
      replace hmx := Lib.hid hmx
      replace hd := Lib.hid hd
      replace hpg := Lib.hid hpg
      replace g1 := Lib.hid g1
      replace g2 := Lib.hid g2
      replace g1' := Lib.hid g1'
      replace g2' := Lib.hid g2'
      replace hfin := Lib.hid hfin
      replace hc0 := Lib.hid hc0
      clear hQ hR1 hQ1 hm1
      go_wp2
      go_ret2
      exact hfin.out
    have t0 : ((d.code.length : Int) == 0) = false := beq_false_of_ne (by omega)
    have hF1 := fun W => hF.out W va v.length vc d.lo d.hi
    by_cases hfb : fitsB v.length d.lo d.hi = true
    · have hdv := hd.value hfb bv
      have eR : R0 = pThen A.Z d v (pGuard A.Z s d true g) := by rw [← hR0.out]; unfold pUnb; rw [ho]; dsimp only; rw [if_neg hc0]; rw [if_pos hfb]
      rw [hfb] at hF1
      have hG := pinGuarded_ok hd g1' g2' (hg.out.mod hmx.nowhere) bg true hA (hp.out.fresh hmx) (h.out.fresh hmx) hxn hI (hrm.mono (Nat.le_add_right _ _))
      have hGp := pGuard_ps hS hd hZ true g
      unfold pinV at hG
      obtain ⟨R, hR⟩ : ∃ R, pGuard A.Z s d true g = R := ⟨_, rfl⟩
      rw [hR] at hG hGp eR
      unfold pThen at eR
      replace hm12 := Lib.hid hm12
      replace hm2 := Lib.hid hm2
      replace ho := Lib.hid ho
      replace hI := Lib.hid hI
      replace hS := Lib.hid hS
      replace hbx := Lib.hid hbx
      replace bP := Lib.hid bP
      replace hmx := Lib.hid hmx
      replace hG := Lib.hid hG
      replace hR := Lib.hid hR
      replace hd := Lib.hid hd
      replace hpg := Lib.hid hpg
      replace g1 := Lib.hid g1
      replace g2 := Lib.hid g2
      replace g1' := Lib.hid g1'
      replace g2' := Lib.hid g2'
      replace hF1 := Lib.hid hF1
      replace hGp := Lib.hid hGp
      replace hdv := Lib.hid hdv
      replace eR := Lib.hid eR
      clear hQ hR1 hQ1 hm1 hF
      go_wp2_with fail
      refine (hF1.out _).mono ?_
      rintro e w3' ⟨rfl, rfl⟩
      go_wp2_with fail
      refine hG.out.mono ?_
      rintro e w4 hc
      have hm34 := hc.modS
      have b4 := bP.out.mod hm34 nP
      have k0 := b4.cell 0
      have k1 := b4.cell 1
      have k2 := b4.cell 2
      have k3 := b4.cell 3
      have k4 := b4.cell 4
      have k5 := b4.cell 5
      have k6 := b4.cell 6
      simp only [List.getElem?_cons_zero, List.getElem?_cons_succ] at k0 k1 k2 k3 k4 k5 k6
      have kl := b4.lt
      have hmw4 : Mod A.S w w4 := hmx.out.nowhere.trans hm34
      rcases hc with ⟨m', k, rfl, hv4, hk, hr, hm4⟩ | ⟨m', f, rfl, hf, hg4, hst, hm4⟩
      · by_cases h0 : R.e = 0
        · rw [h0]
          have eR2 := eR.out
          rw [if_pos h0] at eR2
          have hP := pinReplaced_ok hd hdv.out (u1 := .slice xa d.value.length xc) ⟨_, _, _, rfl⟩ (hv.out.mod hmw4) (g2'.out.mod hm34) ((Blk.mod (hp.out.fresh hmx.out) hm34 npb.out)) hv4 (by rw [hGp.out.2.1]; exact hxn) hGp.out.1.view (hrm.runs hr (by omega))
          unfold pinV at hP
          obtain ⟨q, hq⟩ : ∃ q, pRepl A.Z R.s d v = q := ⟨_, rfl⟩
          rw [hq] at hP eR2
          replace hv4 := Lib.hid hv4
          replace hr := Lib.hid hr
          replace hm4 := Lib.hid hm4
          replace hk := Lib.hid hk
          replace b4 := Lib.hid b4
          replace hm34 := Lib.hid hm34
          replace hmw4 := Lib.hid hmw4
          replace hP := Lib.hid hP
          replace hq := Lib.hid hq
          replace eR2 := Lib.hid eR2
          go_wp2_with fail
          refine hP.out.mono ?_
          rintro e w5 hc5
          obtain ⟨ri, rj, rfl⟩ := hc5.no
          have hfin := hc5.gd (D' := midIn ⟨q.1, pLeft d q.2, q.2, R.mid ++ [R.s.f, q.1.f]⟩) hr.out hk.out hmw4.out (by rintro f (rfl | rfl) <;> simp [midIn])
          have hfin2 : PGd (midIn R0) w A m R0.s R0.left R0.e (vcost A + vcost A + (vcost A + vcost A + vcost A)) (.returned (.tuple #[.int .i64 ri, errno rj])) w5 := by rw [eR2.out]; exact hfin
          clear hfin
          clear hc5
          replace hfin2 := Lib.hid hfin2
          go_wp2
          go_ret2
          exact hfin2.out
        · have eR2 := eR.out
          rw [if_neg h0] at eR2
          have hz : (((R.e : Nat) : Int) != 0) = true := by simp; omega
          have hfin : PGd (midIn R0) w A m R0.s R0.left R0.e (vcost A + vcost A + (vcost A + vcost A + vcost A)) (.returned (.tuple #[.int .i64 R.left, errno R.e])) w4 := by rw [eR2]; exact .inl ⟨m', k, rfl, hv4, by omega, hr, hmw4⟩
          replace hv4 := Lib.hid hv4
          replace hr := Lib.hid hr
          replace hm4 := Lib.hid hm4
          replace hk := Lib.hid hk
          replace b4 := Lib.hid b4
          replace hm34 := Lib.hid hm34
          replace hmw4 := Lib.hid hmw4
          replace hfin := Lib.hid hfin
          go_wp2
          go_ret2
          exact hfin.out
      · have hfm : midIn R0 f := by
          rw [eR.out]
          unfold midIn
          split
          · exact List.mem_append_left _ hf
          · exact hf
        have hfin : PGd (midIn R0) w A m R0.s R0.left R0.e (vcost A + vcost A + (vcost A + vcost A + vcost A)) (.returned (.tuple #[.int .i64 0, errno 7])) w4 := .inr ⟨m', f, rfl, hfm, hg4, hst.mono (by omega), hmw4⟩
        clear hf hfm
        replace hg4 := Lib.hid hg4
        replace hst := Lib.hid hst
        replace hm4 := Lib.hid hm4
        replace b4 := Lib.hid b4
        replace hm34 := Lib.hid hm34
        replace hmw4 := Lib.hid hmw4
        replace hfin := Lib.hid hfin
        go_wp2
        go_ret2
        exact hfin.out
    · have hfb' : fitsB v.length d.lo d.hi = false := by simpa using hfb
      have eR : R0 = ⟨s, 0, 2, []⟩ := by rw [← hR0.out]; unfold pUnb; rw [ho]; dsimp only; rw [if_neg hc0]; rw [if_neg hfb]
      have hfin : PGd (midIn R0) w A m R0.s R0.left R0.e (vcost A + vcost A + (vcost A + vcost A + vcost A)) (.returned (.tuple #[.int .i64 0, errno 2])) w3 := by rw [eR]; exact PGd.same h.out hmx
      rw [hfb'] at hF1
      replace hm12 := Lib.hid hm12
      replace hm2 := Lib.hid hm2
      replace ho := Lib.hid ho
      replace hI := Lib.hid hI
      replace hS := Lib.hid hS
      replace hbx := Lib.hid hbx
      replace bP := Lib.hid bP
      replace hmx := Lib.hid hmx
      replace hd := Lib.hid hd
      replace hpg := Lib.hid hpg
      replace g1 := Lib.hid g1
      replace g2 := Lib.hid g2
      replace g1' := Lib.hid g1'
      replace g2' := Lib.hid g2'
      replace hF1 := Lib.hid hF1
      replace hfin := Lib.hid hfin
      clear hQ hR1 hQ1 hm1 hF
      go_wp2_with fail
      refine (hF1.out _).mono ?_
      rintro e w3' ⟨rfl, rfl⟩
      go_wp2
      go_ret2
      exact hfin.out
set_option maxRecDepth 100000 in
set_option maxHeartbeats 16000000 in
theorem pinSet_ok {w : World} {pb : Nat} {A : VAt} {m : Mem} {s : VSt} (hp : PnAt w pb A.vb) (h : VRep w A m s) (hxn : s.l.length ≤ 90000) (hS : PS s) (hZ : 1800 ≤ A.Z / 2) (hA : A.count + 2 ≤ A.frames) (id : Int) (h1 : -9223372036854775808 ≤ id) (h2 : id ≤ 9223372036854775807) {uv : Value} {v : List Nat} (hv : SrcS A w uv v) (bv : Bytes v) (hrm : Room m (vcost A + vcost A + vcost A)) :
    Calls Tryz.prog 27 #[ptr pb, .int .i64 id, uv] w (PGe (fun f => f = s.f ∨ f = (pSet A.Z s id v).1.f) w A m (pSet A.Z s id v).1 (pSet A.Z s id v).2 (vcost A + vcost A + vcost A)) := by
  have hI := hS.view
  have hlt := h.lt
  have npb := hp.notS h
  have hQ := fun W (hm : Mod Nowhere w W) => pinAll_ok (hp.fresh hm) (h.fresh hm) (by omega) hI
  have hR1 := pinReady_ok hp h.says
  have er : readyE true = 0 := rfl
  simp only [er] at hR1
  clear er
  have hF := fun W a n c lo hi => pinFits_ok (w := W) a n c lo hi
  obtain ⟨va, vc, rfl, -, -, -⟩ := hv.src
  obtain ⟨R0, hR0⟩ : ∃ R0, pSet A.Z s id v = R0 := ⟨_, rfl⟩
  rw [hR0]
  replace hR0 := Lib.hid hR0
  replace hQ := Lib.hid hQ
  replace hR1 := Lib.hid hR1
  replace h := Lib.hid h
  replace hp := Lib.hid hp
  replace hv := Lib.hid hv
  replace hF := Lib.hid hF
  replace hlt := Lib.hid hlt
  replace npb := Lib.hid npb
  replace hS := Lib.hid hS
  replace hI := Lib.hid hI
  go_enter Tryz.func27, Tryz.ntmps27
  go_wp2_with fail
  refine (hR1.out).mono ?_
  rintro e w1 ⟨rfl, hm1⟩
  have hQ1 := hQ.out _ hm1
  replace hQ1 := Lib.hid hQ1
  replace hm1 := Lib.hid hm1
  go_wp2_with fail
  refine (hQ1.out).mono ?_
  rintro e w2 ⟨mb, rfl, hpm, hm2⟩
  obtain ⟨u, hlk, hlis⟩ := hpm.look h1 h2
  have hm12 := hm1.out.trans hm2
  cases ho : atI (pget (view s)) id with
  | none =>
    rw [ho] at hlk hlis
    obtain rfl : u = zpin := hlis
    unfold zpin at hlk
    simp only [Option.isSome_none] at hlk
    clear hpm
    have hmx : Mod Nowhere w (w2.alloc (.cells #[.int .i64 0, .slice none 0 0, .int .i64 0, .int .i64 0, .int .i64 0, .slice none 0 0, .int .i64 0] 35)) := hm12.alloc _
    have eR : R0 = (s, 12) := by rw [← hR0.out]; unfold pSet; rw [ho]
    have hfin : ∀ W, Mod Nowhere w W → PGe (fun f => f = s.f ∨ f = R0.1.f) w A m R0.1 R0.2 (vcost A + vcost A + vcost A) (.returned (errno 12)) W := fun W hm => by rw [eR]; exact PGe.same h.out hm
    replace hm12 := Lib.hid hm12
    replace hm2 := Lib.hid hm2
    replace ho := Lib.hid ho
    replace hfin := Lib.hid hfin
    replace hmx := Lib.hid hmx
    replace hI := Lib.hid hI
    replace hS := Lib.hid hS
    clear hQ hR1 hQ1 hm1
    go_wp2
    go_ret
    exact hfin.out _ hmx.out
  | some d =>
    obtain ⟨rfl, hd, hpg⟩ := atI_some hI ho
    rw [ho] at hlk hlis
    obtain ⟨xa, xc, ya, yc, rfl, g1, g2⟩ := hlis.form
    unfold pinV at hlk
    simp only [Option.isSome_some] at hlk
    clear hpm hlis
    have hbx : Mod Nowhere w2 (w2.alloc (.cells #[.int .i64 d.id, .slice xa d.value.length xc, .int .i64 d.limit, .int .i64 d.lo, .int .i64 d.hi, .slice ya d.code.length yc, .int .i64 d.cl] 35)) := (Mod.refl _ w2).alloc _
    have hmx := hm12.trans hbx
    have bP := Blk.new w2 [.int .i64 d.id, .slice xa d.value.length xc, .int .i64 d.limit, .int .i64 d.lo, .int .i64 d.hi, .slice ya d.code.length yc, .int .i64 d.cl] 35
    have hs2 : w.heap.size ≤ w2.heap.size := hm12.size
    obtain ⟨w3, hw3⟩ : ∃ w3, w2.alloc (.cells #[.int .i64 d.id, .slice xa d.value.length xc, .int .i64 d.limit, .int .i64 d.lo, .int .i64 d.hi, .slice ya d.code.length yc, .int .i64 d.cl] 35) = w3 := ⟨_, rfl⟩
    have g1' := (g1.fresh hbx).srcS (h.fresh hmx)
    have g2' := (g2.fresh hbx).srcS (h.fresh hmx)
    rw [hw3] at hbx hmx bP g1' g2'
    have k0 := bP.cell 0
    have k1 := bP.cell 1
    have k2 := bP.cell 2
    have k3 := bP.cell 3
    have k4 := bP.cell 4
    have k5 := bP.cell 5
    have k6 := bP.cell 6
    simp only [List.getElem?_cons_zero, List.getElem?_cons_succ] at k0 k1 k2 k3 k4 k5 k6
    have kl := bP.lt
    have nP : ¬ A.S w2.heap.size := fun e => by have := hlt _ e; omega
    have hF1 := fun W => hF.out W va v.length vc d.lo d.hi
    by_cases hfb : fitsB v.length d.lo d.hi = true
    · have hdv := hd.value hfb bv
      have eR : pRepl A.Z s d v = R0 := by rw [← hR0.out]; unfold pSet; rw [ho]; dsimp only; rw [if_pos hfb]
      rw [hfb] at hF1
      have hP := pinReplaced_ok hd hdv (u1 := .slice xa d.value.length xc) ⟨_, _, _, rfl⟩ (hv.out.mod hmx.nowhere) g2' (hp.out.fresh hmx) (h.out.fresh hmx) hxn hI hrm
      unfold pinV at hP
      rw [eR] at hP
      replace hm12 := Lib.hid hm12
      replace hm2 := Lib.hid hm2
      replace ho := Lib.hid ho
      replace hI := Lib.hid hI
      replace hS := Lib.hid hS
      replace hbx := Lib.hid hbx
      replace bP := Lib.hid bP
      replace hmx := Lib.hid hmx
      replace hP := Lib.hid hP
      replace eR := Lib.hid eR
      replace hd := Lib.hid hd
      replace hpg := Lib.hid hpg
      replace g1 := Lib.hid g1
      replace g2 := Lib.hid g2
      replace g1' := Lib.hid g1'
      replace g2' := Lib.hid g2'
      replace hF1 := Lib.hid hF1
      replace hdv := Lib.hid hdv
      clear hQ hR1 hQ1 hm1 hF
      go_wp2_with fail
      refine (hF1.out _).mono ?_
      rintro e w3' ⟨rfl, rfl⟩
      go_wp2_with fail
      refine hP.out.mono ?_
      rintro e w5 hc5
      rcases hc5 with ⟨m', j, rfl, a2, a3, a4, a5⟩ | ⟨m', g, rfl, a2, a3, a4, a5⟩
      · have hfin : PGe (fun f => f = s.f ∨ f = R0.1.f) w A m R0.1 R0.2 (vcost A + vcost A + vcost A) (.returned (errno R0.2)) w5 := .inl ⟨m', j, rfl, a2, a3, a4, hmx.out.nowhere.trans a5⟩
        replace hfin := Lib.hid hfin
        replace a2 := Lib.hid a2
        replace a3 := Lib.hid a3
        replace a4 := Lib.hid a4
        replace a5 := Lib.hid a5
        go_wp2
        go_ret
        exact hfin.out
      · have hfin : PGe (fun f => f = s.f ∨ f = R0.1.f) w A m R0.1 R0.2 (vcost A + vcost A + vcost A) (.returned (errno 7)) w5 := .inr ⟨m', g, rfl, a2, PGone.of a3, a4, hmx.out.nowhere.trans a5⟩
        clear a2
        replace hfin := Lib.hid hfin
        replace a3 := Lib.hid a3
        replace a4 := Lib.hid a4
        replace a5 := Lib.hid a5
        go_wp2
        go_ret
        exact hfin.out
    · have hfb' : fitsB v.length d.lo d.hi = false := by simpa using hfb
      have eR : R0 = (s, 2) := by rw [← hR0.out]; unfold pSet; rw [ho]; dsimp only; rw [if_neg hfb]
      have hfin : PGe (fun f => f = s.f ∨ f = R0.1.f) w A m R0.1 R0.2 (vcost A + vcost A + vcost A) (.returned (errno 2)) w3 := by rw [eR]; exact PGe.same h.out hmx
      rw [hfb'] at hF1
      replace hm12 := Lib.hid hm12
      replace hm2 := Lib.hid hm2
      replace ho := Lib.hid ho
      replace hI := Lib.hid hI
      replace hS := Lib.hid hS
      replace hbx := Lib.hid hbx
      replace bP := Lib.hid bP
      replace hmx := Lib.hid hmx
      replace hd := Lib.hid hd
      replace hpg := Lib.hid hpg
      replace g1 := Lib.hid g1
      replace g2 := Lib.hid g2
      replace g1' := Lib.hid g1'
      replace g2' := Lib.hid g2'
      replace hF1 := Lib.hid hF1
      replace hfin := Lib.hid hfin
      clear hQ hR1 hQ1 hm1 hF
      go_wp2_with fail
      refine (hF1.out _).mono ?_
      rintro e w3' ⟨rfl, rfl⟩
      go_wp2
      go_ret
      exact hfin.out
end Go.Proofs.YtjanpegbemepgaaGreat
