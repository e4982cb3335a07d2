/-
  The life cycle on a vault, in plain Lean.
-/
import Derived.Test.YtikkodanpbmmkaaGreatG19
import Derived.Test.YtikkodanpbmmkaaGreatG20
import Derived.Test.YtikkodanpbmmkaaGreatG17
import Derived.Test.YtikkodanpbmmkaaGreatG18
set_option linter.unusedVariables false
set_option linter.unusedSimpArgs false
namespace Go.Proofs.YtikkodanpbmmkaaGreat
open Go.RowKit
open Jn Vn

/-- The state that item 1 stands for. -/
def cur (s : VSt) : Int := match sets s.f s.l 1 with
  | some [x] => ((x : Nat) : Int)
  | _ => 1
def Good1 (o : Option (List Nat)) : Prop := o = none ∨ ∃ x, 1 ≤ x ∧ x ≤ 5 ∧ o = some [x]
/-- A vault that holds no item but that of the life cycle. -/
structure LInv (s : VSt) : Prop where
  f0 : ∀ k, k ≠ 1 → s.f k = none
  f1 : Good1 (s.f 1)
  ls : ∀ r ∈ s.l, r.1 = 1 ∧ Good1 r.2
theorem sets_only : ∀ (l : List Rec) (f : Items), (∀ k, k ≠ 1 → f k = none) → Good1 (f 1) → (∀ r ∈ l, r.1 = 1 ∧ Good1 r.2) → (∀ k, k ≠ 1 → sets f l k = none) ∧ Good1 (sets f l 1)
  | [], f, h0, h1, _ => ⟨h0, h1⟩
  | r :: l, f, h0, h1, hl => by
    obtain ⟨r1, r2⟩ := hl r (by simp)
    show (∀ k, k ≠ 1 → sets (set1 f r) l k = none) ∧ Good1 (sets (set1 f r) l 1)
    refine sets_only l _ (fun k hk => ?_) ?_ fun r hr => hl r (by simp [hr])
    · unfold set1; rw [if_neg (by omega)]; exact h0 k hk
    · unfold set1; rw [if_pos r1.symm]; exact r2
theorem LInv.item {s : VSt} (h : LInv s) : Good1 (sets s.f s.l 1) := (sets_only s.l s.f h.f0 h.f1 h.ls).2
theorem LInv.rest {s : VSt} (h : LInv s) {k : Nat} (hk : k ≠ 1) : sets s.f s.l k = none := (sets_only s.l s.f h.f0 h.f1 h.ls).1 k hk
theorem LInv.cur_range {s : VSt} (h : LInv s) : 1 ≤ cur s ∧ cur s ≤ 5 := by
  unfold cur
  rcases h.item with e | ⟨x, a, b, e⟩ <;> rw [e]
  · exact ⟨by decide, by decide⟩
  · exact ⟨by show (1 : Int) ≤ (x : Int); omega, by show (x : Int) ≤ 5; omega⟩
theorem cur_some {s : VSt} {x : Nat} (h : sets s.f s.l 1 = some [x]) : cur s = x := by unfold cur; rw [h]
theorem cur_none {s : VSt} (h : sets s.f s.l 1 = none) : cur s = 1 := by unfold cur; rw [h]
theorem range_one : (List.range 4097).filter (fun k => k == 1) = [1] := by decide +kernel
theorem dom_one {α : Type} (g : Nat → Option α) (h0 : ∀ k, k ≠ 1 → g k = none) (h1 : (g 1).isSome = true) : dom g = [1] := by
  unfold dom
  rw [← range_one]
  congr 1
  funext k
  by_cases e : k = 1
  · subst e; rw [h1]; rfl
  · rw [h0 k e]; simp [e]
theorem wt_one {f : Items} {x : Nat} (h0 : ∀ k, k ≠ 1 → f k = none) (h1 : f 1 = some [x]) : wt f = 17 := by
  unfold wt
  rw [dom_one f h0 (by rw [h1]; rfl)]
  simp [h1]
theorem lastOf_snoc' (l : List Rec) (r : Rec) (k : Nat) : lastOf (l ++ [r]) k = if r.1 = k then some r else lastOf l k := by
  unfold lastOf
  rw [List.reverse_append, List.find?_append]
  simp only [List.reverse_cons, List.reverse_nil, List.nil_append, List.find?_cons, List.find?_nil]
  by_cases e : r.1 = k
  · rw [if_pos e, beq_iff_eq.2 e]; rfl
  · rw [if_neg e, show (r.1 == k) = false by simpa using e]; simp
theorem lastOf_only {l : List Rec} (h : ∀ r ∈ l, r.1 = 1 ∧ Good1 r.2) {k : Nat} (hk : k ≠ 1) : lastOf l k = none := by
  unfold lastOf
  rw [List.find?_eq_none]
  intro r hr
  have := (h r (List.mem_reverse.1 hr)).1
  simp; omega
theorem need_one {l : List Rec} (h : ∀ r ∈ l, r.1 = 1 ∧ Good1 r.2) (x : Nat) : Vn.need (l ++ [((1 : Nat), some [x])]) = 9 := by
  unfold Vn.need recsOf
  have h1 : lastOf (l ++ [((1 : Nat), some [x])]) 1 = some (1, some [x]) := by rw [lastOf_snoc', if_pos rfl]
  rw [dom_one (lastOf (l ++ [((1 : Nat), some [x])])) (fun k hk => by rw [lastOf_snoc', if_neg (by omega)]; exact lastOf_only h hk) (by rw [h1]; rfl)]
  simp [h1]
/-- What Set leaves. -/
def lPut (s : VSt) (x : Nat) : VSt := if s.act = true then { s with l := s.l ++ [(1, some [x])] } else { s with f := sets s.f (s.l ++ [(1, some [x])]) }
def lSet (Z : Nat) (s : VSt) (t : Int) : VSt × Nat := if hasB 0 t = false then (s, 1) else if cardB (cur s) t = false then (s, 14) else vPut Z s 1 [t.toNat]
theorem sets_snoc' (f : Items) (l : List Rec) (r : Rec) : sets f (l ++ [r]) = set1 (sets f l) r := by
  unfold sets; rw [List.foldl_append]; rfl
theorem LInv.put {s : VSt} (h : LInv s) {x : Nat} (h1 : 1 ≤ x) (h5 : x ≤ 5) {Z : Nat} (hZ : 48 ≤ Z) (hid : s.act = false → s.l = []) :
    vPut Z s 1 [x] = (lPut s x, 0) ∧ LInv (lPut s x) ∧ cur (lPut s x) = x ∧ (lPut s x).act = s.act ∧ ((lPut s x).act = false → (lPut s x).l = []) := by
  have hg : Good1 (some [x]) := .inr ⟨x, h1, h5, rfl⟩
  have hl : ∀ r ∈ s.l ++ [((1 : Nat), some [x])], r.1 = 1 ∧ Good1 r.2 := by
    intro r hr
    rcases List.mem_append.1 hr with e | e
    · exact h.ls r e
    · rw [List.mem_singleton.1 e]; exact ⟨rfl, hg⟩
  have hS := sets_only (s.l ++ [((1 : Nat), some [x])]) s.f h.f0 h.f1 hl
  have hs1 : sets s.f (s.l ++ [((1 : Nat), some [x])]) 1 = some [x] := by rw [sets_snoc']; unfold set1; rw [if_pos rfl]
  have hw := wt_one hS.1 hs1
  have hn := need_one h.ls x
  have hp : vPut Z s 1 [x] = (lPut s x, 0) := by
    unfold vPut
    rw [if_pos (by rfl), show (1 : Int).toNat = 1 from rfl]
    unfold vChange
    rw [if_neg (by rw [hn]; omega), if_neg (by rw [hw]; omega)]
    unfold lPut
    by_cases ha : s.act = true
    · rw [if_pos ha, if_pos ha]
    · rw [if_neg ha, if_neg ha]
  refine ⟨hp, ?_⟩
  unfold lPut
  by_cases ha : s.act = true
  · rw [if_pos ha]
    exact ⟨⟨h.f0, h.f1, hl⟩, cur_some hs1, rfl, fun e => by rw [show s.act = false from e] at ha; exact absurd ha Bool.false_ne_true⟩
  · rw [if_neg ha]
    have hl0 := hid (by simpa using ha)
    refine ⟨⟨hS.1, hS.2, h.ls⟩, cur_some ?_, rfl, fun _ => hl0⟩
    show sets (sets s.f (s.l ++ _)) s.l 1 = some [x]
    rw [hl0] at hs1 ⊢
    exact hs1
/-- Set answers as the reference. -/
theorem LInv.set {s : VSt} (h : LInv s) (t : Int) {Z : Nat} (hZ : 48 ≤ Z) (hid : s.act = false → s.l = []) :
    (lSet Z s t).2 = (setR (cur s) t).2 ∧ LInv (lSet Z s t).1 ∧ cur (lSet Z s t).1 = (setR (cur s) t).1 ∧ (lSet Z s t).1.act = s.act ∧ ((lSet Z s t).1.act = false → (lSet Z s t).1.l = []) ∧ (lSet Z s t).1.l.length ≤ s.l.length + 1 := by
  unfold lSet setR
  by_cases h1 : hasB 0 t = false
  · rw [if_pos h1, if_pos h1]; exact ⟨rfl, h, rfl, rfl, hid, Nat.le_succ _⟩
  · rw [if_neg h1, if_neg h1]
    by_cases h2 : cardB (cur s) t = false
    · rw [if_pos h2, if_pos h2]; exact ⟨rfl, h, rfl, rfl, hid, Nat.le_succ _⟩
    · rw [if_neg h2, if_neg h2]
      have hr : 1 ≤ t ∧ t ≤ 5 := by
        rw [hasB_card] at h1
        simpa using h1
      obtain ⟨e, a, b, c, d⟩ := h.put (x := t.toNat) (by omega) (by omega) hZ hid
      rw [e]
      refine ⟨rfl, a, by rw [b]; omega, c, d, ?_⟩
      unfold lPut
      by_cases ha : s.act = true
      · rw [if_pos ha]; simp
      · rw [if_neg ha]; simp
theorem LInv.none_ : LInv { f := none_, act := false, l := [] } := ⟨fun _ _ => rfl, .inl rfl, fun r hr => (List.not_mem_nil hr).elim⟩
end Go.Proofs.YtikkodanpbmmkaaGreat
/-
  The life cycle on a vault: the walks.
-/
namespace Go.Proofs.YtikkodanpbmmkaaGreat
open Go.RowKit
open Jn Vn
attribute [local go_sem] Oper.semAt_some

theorem at_one (f : Items) : at_ f 1 = f 1 := by unfold at_; rw [if_pos (by omega)]; rfl
theorem hasB_of {x : Nat} (h1 : 1 ≤ x) (h5 : x ≤ 5) : hasB 0 (x : Int) = true := by
  rw [hasB_card]; simp; omega
theorem VR.xlen {w : World} {A : VAt} {m : Mem} {P : PAt} {p : PSt} {pc : PC} {J : Nat → Nat} {bank end_ ib : Nat} {lv : Value} {xs : List Vx} {s : VSt} (h : VR w A m P p pc J bank end_ ib lv xs s) : xs.length = s.l.length := by
  rw [← h.xl]; simp [recs]
set_option maxRecDepth 100000 in
set_option maxHeartbeats 2000000 in
theorem lState_ok {w : World} {A : VAt} {m : Mem} {s : VSt} (h : VRep w A m s) (hL : LInv s) (hxn : s.l.length ≤ 1000000) {lb : Nat} (hb : Blk w lb [ptr A.vb] 42) :
    Calls Tryz.prog 26 #[ptr lb] w fun e w' => e = .returned (.int .i64 (cur s)) ∧ Mod Nowhere w w' := by
  obtain ⟨P, p, pc, J, bank, end_, ib, lv, xs, h⟩ := h.ex
  have hA := vAlive_ok h.stub
  rw [h.jr.pg.alive_true] at hA
  have hG := fun k => vGet_ok (h.fresh ((Mod.refl Nowhere w).drewN k)) (by rw [h.xlen]; omega) 1 (by omega) (by omega)
  rw [at_one] at hG
  have c0 := hb.cell 0
  have hlb := hb.lt
  simp only [List.getElem?_cons_zero] at c0
  replace hA := Lib.hid hA
  replace hG := Lib.hid hG
  have hi := hL.item
  obtain ⟨o, ho⟩ : ∃ o, sets s.f s.l 1 = o := ⟨_, rfl⟩
  obtain ⟨c, hc⟩ : ∃ c, cur s = c := ⟨_, rfl⟩
  rw [ho] at hG hi
  rw [hc]
  have hcs : ∀ x, o = some [x] → c = x := fun x e => by rw [← hc]; exact cur_some (ho.trans e)
  have hcn : o = none → c = 1 := fun e => by rw [← hc]; exact cur_none (ho.trans e)
  clear ho hc h hL
  replace hcs := Lib.hid hcs
  replace hcn := Lib.hid hcn
  replace hb := Lib.hid hb
  rcases hi with rfl | ⟨x, x1, x5, rfl⟩
  · have hcx := hcn.out rfl
    replace hcx := Lib.hid hcx
    clear hcn hcs
    go_enter Tryz.func26, Tryz.ntmps26
    go_wp2_with fail
    refine hA.out.mono ?_
    rintro e w1 ⟨rfl, k, rfl⟩
    have c1 : (w.drewN k).cell? ⟨lb, 0, none⟩ = some (ptr A.vb) := c0
    have hGk := hG.out k
    have hm1 : Mod Nowhere w (w.drewN k) := (Mod.refl Nowhere w).drewN k
    generalize w.drewN k = w1 at *
    replace hGk := Lib.hid hGk
    replace hm1 := Lib.hid hm1
    go_wp2_with fail
    refine hGk.out.mono ?_
    rintro e w2 ⟨v, rfl, hown, hm2⟩
    obtain ⟨va, vc, rfl, -⟩ := (Sl.of_owns hown).gen
    clear hown
    go_wp2
    go_ret
    exact ⟨ret_int hcx.out.symm, hm1.out.trans hm2⟩
  · have hcx := hcs.out x rfl
    replace hcx := Lib.hid hcx
    clear hcn hcs
    go_enter Tryz.func26, Tryz.ntmps26
    go_wp2_with fail
    refine hA.out.mono ?_
    rintro e w1 ⟨rfl, k, rfl⟩
    have c1 : (w.drewN k).cell? ⟨lb, 0, none⟩ = some (ptr A.vb) := c0
    have hGk := hG.out k
    have hm1 : Mod Nowhere w (w.drewN k) := (Mod.refl Nowhere w).drewN k
    generalize w.drewN k = w1 at *
    replace hGk := Lib.hid hGk
    replace hm1 := Lib.hid hm1
    go_wp2_with fail
    refine hGk.out.mono ?_
    rintro e w2 ⟨v, rfl, hown, hm2⟩
    obtain ⟨b, off, vc, rfl, hlt, l1, l2, hce, -⟩ := (Sl.of_owns hown).open (by simp)
    have hc0 := hce 0 (by simp)
    simp only [Option.getD_some, u8s, List.map_cons, List.getD_cons_zero, List.length_cons, List.length_nil, Nat.zero_add, Nat.add_zero] at hc0 l1
    simp only [Option.getD_some, List.length_cons, List.length_nil, Nat.zero_add]
    clear hown hce
    go_wp2
    go_ret
    exact ⟨ret_int hcx.out.symm, hm1.out.trans hm2⟩
set_option maxRecDepth 100000 in
set_option maxHeartbeats 2000000 in
theorem lOpen_ok {w : World} {A : VAt} {m : Mem} {s : VSt} (h : VRep w A m s) (hL : LInv s) (hxn : s.l.length ≤ 1000000) :
    Calls Tryz.prog 23 #[ptr A.vb] w fun e w' => ∃ lb, e = .returned (.tuple #[ptr lb, errno 0]) ∧ w.heap.size ≤ lb ∧ Blk w' lb [ptr A.vb] 42 ∧ Mod Nowhere w w' := by
  obtain ⟨P, p, pc, J, bank, end_, ib, lv, xs, h⟩ := h.ex
  have hA := vAlive_ok h.stub
  rw [h.jr.pg.alive_true] at hA
  have hG := fun k => vGet_ok (h.fresh ((Mod.refl Nowhere w).drewN k)) (by rw [h.xlen]; omega) 1 (by omega) (by omega)
  rw [at_one] at hG
  replace hA := Lib.hid hA
  replace hG := Lib.hid hG
  have hi := hL.item
  obtain ⟨o, ho⟩ : ∃ o, sets s.f s.l 1 = o := ⟨_, rfl⟩
  rw [ho] at hG hi
  clear ho h hL
  have hend : ∀ W : World, Mod Nowhere w W → w.heap.size ≤ W.heap.size ∧ Blk (W.alloc (.cells #[ptr A.vb] 42)) W.heap.size [ptr A.vb] 42 ∧ Mod Nowhere w (W.alloc (.cells #[ptr A.vb] 42)) := fun W hm => ⟨hm.size, Blk.new W [ptr A.vb] _, hm.alloc _⟩
  replace hend := Lib.hid hend
  rcases hi with rfl | ⟨x, x1, x5, rfl⟩
  · go_enter Tryz.func23, Tryz.ntmps23
    go_wp2_with fail
    refine hA.out.mono ?_
    rintro e w1 ⟨rfl, k, rfl⟩
    have hGk := hG.out k
    have hm1 : Mod Nowhere w (w.drewN k) := (Mod.refl Nowhere w).drewN k
    generalize w.drewN k = w1 at *
    replace hGk := Lib.hid hGk
    replace hm1 := Lib.hid hm1
    go_wp2_with fail
    refine hGk.out.mono ?_
    rintro e w2 ⟨v, rfl, hown, hm2⟩
    obtain ⟨va, vc, rfl, -⟩ := (Sl.of_owns hown).gen
    clear hown
    have hE := hend.out w2 (hm1.out.trans hm2)
    replace hE := Lib.hid hE
    go_wp2
    go_ret2
    exact ⟨_, rfl, hE.out⟩
  · have hH := fun W => has_ok (w := W) 0 (x : Int)
    rw [hasB_of x1 x5] at hH
    replace hH := Lib.hid hH
    go_enter Tryz.func23, Tryz.ntmps23
    go_wp2_with fail
    refine hA.out.mono ?_
    rintro e w1 ⟨rfl, k, rfl⟩
    have hGk := hG.out k
    have hm1 : Mod Nowhere w (w.drewN k) := (Mod.refl Nowhere w).drewN k
    generalize w.drewN k = w1 at *
    replace hGk := Lib.hid hGk
    replace hm1 := Lib.hid hm1
    go_wp2_with fail
    refine hGk.out.mono ?_
    rintro e w2 ⟨v, rfl, hown, hm2⟩
    obtain ⟨b, off, vc, rfl, hlt, l1, l2, hce, -⟩ := (Sl.of_owns hown).open (by simp)
    have hc0 := hce 0 (by simp)
    simp only [Option.getD_some, u8s, List.map_cons, List.getD_cons_zero, List.length_cons, List.length_nil, Nat.zero_add, Nat.add_zero] at hc0 l1
    simp only [Option.getD_some, List.length_cons, List.length_nil, Nat.zero_add]
    clear hown hce
    replace hm2 := Lib.hid hm2
    go_wp2_with fail
    refine (hH.out _).mono ?_
    rintro e w3 ⟨rfl, hm3⟩
    have hE := hend.out w3 ((hm1.out.trans hm2.out).trans hm3)
    replace hE := Lib.hid hE
    clear hc0
    go_wp2
    go_ret2
    exact ⟨_, rfl, hE.out⟩
theorem u8_of (t : Nat) : ([.int .u8 ((t : Nat) : Int)] : List Value) = u8s [t] := rfl
set_option maxRecDepth 100000 in
set_option maxHeartbeats 2000000 in
theorem lSet_ok {w : World} {A : VAt} {m : Mem} {s : VSt} (h : VRep w A m s) (hL : LInv s) (hxn : s.l.length ≤ 1000000) (hrm : Room m (vcost A)) {lb : Nat} (hb : Blk w lb [ptr A.vb] 42) (t : Int) :
    Calls Tryz.prog 24 #[ptr lb, .int .i64 t] w (VCall w A m s (lSet A.Z s t).1 (lSet A.Z s t).2 (vcost A)) := by
  have hH := fun W => has_ok (w := W) 0 t
  have hA : ∀ W, Mod Nowhere w W → Calls Tryz.prog 56 #[ptr A.vb] W fun e w' => e = .returned (.bool true) ∧ ∃ n, w' = W.drewN n := fun W hm => by
    obtain ⟨P, p, pc, J, bank, end_, ib, lv, xs, h⟩ := (h.fresh hm).ex
    have hA := vAlive_ok h.stub
    rw [h.jr.pg.alive_true] at hA
    exact hA
  have hS := fun W (hm : Mod Nowhere w W) => lState_ok (h.fresh hm) hL hxn (hb.mod hm id)
  have hC := fun W => card_ok (w := W) (cur s) t
  have hrun : Runs m m 0 := by
    obtain ⟨P, p, pc, J, bank, end_, ib, lv, xs, h⟩ := h.ex
    exact h.jr.runs
  have hsame : ∀ W er, Mod Nowhere w W → VCall w A m s s er (vcost A) (.returned (errno er)) W := fun W er hm => VCall.same (h.fresh hm) hrun hm.nowhere
  have hc0 := fun W (hm : Mod Nowhere w W) => (hb.mod hm id).cell 0
  have hlb := hb.lt
  simp only [List.getElem?_cons_zero] at hc0
  have k0 := hc0 w (Mod.refl _ _)
  have hr : hasB 0 t = true → 1 ≤ t ∧ t ≤ 5 := fun e => by rw [hasB_card] at e; simpa using e
  have hP := fun W v (hm : Mod Nowhere w W) (h1 : hasB 0 t = true) (hd : DSl W v [t.toNat]) => vPut_ok (h.fresh hm) hxn 1 hd (fun k => by
    have := hr h1
    cases k with
    | zero => show t.toNat < 256; omega
    | succ k => show ([] : List Nat).getD k 0 < 256; simp) (by simp) hrm
  unfold lSet
  generalize cur s = c at *
  generalize cardB c t = cb at *
  generalize hasB 0 t = hbt at *
  replace hH := Lib.hid hH
  replace hA := Lib.hid hA
  replace hS := Lib.hid hS
  replace hC := Lib.hid hC
  replace hsame := Lib.hid hsame
  replace hc0 := Lib.hid hc0
  replace hP := Lib.hid hP
  replace hr := Lib.hid hr
  clear h hL
  cases hbt
  · rw [if_pos rfl]
    go_enter Tryz.func24, Tryz.ntmps24
    go_wp2_with fail
    refine (hH.out _).mono ?_
    rintro e w1 ⟨rfl, hm1⟩
    have hfin := hsame.out w1 1 hm1
    replace hfin := Lib.hid hfin
    go_wp2
    go_ret
    exact hfin.out
  · rw [if_neg Bool.noConfusion]
    cases cb
    · rw [if_pos rfl]
      go_enter Tryz.func24, Tryz.ntmps24
      go_wp2_with fail
      refine (hH.out _).mono ?_
      rintro e w1 ⟨rfl, hm1⟩
      have k1 := hc0.out w1 hm1
      have hA1 := hA.out w1 hm1
      replace hA1 := Lib.hid hA1
      replace hm1 := Lib.hid hm1
      go_wp2_with fail
      refine hA1.out.mono ?_
      rintro e w2 ⟨rfl, n, rfl⟩
      have hm2 : Mod Nowhere w (w1.drewN n) := hm1.out.drewN n
      have hS2 := hS.out _ hm2
      generalize w1.drewN n = w2 at *
      replace hm2 := Lib.hid hm2
      replace hS2 := Lib.hid hS2
      go_wp2_with fail
      refine hS2.out.mono ?_
      rintro e w3 ⟨rfl, hm3⟩
      have hm03 := hm2.out.trans hm3
      replace hm03 := Lib.hid hm03
      clear hm3
      go_wp2_with fail
      refine (hC.out _).mono ?_
      rintro e w4 ⟨rfl, hm4⟩
      have hfin := hsame.out w4 14 (hm03.out.trans hm4)
      replace hfin := Lib.hid hfin
      go_wp2
      go_ret
      exact hfin.out
    · rw [if_neg Bool.noConfusion]
      have htr := hr.out rfl
      obtain ⟨tn, htn⟩ : ∃ tn, t.toNat = tn := ⟨_, rfl⟩
      obtain rfl : t = (tn : Int) := by omega
      have ht5 : tn ≤ 5 := by omega
      clear htr
      rw [htn] at hP ⊢
      replace htn := Lib.hid htn
      go_enter Tryz.func24, Tryz.ntmps24
      go_wp2_with fail
      refine (hH.out _).mono ?_
      rintro e w1 ⟨rfl, hm1⟩
      have k1 := hc0.out w1 hm1
      have hA1 := hA.out w1 hm1
      replace hA1 := Lib.hid hA1
      replace hm1 := Lib.hid hm1
      go_wp2_with fail
      refine hA1.out.mono ?_
      rintro e w2 ⟨rfl, n, rfl⟩
      have hm2 : Mod Nowhere w (w1.drewN n) := hm1.out.drewN n
      have hS2 := hS.out _ hm2
      generalize w1.drewN n = w2 at *
      replace hm2 := Lib.hid hm2
      replace hS2 := Lib.hid hS2
      go_wp2_with fail
      refine hS2.out.mono ?_
      rintro e w3 ⟨rfl, hm3⟩
      have hm03 := hm2.out.trans hm3
      replace hm03 := Lib.hid hm03
      clear hm3
      go_wp2_with fail
      refine (hC.out _).mono ?_
      rintro e w4 ⟨rfl, hm4⟩
      have hm04 := hm03.out.trans hm4
      have k4 := hc0.out w4 hm04
      have hm5 : Mod Nowhere w (w4.alloc (.cells #[.int .u8 (tn : Int)] 5)) := hm04.alloc _
      have hds : DSl (w4.alloc (.cells #[.int .u8 (tn : Int)] 5)) (.slice (some ⟨w4.heap.size, 0, none⟩) 1 1) [tn] := Sl.whole (Blk.new w4 (u8s [tn]) _) rfl (by decide)
      have hPut := hP.out _ _ hm5 (by trivial) hds
      replace hPut := Lib.hid hPut
      replace hm5 := Lib.hid hm5
      clear hds hm04
      go_wp2_with fail
      refine hPut.out.mono ?_
      rintro e w6 hpost
      have hfin := hpost.from (hm5.out.nowhere (S := A.S))
      obtain ⟨ne, rfl⟩ := hfin.errno
      replace hfin := Lib.hid hfin
      clear hpost
      go_wp2
      go_ret
      exact hfin.out
end Go.Proofs.YtikkodanpbmmkaaGreat
/-
  The life cycle: a fresh vault, and the example of the chapter.
-/
namespace Go.Proofs.YtikkodanpbmmkaaGreat
open Go.RowKit
open Jn Vn
attribute [local go_sem] Oper.semAt_some

set_option maxRecDepth 100000 in
set_option maxHeartbeats 1000000 in
theorem memory25_ok (w : World) : Calls Tryz.prog 22 #[] w fun e w' => e = .returned (.agg #[.int .i64 16384, .int .i64 1073741824]) ∧ Mod Nowhere w w' := by
  go_enter Tryz.func22, Tryz.ntmps22
  go_wp2
  exact bodyPost_ret (results_cell_row rfl _ _ w.heap.size 33 _ (0, 0) _ rfl (heap_alloc_new w _) Tryz.underlying33 rfl (by kernel_rfl)) rfl ⟨rfl, (Mod.refl _ w).alloc _⟩
/-- A vault of the laws that is alive, holds no item but that of the life cycle, and has room for n writes; no cut is planned. -/
structure Up (w : World) (A : VAt) (m : Mem) (s : VSt) (n : Nat) : Prop where
  rep : VRep w A m s
  inv : LInv s
  idle : s.act = false → s.l = []
  len : s.l.length ≤ 100
  room : Room m n
  clean : m.Clean
  size : m.size = 16384
  cnt : A.count = 682
  frm : A.frames = 819
theorem Up.fresh {w w' : World} {A : VAt} {m : Mem} {s : VSt} {n : Nat} (h : Up w A m s n) (hm : Mod Nowhere w w') : Up w' A m s n := { h with rep := h.rep.fresh hm }
theorem Up.less {w : World} {A : VAt} {m : Mem} {s : VSt} {n k : Nat} (h : Up w A m s n) (hk : k ≤ n) : Up w A m s k := { h with room := h.room.mono hk }
theorem vcost_682 {A : VAt} (h : A.count = 682) : vcost A = 1022784 := by
  unfold vcost VAt.Z
  rw [h]
  rfl
theorem Up.z {w : World} {A : VAt} {m : Mem} {s : VSt} {n : Nat} (h : Up w A m s n) : 48 ≤ A.Z := by unfold VAt.Z; rw [h.cnt]; decide
/-- Its Life stays where it is. -/
theorem Up.life {w w' : World} {A : VAt} {m : Mem} {s : VSt} {n lb : Nat} (h : Up w A m s n) (hb : Blk w lb [ptr A.vb] 42) (hm : Mod A.S w w') : Blk w' lb [ptr A.vb] 42 := by
  obtain ⟨P, p, pc, J, bank, end_, ib, lv, xs, h⟩ := h.rep.ex
  exact hb.mod hm fun e => h.shunS (T := 42) (by decide) (by decide) lb e _ hb
/-- After a call that changes the life cycle, or was cut. -/
def UpCall (w : World) (A : VAt) (m : Mem) (s s' : VSt) (er n k : Nat) (e : Ending) (w' : World) : Prop :=
  (∃ m', e = .returned (errno er) ∧ Up w' A m' s' n ∧ m'.pending = m.pending ∧ m'.cuts = m.cuts ∧ Mod A.S w w') ∨
  (∃ m' f, e = .returned (errno 7) ∧ (f = s.f ∨ f = s'.f) ∧ VDead w' A m' f ∧ Stopped m m' k ∧ Mod A.S w w')
theorem VCall.up {w w' : World} {A : VAt} {m : Mem} {s s' : VSt} {er n k : Nat} {e : Ending} (hc : VCall w A m s s' er k e w') (h : Up w A m s (n + k)) (hi : LInv s') (hid : s'.act = false → s'.l = []) (hl : s'.l.length ≤ 100) : UpCall w A m s s' er n k e w' := by
  rcases hc with ⟨m', j, a, b, c, d, f⟩ | ⟨m', g, a, b, c, d, f⟩
  · exact .inl ⟨m', a, ⟨b, hi, hid, hl, h.room.runs d (by omega), d.clean h.clean, d.size.trans h.size, h.cnt, h.frm⟩, d.pend, d.cuts, f⟩
  · exact .inr ⟨m', g, a, b, c, d, f⟩
theorem lset_up {w : World} {A : VAt} {m : Mem} {s : VSt} {n lb : Nat} (h : Up w A m s (n + 1022784)) (hl : s.l.length ≤ 99) (hb : Blk w lb [ptr A.vb] 42) (t : Int) :
    Calls Tryz.prog 24 #[ptr lb, .int .i64 t] w (UpCall w A m s (lSet A.Z s t).1 (setR (cur s) t).2 n 1022784) := by
  obtain ⟨h1, h2, h3, h4, h5, h6⟩ := h.inv.set t h.z h.idle
  have hc := lSet_ok h.rep h.inv (by have := h.len; omega) (by rw [vcost_682 h.cnt]; exact h.room.mono (by omega)) hb t
  rw [vcost_682 h.cnt, h1] at hc
  exact hc.mono fun e w' hp => hp.up h h2 h5 (by omega)
/-- Where no cut is planned. -/
theorem lset_sure {w : World} {A : VAt} {m : Mem} {s : VSt} {n lb : Nat} (h : Up w A m s (n + 1022784)) (hp : m.pending = false) (hl : s.l.length ≤ 99) (hb : Blk w lb [ptr A.vb] 42) (t : Int) :
    Calls Tryz.prog 24 #[ptr lb, .int .i64 t] w fun e w' => e = .returned (errno (setR (cur s) t).2) ∧ ∃ m' s', Up w' A m' s' n ∧ m'.pending = false ∧ cur s' = (setR (cur s) t).1 ∧ s'.act = s.act ∧ s'.l.length ≤ s.l.length + 1 ∧ Mod A.S w w' ∧ (∀ lb, Blk w lb [ptr A.vb] 42 → Blk w' lb [ptr A.vb] 42) := by
  obtain ⟨h1, h2, h3, h4, h5, h6⟩ := h.inv.set t h.z h.idle
  refine (lset_up h hl hb t).mono ?_
  rintro e w' (⟨m', a, b, c, d, f⟩ | ⟨m', g, a, b, c, d, f⟩)
  · exact ⟨a, m', _, b, c.trans hp, h3, h4, h6, f, fun lb hb => h.life hb f⟩
  · exact absurd (d.pend.symm.trans hp) (by simp)
theorem VNew.up {w w' : World} {v : Ending} (h : VNew 16384 1073741824 w v w') : ∃ A m, v = .returned (.tuple #[ptr A.M.mb, ptr A.vb, errno 0]) ∧ Up w' A m (vst0 none_) 1000000000 ∧ m.pending = false ∧ (∀ k, A.S k → w.heap.size ≤ k) ∧ Mod Nowhere w w' := by
  obtain ⟨A, m, k, a, b, c, d, e, f, g, i, j⟩ := h
  refine ⟨A, m, a, ⟨e, LInv.none_, fun _ => rfl, by show 0 ≤ 100; omega, ⟨?_, ?_⟩, g.clean (Mem.new_clean _ _), g.size.trans (Mem.new_size _ _), b, c⟩, g.pend, i, j⟩
  · rw [g.writes, g.endu]; show 0 + k + 1000000000 ≤ 1073741824; omega
  · rw [g.cuts]; show 0 < 1099511627776; omega
theorem cur_new : cur (vst0 none_) = 1 := rfl
set_option maxRecDepth 100000 in
set_option maxHeartbeats 4000000 in
theorem example25_ok (w : World) : Calls Tryz.prog 20 #[] w fun e w' => e = .returned (.bool true) ∧ Mod Nowhere w w' := by
  have hM := fun W => memory25_ok W
  have hN := fun W => vNew_ok (w := W) (n := 16384) (e := 1073741824) (by omega) (by omega) (by omega) (by omega)
  have hB := fun W => byte_ok (w := W) 2 5
  have hS := fun W => stateOf_ok (w := W) 0 15
  rw [show findPost = fun w k n back e w' => e = .returned (.tuple #[.int .i64 (findB k back n).1, errno (findB k back n).2]) ∧ Mod Nowhere w w' from rfl] at hB hS
  simp only [show (findB 2 false 5).1 = 131 from rfl, show (findB 2 false 5).2 = 0 from rfl] at hB
  simp only [show (findB 0 true 15).1 = 3 from rfl, show (findB 0 true 15).2 = 0 from rfl] at hS
  replace hM := Lib.hid hM
  replace hN := Lib.hid hN
  replace hB := Lib.hid hB
  replace hS := Lib.hid hS
  go_enter Tryz.func20, Tryz.ntmps20
  go_wp2_with fail
  refine (hM.out _).mono ?_
  rintro e w1 ⟨rfl, hm1⟩
  replace hm1 := Lib.hid hm1
  go_wp2_with fail
  refine (hN.out _).mono ?_
  rintro e w2 hv
  obtain ⟨A, m, rfl, hup, hpd, hAS, hm2⟩ := hv.up
  clear hv
  have hm02 := hm1.out.trans hm2
  have hAn : ∀ k, A.S k → w.heap.size ≤ k := fun k hk => Nat.le_trans hm1.out.size (hAS k hk)
  have hO := lOpen_ok hup.rep hup.inv (by have := hup.len; omega)
  replace hO := Lib.hid hO
  replace hup := Lib.hid hup
  replace hpd := Lib.hid hpd
  replace hAn := Lib.hid hAn
  replace hm02 := Lib.hid hm02
  clear hAS hm2
  go_wp2_with fail
  refine hO.out.mono ?_
  rintro e w3 ⟨lb, rfl, hlb, hbl, hm3⟩
  have hup3 := hup.out.fresh hm3
  have hm03 := hm02.out.trans hm3
  have hS3 := lState_ok hup3.rep hup3.inv (by have := hup3.len; omega) hbl
  rw [cur_new] at hS3
  replace hS3 := Lib.hid hS3
  replace hup3 := Lib.hid hup3
  replace hbl := Lib.hid hbl
  replace hm03 := Lib.hid hm03
  clear hm3 hO
  go_wp2_with fail
  refine hS3.out.mono ?_
  rintro e w4 ⟨rfl, hm4⟩
  have hup4 := hup3.out.fresh hm4
  have hbl4 := hbl.out.mod hm4 id
  have hm04 := hm03.out.trans hm4
  have hC1 := lset_sure (n := 990000000) (hup4.less (by omega)) hpd.out (by show 0 ≤ 99; omega) hbl4 3
  simp only [cur_new, show (setR 1 3).2 = 14 from rfl, show (setR 1 3).1 = 1 from rfl] at hC1
  replace hC1 := Lib.hid hC1
  replace hbl4 := Lib.hid hbl4
  replace hm04 := Lib.hid hm04
  clear hm4 hS3 hup4
  go_wp2_with fail
  refine hC1.out.mono ?_
  rintro e w5 ⟨rfl, m5, s5, hup5, hpd5, hc5, ha5, hl5, hm5, hk5⟩
  have hbl5 := hk5 lb hbl4.out
  have hl5' : s5.l.length ≤ 1 := hl5
  have hm05 := hm04.out.step hm5 fun i hi e => absurd hi (by have := hAn.out i e; omega)
  have hC2 := lset_sure (n := 980000000) (hup5.less (by omega)) hpd5 (by omega) hbl5 2
  rw [hc5] at hC2
  simp only [show (setR 1 2).2 = 0 from rfl, show (setR 1 2).1 = 2 from rfl] at hC2
  replace hC2 := Lib.hid hC2
  replace hbl5 := Lib.hid hbl5
  replace hm05 := Lib.hid hm05
  clear hm5 hC1 hup5 hk5 hpd5 hc5 ha5 hl5
  go_wp2_with fail
  refine hC2.out.mono ?_
  rintro e w6 ⟨rfl, m6, s6, hup6, hpd6, hc6, ha6, hl6, hm6, hk6⟩
  have hbl6 := hk6 lb hbl5.out
  have hm06 := hm05.out.step hm6 fun i hi e => absurd hi (by have := hAn.out i e; omega)
  replace hup6 := Lib.hid hup6
  replace hbl6 := Lib.hid hbl6
  replace hm06 := Lib.hid hm06
  replace hc6 := Lib.hid hc6
  clear hm6 hC2 hk6 hpd6 ha6 hl6 hl5'
  go_wp2_with fail
  refine (hB.out _).mono ?_
  rintro e w7 ⟨rfl, hm7⟩
  replace hm7 := Lib.hid hm7
  go_wp2_with fail
  refine (hS.out _).mono ?_
  rintro e w8 ⟨rfl, hm8⟩
  have hm78 := hm7.out.trans hm8
  have hup8 := hup6.out.fresh hm78
  have hbl8 := hbl6.out.mod hm78 id
  have hS8 := lState_ok hup8.rep hup8.inv (by have := hup8.len; omega) hbl8
  rw [hc6.out] at hS8
  have hm08 := hm06.out.trans hm78
  replace hS8 := Lib.hid hS8
  replace hm08 := Lib.hid hm08
  clear hm78 hup8 hbl8 hm8
  go_wp2_with fail
  refine hS8.out.mono ?_
  rintro e w9 ⟨rfl, hm9⟩
  go_wp2
  go_ret
  exact ⟨rfl, hm08.out.trans hm9⟩
end Go.Proofs.YtikkodanpbmmkaaGreat
