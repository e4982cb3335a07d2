/-
  The life cycle: the tables.
-/
import Derived.Test.YtikkodanpbmmkaaGreatProg
import Derived.Test.YtikkodanpbmmkaaGreatG01
import Derived.Test.YtikkodanpbmmkaaGreatG11
import Derived.Test.YtikkodanpbmmkaaGreatG03
import Derived.ChangeKeysEq
set_option linter.unusedVariables false
set_option linter.unusedSimpArgs false
namespace Go.Proofs.YtikkodanpbmmkaaGreat
open Go.RowKit
attribute [local go_sem] Oper.semAt_some

/-! ### The tables, in plain Lean -/
abbrev Rw := Nat × Nat
def rws (k : Int) : Option (List Rw) :=
  if k = 0 then some [(1, 1), (2, 7), (3, 15), (4, 127), (5, 255)] else if k = 3 then some [(1, 1)] else if k = 1 ∨ k = 2 then some [(2, 3), (3, 7), (4, 15), (5, 131)] else none
def trs (card : Bool) : List Rw := if card then [(1, 2), (2, 3), (3, 4), (4, 3)] else [(2, 3), (3, 4)]
def hasB (k n : Int) : Bool := ((rws k).getD []).any fun r => decide ((r.1 : Int) = n)
def cardB (f t : Int) : Bool := hasB 0 f && hasB 0 t && ((decide (t = 5) && !decide (f = 5)) || (trs true).any fun r => decide ((r.1 : Int) = f ∧ (r.2 : Int) = t))
def appB (k f t : Int) : Bool := (decide (k = 2) || decide (k = 1)) && hasB k f && hasB k t && ((decide (f = 5) != decide (t = 5)) || (trs false).any fun r => decide ((r.1 : Int) = f ∧ (r.2 : Int) = t))
/-- The value beside n, and the error. -/
def turn (l : List Rw) (back : Bool) (n : Int) : Int × Nat :=
  match l.find? (fun r => decide ((((if back then r.2 else r.1) : Nat) : Int) = n)) with
  | some r => (((if back then r.1 else r.2) : Nat), 0)
  | none => (0, 2)
def findB (k : Int) (back : Bool) (n : Int) : Int × Nat := match rws k with
  | some l => turn l back n
  | none => (0, 1)

/-! ### Rows in Go's memory -/
theorem Sl.whole {w : World} {b : Nat} {xs : List Value} {T : TypeId} {sz n : Nat} (h : Blk w b xs T) (hn : xs.length = n * sz) (hm : n ≤ maxLen) : Sl w (.slice (some ⟨b, 0, none⟩) n n) T sz n xs :=
  ⟨hn, .inr ⟨b, 0, n, xs, rfl, h, Nat.le_refl _, hm, by omega, by rw [List.drop_zero, ← hn, List.take_length]⟩⟩
def rwCells (r : Rw) : List Value := [.int .i64 r.1, .int .i64 r.2]
def rwsCells (l : List Rw) : List Value := l.flatMap rwCells
theorem rwsCells_get : ∀ (l : List Rw) (i : Nat) (h : i < l.length), (rwsCells l).getD (i * 2) default = .int .i64 l[i].1 ∧ (rwsCells l).getD (i * 2 + 1) default = .int .i64 l[i].2
  | x :: xs, 0, _ => by simp [rwsCells, rwCells]
  | x :: xs, i + 1, h => by
    have := rwsCells_get xs i (by simpa using h)
    have e : rwsCells (x :: xs) = .int .i64 x.1 :: .int .i64 x.2 :: rwsCells xs := rfl
    rw [e, show (i + 1) * 2 = i * 2 + 1 + 1 by omega, show i * 2 + 1 + 1 + 1 = (i * 2 + 1) + 1 + 1 by omega]
    simp only [List.getD_cons_succ, List.getElem_cons_succ]
    exact this
theorem rwsCells_len (l : List Rw) : (rwsCells l).length = l.length * 2 := by
  induction l with
  | nil => rfl
  | cons x xs ih => show (rwCells x ++ rwsCells xs).length = _; rw [List.length_append, ih]; simp [rwCells]; omega
/-- A slice of rows. -/
structure RwSl (w : World) (v : Value) (l : List Rw) : Prop where
  sl : Sl w v 104 2 l.length (rwsCells l)
theorem RwSl.fresh {w w' : World} {v : Value} {l : List Rw} (h : RwSl w v l) (hm : Mod Nowhere w w') : RwSl w' v l := ⟨h.sl.mod hm fun _ _ => id⟩
theorem RwSl.at_ {w : World} {v : Value} {l : List Rw} (h : RwSl w v l) {i : Nat} (hi : i < l.length) : ∃ b off cap, v = .slice (some ⟨b, off, none⟩) l.length cap ∧ b < w.heap.size ∧ l.length ≤ cap ∧ cap ≤ maxLen ∧ w.cell? ⟨b, off + i * 2, none⟩ = some (.int .i64 l[i].1) ∧ w.cell? ⟨b, off + i * 2 + 1, none⟩ = some (.int .i64 l[i].2) := by
  obtain ⟨b, off, cap, rfl, hb, h1, h2, hc, _⟩ := h.sl.open (by omega)
  obtain ⟨e1, e2⟩ := rwsCells_get l i hi
  have c1 := hc (i * 2) (by omega)
  have c2 := hc (i * 2 + 1) (by omega)
  rw [e1] at c1
  rw [e2] at c2
  exact ⟨b, off, cap, rfl, hb, h1, h2, c1, by rw [Nat.add_assoc]; exact c2⟩
/-- What states and transitions return. -/
def RwPost (w : World) (o : Option (List Rw)) (e : Ending) (w' : World) : Prop :=
  (o = none ∧ e = .returned (.slice none 0 0) ∧ Mod Nowhere w w') ∨ ∃ l v, o = some l ∧ e = .returned v ∧ RwSl w' v l ∧ Mod Nowhere w w' ∧ 0 < l.length ∧ l.length ≤ 100
theorem RwPost.some_ {w w' : World} {l : List Rw} {b n : Nat} (hb : Blk w' b (rwsCells l) 104) (hn : n = l.length) (h0 : 0 < l.length) (hm : l.length ≤ 100) (m : Mod Nowhere w w') :
    RwPost w (some l) (.returned (.slice (some ⟨b, 0, none⟩) n n)) w' := by
  subst hn
  exact .inr ⟨l, _, rfl, rfl, ⟨Sl.whole hb (rwsCells_len l) (by unfold maxLen; omega)⟩, m, h0, hm⟩
set_option maxRecDepth 100000 in
set_option maxHeartbeats 2000000 in
theorem states_ok {w : World} (k : Int) : Calls Tryz.prog 127 #[.int .i64 k] w (RwPost w (rws k)) := by
  unfold rws
  by_cases h0 : k = 0
  · subst h0
    rw [if_pos rfl]
    go_enter Tryz.func127, Tryz.ntmps127
    go_wp2
    go_ret
    exact RwPost.some_ (l := [(1, 1), (2, 7), (3, 15), (4, 127), (5, 255)]) (Blk.new w (rwsCells [(1, 1), (2, 7), (3, 15), (4, 127), (5, 255)]) _) rfl (by decide) (by decide) ((Mod.refl _ w).alloc _)
  · rw [if_neg h0]
    by_cases h3 : k = 3
    · subst h3
      rw [if_pos rfl]
      go_enter Tryz.func127, Tryz.ntmps127
      go_wp2
      go_ret
      exact RwPost.some_ (l := [(1, 1)]) (Blk.new w (rwsCells [(1, 1)]) _) rfl (by decide) (by decide) ((Mod.refl _ w).alloc _)
    · rw [if_neg h3]
      by_cases h2 : k = 2
      · subst h2
        rw [if_pos (by omega)]
        go_enter Tryz.func127, Tryz.ntmps127
        go_wp2
        go_ret
        exact RwPost.some_ (l := [(2, 3), (3, 7), (4, 15), (5, 131)]) (Blk.new w (rwsCells [(2, 3), (3, 7), (4, 15), (5, 131)]) _) rfl (by decide) (by decide) ((Mod.refl _ w).alloc _)
      · by_cases h1 : k = 1
        · subst h1
          rw [if_pos (by omega)]
          go_enter Tryz.func127, Tryz.ntmps127
          go_wp2
          go_ret
          exact RwPost.some_ (l := [(2, 3), (3, 7), (4, 15), (5, 131)]) (Blk.new w (rwsCells [(2, 3), (3, 7), (4, 15), (5, 131)]) _) rfl (by decide) (by decide) ((Mod.refl _ w).alloc _)
        · rw [if_neg (by omega)]
          go_enter Tryz.func127, Tryz.ntmps127
          go_wp2
          go_ret
          exact .inl ⟨rfl, rfl, Mod.refl _ _⟩
set_option maxRecDepth 100000 in
set_option maxHeartbeats 2000000 in
theorem transitions_ok {w : World} (c : Bool) : Calls Tryz.prog 75 #[.bool c] w (RwPost w (some (trs c))) := by
  cases c
  · go_enter Tryz.func75, Tryz.ntmps75
    go_wp2
    go_ret
    exact RwPost.some_ (l := [(2, 3), (3, 4)]) (Blk.new w (rwsCells [(2, 3), (3, 4)]) _) rfl (by decide) (by decide) ((Mod.refl _ w).alloc _)
  · go_enter Tryz.func75, Tryz.ntmps75
    go_wp2
    go_ret
    exact RwPost.some_ (l := [(1, 2), (2, 3), (3, 4), (4, 3)]) (Blk.new w (rwsCells [(1, 2), (2, 3), (3, 4), (4, 3)]) _) rfl (by decide) (by decide) ((Mod.refl _ w).alloc _)
set_option maxRecDepth 100000 in
set_option maxHeartbeats 1000000 in
theorem IndexFunc_rw {w : World} {v : Value} {xs : List Rw} (h : RwSl w v xs) (hl : xs.length ≤ 1099511627776) (g : FuncId) (cap : Array Value) (hent : ∀ args w, (callFunc g args).run Tryz.prog w = .ok (.enter g args) w) (pd : Rw → Bool)
    (hcall : ∀ x ∈ xs, ∀ wr, Mod Nowhere w wr → Calls Tryz.prog g (#[.agg #[.int .i64 x.1, .int .i64 x.2]] ++ cap) wr fun e w' => e = .returned (.bool (pd x)) ∧ Mod Nowhere wr w') :
    Calls Tryz.prog 163 #[v, .func (.func g) #[] cap] w fun e w' => ∃ r : Int, e = .returned (.int .i64 r) ∧ decide (0 ≤ r) = xs.any pd ∧ Mod Nowhere w w' := by
  obtain ⟨a, vc, rfl, h1, h2, _⟩ := h.sl.gen
  replace h := Lib.hid h
  replace hcall := Lib.hid hcall
  go_enter Tryz.func163, Tryz.ntmps163
  go_wp2
  go_loopw [8] (fun i wr => ∃ k : Nat, k ≤ xs.length ∧ i = .int .i64 k ∧ (xs.take k).any pd = false ∧ Mod Nowhere w wr) (fun i _ => xs.length - (intOf i).toNat)
  case atStart => exact ⟨0, by omega, rfl, rfl, Mod.refl _ _⟩
  case round =>
    obtain ⟨k, hk, rfl, hno, hm⟩ := hrel
    replace hno := Lib.hid hno
    by_cases hlt : k < xs.length
    · obtain ⟨b, off, cap', e0, hb, _, _, c1, c2⟩ := (h.out.fresh hm).at_ hlt
      have hC := hcall.out xs[k] (List.getElem_mem hlt) wr hm
      have htk : (xs.take (k + 1)).any pd = ((xs.take k).any pd || pd xs[k]) := by rw [List.take_succ_eq_append_getElem hlt, List.any_append]; simp only [List.any_cons, List.any_nil, Bool.or_false]
      obtain ⟨rfl, rfl⟩ : a = some ⟨b, off, none⟩ ∧ vc = cap' := by
        simp at e0; exact ⟨e0.1, e0.2⟩
      have hany : pd xs[k] = true → xs.any pd = true := fun hp => List.any_eq_true.2 ⟨xs[k], List.getElem_mem hlt, hp⟩
      cases hp : pd xs[k]
      · rw [hp] at hC htk
        clear hany
        replace hp := Lib.hid hp
        generalize xs[k].2 = q at *
        generalize xs[k].1 = o at *
        replace hC := Lib.hid hC
        replace hm := Lib.hid hm
        replace htk := Lib.hid htk
        go_wp2_with fail
        refine hC.out.mono ?_
        rintro e w1 ⟨rfl, hm1⟩
        go_wp2
        go_roundw
        case rel => exact ⟨k + 1, by omega, by go_num, by rw [htk.out, hno.out]; rfl, hm.out.trans hm1⟩
        case measure => simp [intOf]; omega
      · rw [hp] at hC
        have hany2 := hany hp
        replace hany2 := Lib.hid hany2
        clear hany htk
        replace hp := Lib.hid hp
        generalize xs[k].2 = q at *
        generalize xs[k].1 = o at *
        replace hC := Lib.hid hC
        replace hm := Lib.hid hm
        go_wp2_with fail
        refine hC.out.mono ?_
        rintro e w1 ⟨rfl, hm1⟩
        go_wp2
        go_ret
        exact ⟨_, rfl, by rw [hany2.out]; simp, hm.out.trans hm1⟩
    · obtain rfl : k = xs.length := by omega
      rw [List.take_length] at hno
      replace hm := Lib.hid hm
      go_wp2
      go_ret
      exact ⟨_, rfl, by rw [hno.out]; rfl, hm.out⟩
set_option maxRecDepth 100000 in
set_option maxHeartbeats 1000000 in
theorem ContainsFunc_rw {w : World} {v : Value} {xs : List Rw} (h : RwSl w v xs) (hl : xs.length ≤ 1099511627776) (g : FuncId) (cap : Array Value) (hent : ∀ args w, (callFunc g args).run Tryz.prog w = .ok (.enter g args) w) (pd : Rw → Bool)
    (hcall : ∀ x ∈ xs, ∀ wr, Mod Nowhere w wr → Calls Tryz.prog g (#[.agg #[.int .i64 x.1, .int .i64 x.2]] ++ cap) wr fun e w' => e = .returned (.bool (pd x)) ∧ Mod Nowhere wr w') :
    Calls Tryz.prog 128 #[v, .func (.func g) #[] cap] w fun e w' => e = .returned (.bool (xs.any pd)) ∧ Mod Nowhere w w' := by
  have hI := IndexFunc_rw h hl g cap hent pd hcall
  replace hI := Lib.hid hI
  clear hcall h hent
  go_enter Tryz.func128, Tryz.ntmps128
  go_wp2_with fail
  refine hI.out.mono ?_
  rintro e w1 ⟨r, rfl, hr, hm1⟩
  cases ha : xs.any pd
  · rw [ha] at hr
    go_wp2
    go_ret
    exact ⟨ret_bool ha.symm, hm1⟩
  · rw [ha] at hr
    go_wp2
    go_ret
    exact ⟨ret_bool ha.symm, hm1⟩
set_option maxRecDepth 100000 in
set_option maxHeartbeats 1000000 in
theorem hasC_ok {w : World} {B : Nat} {n : Int} (hb : w.cell? ⟨B, 0, none⟩ = some (.int .i64 n)) (x : Rw) :
    Calls Tryz.prog 129 #[.agg #[.int .i64 x.1, .int .i64 x.2], .pointer (some ⟨B, 0, none⟩)] w fun e w' => e = .returned (.bool (decide ((x.1 : Int) = n))) ∧ Mod Nowhere w w' := by
  have hbl := cell_lt' hb
  generalize x.1 = p
  generalize x.2 = q
  by_cases hp : (p : Int) = n
  · go_enter Tryz.func129, Tryz.ntmps129
    go_wp2
    go_ret
    exact ⟨ret_bool (by simp [hp]), (Mod.refl _ w).alloc _⟩
  · go_enter Tryz.func129, Tryz.ntmps129
    go_wp2
    go_ret
    exact ⟨ret_bool (by simp [hp]), (Mod.refl _ w).alloc _⟩
theorem eq_int (n : Nat) (a b : Int) (w : World) : (Op.equalIn (n + 1) 3 (.int .i64 a) (.int .i64 b)).run Tryz.prog w = .ok (a == b) w := by
  simp [Op.equalIn, run_underlying Tryz.underlying3]
theorem eq_row (a b c d : Int) (w : World) : (Op.equalIn 10000 104 (.agg #[.int .i64 a, .int .i64 b]) (.agg #[.int .i64 c, .int .i64 d])).run Tryz.prog w = .ok (a == c && b == d) w := by
  obtain ⟨i0, hi0, hz0, hz1, hz2⟩ := info_parts info_i64
  rw [show 10000 = 9999 + 1 from rfl, run_equalIn_array w 9999 _ _ Tryz.underlying104 hi0, show Tryz.prog.cellsOf 3 = 1 by kernel_rfl]
  have p1 : ∀ (x y : Int), (part 3 #[.int .i64 x, .int .i64 y] (0 * 1)).run Tryz.prog w = .ok (.int .i64 x) w := fun x y => by
    go_simp
  have p2 : ∀ (x y : Int), (part 3 #[.int .i64 x, .int .i64 y] (1 * 1)).run Tryz.prog w = .ok (.int .i64 y) w := fun x y => by
    go_simp
  have p3 : ∀ (x y : Int), (part 3 #[.int .i64 x, .int .i64 y] 1).run Tryz.prog w = .ok (.int .i64 y) w := p2
  simp only [List.range, List.range.loop, Op.eqItems, Nat.one_mul, Sem.run_bind, p1, p3, Result.andThen_ok, eq_int]
  cases h1 : a == c
  · simp
  · cases h2 : b == d
    · simp [p3, eq_int, h2]
    · simp [p3, eq_int, h2]
set_option maxRecDepth 100000 in
set_option maxHeartbeats 1000000 in
theorem Index_rw {w : World} {v : Value} {xs : List Rw} (h : RwSl w v xs) (hl : xs.length ≤ 1099511627776) (f t : Int) :
    Calls Tryz.prog 131 #[v, .agg #[.int .i64 f, .int .i64 t]] w fun e w' => ∃ r : Int, e = .returned (.int .i64 r) ∧ decide (0 ≤ r) = (xs.any fun r => decide ((r.1 : Int) = f ∧ (r.2 : Int) = t)) ∧ Mod Nowhere w w' := by
  obtain ⟨a, vc, rfl, h1, h2, _⟩ := h.sl.gen
  obtain ⟨pd, hpd⟩ : ∃ pd : Rw → Bool, pd = fun r => decide ((r.1 : Int) = f ∧ (r.2 : Int) = t) := ⟨_, rfl⟩
  rw [← hpd]
  have hq := fun (c d : Int) (w : World) => eq_row f t c d w
  replace h := Lib.hid h
  replace hpd := Lib.hid hpd
  go_enter Tryz.func131, Tryz.ntmps131
  go_wp2
  go_loopw [8] (fun i wr => ∃ k : Nat, k ≤ xs.length ∧ i = .int .i64 k ∧ (xs.take k).any pd = false ∧ wr.cell? ⟨w.heap.size, 0, none⟩ = some (.int .i64 f) ∧ wr.cell? ⟨w.heap.size, 1, none⟩ = some (.int .i64 t) ∧ w.heap.size < wr.heap.size ∧ Mod Nowhere w wr) (fun i _ => xs.length - (intOf i).toNat)
  case atStart =>
    have hb := Blk.new w [.int .i64 f, .int .i64 t] 104
    exact ⟨0, by omega, rfl, rfl, hb.cell 0, hb.cell 1, hb.lt, (Mod.refl _ _).alloc _⟩
  case round =>
    obtain ⟨k, hk, rfl, hno, k0, k1, hbl, hm⟩ := hrel
    replace hno := Lib.hid hno
    by_cases hlt : k < xs.length
    · obtain ⟨b, off, cap', e0, hb, _, _, c1, c2⟩ := (h.out.fresh hm).at_ hlt
      have htk : (xs.take (k + 1)).any pd = ((xs.take k).any pd || pd xs[k]) := by rw [List.take_succ_eq_append_getElem hlt, List.any_append]; simp only [List.any_cons, List.any_nil, Bool.or_false]
      obtain ⟨rfl, rfl⟩ : a = some ⟨b, off, none⟩ ∧ vc = cap' := by
        simp at e0; exact ⟨e0.1, e0.2⟩
      have hany : pd xs[k] = true → xs.any pd = true := fun hp => List.any_eq_true.2 ⟨xs[k], List.getElem_mem hlt, hp⟩
      have hpk : pd xs[k] = decide ((xs[k].1 : Int) = f ∧ (xs[k].2 : Int) = t) := by rw [hpd.out]
      by_cases h3 : (xs[k].1 : Int) = f
      · by_cases h4 : (xs[k].2 : Int) = t
        · have hany2 := hany (by rw [hpk]; simp [h3, h4])
          replace hany2 := Lib.hid hany2
          clear hany htk hpk
          generalize xs[k].2 = q at *
          generalize xs[k].1 = o at *
          replace hm := Lib.hid hm
          go_wp2
          go_region
          all_goals go_wp2
          go_ret
          exact ⟨_, rfl, by rw [hany2.out]; simp, hm.out.drew⟩
        · rw [hpk] at htk
          have h4' : (t == (xs[k].2 : Int)) = false := by simpa using fun e => h4 e.symm
          clear hany hpk
          generalize xs[k].2 = q at *
          generalize xs[k].1 = o at *
          replace hm := Lib.hid hm
          replace htk := Lib.hid htk
          go_wp2
          go_region
          all_goals go_wp2
          go_roundw
          case rel => exact ⟨k + 1, by omega, by go_num, by rw [htk.out, hno.out]; simp [h4], k0, k1, hbl, hm.out.drew⟩
          case measure => simp [intOf]; omega
      · rw [hpk] at htk
        have h3' : (f == (xs[k].1 : Int)) = false := by simpa using fun e => h3 e.symm
        clear hany hpk
        generalize xs[k].2 = q at *
        generalize xs[k].1 = o at *
        replace hm := Lib.hid hm
        replace htk := Lib.hid htk
        go_wp2
        go_region
        all_goals go_wp2
        go_roundw
        case rel => exact ⟨k + 1, by omega, by go_num, by rw [htk.out, hno.out]; simp [h3], k0, k1, hbl, hm.out.drew⟩
        case measure => simp [intOf]; omega
    · obtain rfl : k = xs.length := by omega
      rw [List.take_length] at hno
      replace hm := Lib.hid hm
      go_wp2
      go_ret
      exact ⟨_, rfl, by rw [hno.out]; rfl, hm.out⟩
set_option maxRecDepth 100000 in
set_option maxHeartbeats 1000000 in
theorem Contains_rw {w : World} {v : Value} {xs : List Rw} (h : RwSl w v xs) (hl : xs.length ≤ 1099511627776) (f t : Int) :
    Calls Tryz.prog 74 #[v, .agg #[.int .i64 f, .int .i64 t]] w fun e w' => e = .returned (.bool (xs.any fun r => decide ((r.1 : Int) = f ∧ (r.2 : Int) = t))) ∧ Mod Nowhere w w' := by
  have hI := fun W (hm : Mod Nowhere w W) => Index_rw (h.fresh hm) hl f t
  have hm0 : Mod Nowhere w (w.alloc (.cells #[.int .i64 f, .int .i64 t] 104)) := (Mod.refl _ _).alloc _
  generalize (xs.any fun r => decide ((r.1 : Int) = f ∧ (r.2 : Int) = t)) = pb at *
  replace hI := Lib.hid hI
  clear h
  go_enter Tryz.func74, Tryz.ntmps74
  go_wp2_with fail
  refine (hI.out _ hm0).mono ?_
  rintro e w1 ⟨r, rfl, hr, hm1⟩
  replace hm0 := Lib.hid hm0
  cases pb
  · go_wp2
    go_ret
    exact ⟨rfl, hm0.out.trans hm1⟩
  · go_wp2
    go_ret
    exact ⟨rfl, hm0.out.trans hm1⟩
set_option maxRecDepth 100000 in
set_option maxHeartbeats 1000000 in
theorem has_ok {w : World} (k n : Int) : Calls Tryz.prog 71 #[.int .i64 k, .int .i64 n] w fun e w' => e = .returned (.bool (hasB k n)) ∧ Mod Nowhere w w' := by
  have hS := fun W => states_ok (w := W) k
  unfold hasB
  generalize rws k = o at *
  obtain ⟨pb, hpb⟩ : ∃ pb, pb = (o.getD []).any fun r => decide ((r.1 : Int) = n) := ⟨_, rfl⟩
  rw [← hpb]
  replace hpb := Lib.hid hpb
  have hb := Blk.new w [.int .i64 n] 3
  have hm0 : Mod Nowhere w (w.alloc (.cells #[.int .i64 n] 3)) := (Mod.refl _ _).alloc _
  replace hb := Lib.hid hb
  replace hm0 := Lib.hid hm0
  replace hS := Lib.hid hS
  go_enter Tryz.func71, Tryz.ntmps71
  go_wp2_with fail
  refine (hS.out _).mono ?_
  have hF : ∀ (l : List Rw) (v : Value) (w1 : World), RwSl w1 v l → l.length ≤ 1099511627776 → Mod Nowhere (w.alloc (.cells #[.int .i64 n] 3)) w1 → Calls Tryz.prog 128 #[v, .func (.func 129) #[] #[.pointer (some ⟨w.heap.size, 0, none⟩)]] w1 fun e w' => e = .returned (.bool (l.any fun r => decide ((r.1 : Int) = n))) ∧ Mod Nowhere w1 w' := fun l v w1 hs hl hm => by
    refine ContainsFunc_rw hs hl 129 #[.pointer (some ⟨w.heap.size, 0, none⟩)] (enters_of Tryz.func129 (by kernel_rfl) rfl) _ fun x hx wr hmr => ?_
    exact hasC_ok (((hm.trans hmr).cell (p := ⟨w.heap.size, 0, none⟩) hb.out.lt id).trans (hb.out.cell 0)) x
  replace hF := Lib.hid hF
  rintro e w1 (⟨rfl, rfl, hm1⟩ | ⟨l, v, rfl, rfl, hs, hm1, hp, hq⟩)
  · have hC := hF.out [] (.slice none 0 0) w1 ⟨Sl.nil _ _ _⟩ (by decide) hm1
    replace hC := Lib.hid hC
    go_wp2_with fail
    refine hC.out.mono ?_
    rintro e w2 ⟨rfl, hm2⟩
    go_wp2
    go_ret
    exact ⟨ret_bool hpb.out.symm, (hm0.out.trans hm1).trans hm2⟩
  · obtain ⟨a, c, rfl, -⟩ := hs.sl.gen
    have hC := hF.out l _ w1 hs (by omega) hm1
    replace hC := Lib.hid hC
    go_wp2_with fail
    refine hC.out.mono ?_
    rintro e w2 ⟨rfl, hm2⟩
    go_wp2
    go_ret
    exact ⟨ret_bool hpb.out.symm, (hm0.out.trans hm1).trans hm2⟩
end Go.Proofs.YtikkodanpbmmkaaGreat
/-
  The life cycle: which changes are permitted, and the bytes.
-/
namespace Go.Proofs.YtikkodanpbmmkaaGreat
open Go.RowKit
attribute [local go_sem] Oper.semAt_some

set_option maxRecDepth 100000 in
set_option maxHeartbeats 2000000 in
theorem card_ok {w : World} (f t : Int) : Calls Tryz.prog 27 #[.int .i64 f, .int .i64 t] w fun e w' => e = .returned (.bool (cardB f t)) ∧ Mod Nowhere w w' := by
  have h1 := fun W => has_ok (w := W) 0 f
  have h2 := fun W => has_ok (w := W) 0 t
  have hT := fun W => transitions_ok (w := W) true
  have hC := fun (v : Value) W (hs : RwSl W v (trs true)) => Contains_rw hs (by decide) f t
  unfold cardB
  generalize hasB 0 f = a at *
  generalize hasB 0 t = b at *
  generalize ((trs true).any fun r => decide ((r.1 : Int) = f ∧ (r.2 : Int) = t)) = c at *
  replace h1 := Lib.hid h1
  replace h2 := Lib.hid h2
  replace hT := Lib.hid hT
  replace hC := Lib.hid hC
  cases a
  · go_enter Tryz.func27, Tryz.ntmps27
    go_wp2_with fail
    refine (h1.out _).mono ?_
    rintro e w1 ⟨rfl, hm1⟩
    go_wp2
    go_ret
    exact ⟨ret_bool (by simp), hm1⟩
  · cases b
    · go_enter Tryz.func27, Tryz.ntmps27
      go_wp2_with fail
      refine (h1.out _).mono ?_
      rintro e w1 ⟨rfl, hm1⟩
      go_wp2_with fail
      refine (h2.out _).mono ?_
      rintro e w2 ⟨rfl, hm2⟩
      go_wp2
      go_ret
      exact ⟨ret_bool (by simp), hm1.trans hm2⟩
    · have key : ∀ (w2 : World), Mod Nowhere w w2 → True := fun _ _ => trivial
      by_cases ht : t = 5 ∧ ¬ f = 5
      · obtain ⟨rfl, hf⟩ := ht
        go_enter Tryz.func27, Tryz.ntmps27
        go_wp2_with fail
        refine (h1.out _).mono ?_
        rintro e w1 ⟨rfl, hm1⟩
        go_wp2_with fail
        refine (h2.out _).mono ?_
        rintro e w2 ⟨rfl, hm2⟩
        go_wp2
        go_ret
        exact ⟨ret_bool (by simp [hf]), hm1.trans hm2⟩
      · have hd : (decide (t = 5) && !decide (f = 5)) = false := by
          rw [Bool.and_eq_false_iff]
          by_cases h : t = 5
          · right; simpa using fun hf => ht ⟨h, hf⟩
          · left; simpa using h
        rw [hd]
        replace hd := Lib.hid hd
        by_cases h5 : t = 5
        · have hf5 : f = 5 := by
            by_cases h : f = 5
            · exact h
            · exact (ht ⟨h5, h⟩).elim
          subst h5; subst hf5
          clear ht
          go_enter Tryz.func27, Tryz.ntmps27
          go_wp2_with fail
          refine (h1.out _).mono ?_
          rintro e w1 ⟨rfl, hm1⟩
          go_wp2_with fail
          refine (h2.out _).mono ?_
          rintro e w2 ⟨rfl, hm2⟩
          go_wp2_with fail
          refine (hT.out _).mono ?_
          rintro e w3 (⟨h0, -⟩ | ⟨l, v, h0, rfl, hs, hm3, -⟩)
          · cases h0
          · obtain rfl := Option.some.inj h0
            have hC' := hC.out v w3 hs
            obtain ⟨va, vc, rfl, -⟩ := hs.sl.gen
            replace hC' := Lib.hid hC'
            clear hs
            go_wp2_with fail
            refine hC'.out.mono ?_
            rintro e w4 ⟨rfl, hm4⟩
            go_wp2
            go_ret
            exact ⟨ret_bool (by simp), ((hm1.trans hm2).trans hm3).trans hm4⟩
        · clear ht
          go_enter Tryz.func27, Tryz.ntmps27
          go_wp2_with fail
          refine (h1.out _).mono ?_
          rintro e w1 ⟨rfl, hm1⟩
          go_wp2_with fail
          refine (h2.out _).mono ?_
          rintro e w2 ⟨rfl, hm2⟩
          go_wp2_with fail
          refine (hT.out _).mono ?_
          rintro e w3 (⟨h0, -⟩ | ⟨l, v, h0, rfl, hs, hm3, -⟩)
          · cases h0
          · obtain rfl := Option.some.inj h0
            have hC' := hC.out v w3 hs
            obtain ⟨va, vc, rfl, -⟩ := hs.sl.gen
            replace hC' := Lib.hid hC'
            clear hs
            go_wp2_with fail
            refine hC'.out.mono ?_
            rintro e w4 ⟨rfl, hm4⟩
            go_wp2
            go_ret
            exact ⟨ret_bool (by simp), ((hm1.trans hm2).trans hm3).trans hm4⟩
/-! ### App -/
set_option maxRecDepth 100000 in
set_option maxHeartbeats 4000000 in
theorem app_ok {w : World} (k f t : Int) : Calls Tryz.prog 29 #[.int .i64 k, .int .i64 f, .int .i64 t] w fun e w' => e = .returned (.bool (appB k f t)) ∧ Mod Nowhere w w' := by
  have h1 := fun W => has_ok (w := W) k f
  have h2 := fun W => has_ok (w := W) k t
  have hT := fun W => transitions_ok (w := W) false
  have hC := fun (v : Value) W (hs : RwSl W v (trs false)) => Contains_rw hs (by decide) f t
  unfold appB
  generalize hasB k f = a at *
  generalize hasB k t = b at *
  generalize ((trs false).any fun r => decide ((r.1 : Int) = f ∧ (r.2 : Int) = t)) = c at *
  replace h1 := Lib.hid h1
  replace h2 := Lib.hid h2
  replace hT := Lib.hid hT
  replace hC := Lib.hid hC
  by_cases k2 : k = 2
  · subst k2
    cases a
    · go_enter Tryz.func29, Tryz.ntmps29
      go_wp2_with fail
      refine (h1.out _).mono ?_
      rintro e w1 ⟨rfl, hm1⟩
      go_wp2
      go_ret
      exact ⟨ret_bool (by simp), hm1⟩
    · cases b
      · go_enter Tryz.func29, Tryz.ntmps29
        go_wp2_with fail
        refine (h1.out _).mono ?_
        rintro e w1 ⟨rfl, hm1⟩
        go_wp2_with fail
        refine (h2.out _).mono ?_
        rintro e w2 ⟨rfl, hm2⟩
        go_wp2
        go_ret
        exact ⟨ret_bool (by simp), hm1.trans hm2⟩
      · by_cases hf : f = 5
        · by_cases ht : t = 5
          · subst hf
            subst ht
            go_enter Tryz.func29, Tryz.ntmps29
            go_wp2_with fail
            refine (h1.out _).mono ?_
            rintro e w1 ⟨rfl, hm1⟩
            go_wp2_with fail
            refine (h2.out _).mono ?_
            rintro e w2 ⟨rfl, hm2⟩
            go_wp2_with fail
            refine (hT.out _).mono ?_
            rintro e w3 (⟨h0, -⟩ | ⟨l, v, h0, rfl, hs, hm3, -⟩)
            · cases h0
            · obtain rfl := Option.some.inj h0
              have hC' := hC.out v w3 hs
              obtain ⟨va, vc, rfl, -⟩ := hs.sl.gen
              replace hC' := Lib.hid hC'
              clear hs
              go_wp2_with fail
              refine hC'.out.mono ?_
              rintro e w4 ⟨rfl, hm4⟩
              go_wp2
              go_ret
              exact ⟨ret_bool (by simp), ((hm1.trans hm2).trans hm3).trans hm4⟩
          · subst hf
            go_enter Tryz.func29, Tryz.ntmps29
            go_wp2_with fail
            refine (h1.out _).mono ?_
            rintro e w1 ⟨rfl, hm1⟩
            go_wp2_with fail
            refine (h2.out _).mono ?_
            rintro e w2 ⟨rfl, hm2⟩
            go_wp2
            go_ret
            exact ⟨ret_bool (by simp [ht]), hm1.trans hm2⟩
        · by_cases ht : t = 5
          · subst ht
            go_enter Tryz.func29, Tryz.ntmps29
            go_wp2_with fail
            refine (h1.out _).mono ?_
            rintro e w1 ⟨rfl, hm1⟩
            go_wp2_with fail
            refine (h2.out _).mono ?_
            rintro e w2 ⟨rfl, hm2⟩
            go_wp2
            go_ret
            exact ⟨ret_bool (by simp [hf]), hm1.trans hm2⟩
          · have hf' : (f == 5) = false := by simpa using hf
            have ht' : (t == 5) = false := by simpa using ht
            go_enter Tryz.func29, Tryz.ntmps29
            go_wp2_with fail
            refine (h1.out _).mono ?_
            rintro e w1 ⟨rfl, hm1⟩
            go_wp2_with fail
            refine (h2.out _).mono ?_
            rintro e w2 ⟨rfl, hm2⟩
            go_wp2_with fail
            refine (hT.out _).mono ?_
            rintro e w3 (⟨h0, -⟩ | ⟨l, v, h0, rfl, hs, hm3, -⟩)
            · cases h0
            · obtain rfl := Option.some.inj h0
              have hC' := hC.out v w3 hs
              obtain ⟨va, vc, rfl, -⟩ := hs.sl.gen
              replace hC' := Lib.hid hC'
              clear hs
              go_wp2_with fail
              refine hC'.out.mono ?_
              rintro e w4 ⟨rfl, hm4⟩
              go_wp2
              go_ret
              exact ⟨ret_bool (by simp [hf, ht]), ((hm1.trans hm2).trans hm3).trans hm4⟩
  · by_cases k1 : k = 1
    · subst k1
      cases a
      · go_enter Tryz.func29, Tryz.ntmps29
        go_wp2_with fail
        refine (h1.out _).mono ?_
        rintro e w1 ⟨rfl, hm1⟩
        go_wp2
        go_ret
        exact ⟨ret_bool (by simp), hm1⟩
      · cases b
        · go_enter Tryz.func29, Tryz.ntmps29
          go_wp2_with fail
          refine (h1.out _).mono ?_
          rintro e w1 ⟨rfl, hm1⟩
          go_wp2_with fail
          refine (h2.out _).mono ?_
          rintro e w2 ⟨rfl, hm2⟩
          go_wp2
          go_ret
          exact ⟨ret_bool (by simp), hm1.trans hm2⟩
        · by_cases hf : f = 5
          · by_cases ht : t = 5
            · subst hf
              subst ht
              go_enter Tryz.func29, Tryz.ntmps29
              go_wp2_with fail
              refine (h1.out _).mono ?_
              rintro e w1 ⟨rfl, hm1⟩
              go_wp2_with fail
              refine (h2.out _).mono ?_
              rintro e w2 ⟨rfl, hm2⟩
              go_wp2_with fail
              refine (hT.out _).mono ?_
              rintro e w3 (⟨h0, -⟩ | ⟨l, v, h0, rfl, hs, hm3, -⟩)
              · cases h0
              · obtain rfl := Option.some.inj h0
                have hC' := hC.out v w3 hs
                obtain ⟨va, vc, rfl, -⟩ := hs.sl.gen
                replace hC' := Lib.hid hC'
                clear hs
                go_wp2_with fail
                refine hC'.out.mono ?_
                rintro e w4 ⟨rfl, hm4⟩
                go_wp2
                go_ret
                exact ⟨ret_bool (by simp), ((hm1.trans hm2).trans hm3).trans hm4⟩
            · subst hf
              go_enter Tryz.func29, Tryz.ntmps29
              go_wp2_with fail
              refine (h1.out _).mono ?_
              rintro e w1 ⟨rfl, hm1⟩
              go_wp2_with fail
              refine (h2.out _).mono ?_
              rintro e w2 ⟨rfl, hm2⟩
              go_wp2
              go_ret
              exact ⟨ret_bool (by simp [ht]), hm1.trans hm2⟩
          · by_cases ht : t = 5
            · subst ht
              go_enter Tryz.func29, Tryz.ntmps29
              go_wp2_with fail
              refine (h1.out _).mono ?_
              rintro e w1 ⟨rfl, hm1⟩
              go_wp2_with fail
              refine (h2.out _).mono ?_
              rintro e w2 ⟨rfl, hm2⟩
              go_wp2
              go_ret
              exact ⟨ret_bool (by simp [hf]), hm1.trans hm2⟩
            · have hf' : (f == 5) = false := by simpa using hf
              have ht' : (t == 5) = false := by simpa using ht
              go_enter Tryz.func29, Tryz.ntmps29
              go_wp2_with fail
              refine (h1.out _).mono ?_
              rintro e w1 ⟨rfl, hm1⟩
              go_wp2_with fail
              refine (h2.out _).mono ?_
              rintro e w2 ⟨rfl, hm2⟩
              go_wp2_with fail
              refine (hT.out _).mono ?_
              rintro e w3 (⟨h0, -⟩ | ⟨l, v, h0, rfl, hs, hm3, -⟩)
              · cases h0
              · obtain rfl := Option.some.inj h0
                have hC' := hC.out v w3 hs
                obtain ⟨va, vc, rfl, -⟩ := hs.sl.gen
                replace hC' := Lib.hid hC'
                clear hs
                go_wp2_with fail
                refine hC'.out.mono ?_
                rintro e w4 ⟨rfl, hm4⟩
                go_wp2
                go_ret
                exact ⟨ret_bool (by simp [hf, ht]), ((hm1.trans hm2).trans hm3).trans hm4⟩
    · clear h1 h2
      go_enter Tryz.func29, Tryz.ntmps29
      go_wp2
      go_ret
      exact ⟨ret_bool (by simp [k1, k2]), Mod.refl _ w⟩
end Go.Proofs.YtikkodanpbmmkaaGreat
/-
  The life cycle: find; the reference.
-/
namespace Go.Proofs.YtikkodanpbmmkaaGreat
open Go.RowKit
attribute [local go_sem] Oper.semAt_some

def colIx (back : Bool) : Int := if back then 1 else 0
def pick1 (back : Bool) (r : Rw) : Nat := if back then r.2 else r.1
theorem turn_hit {l : List Rw} {back : Bool} {n : Int} {k : Nat} (hk : k < l.length) (hno : (l.take k).find? (fun r => decide ((pick1 back r : Int) = n)) = none) (h : (pick1 back l[k] : Int) = n) : turn l back n = (((pick1 (!back) l[k] : Nat) : Int), (0 : Nat)) := by
  have e : l.find? (fun r => decide ((pick1 back r : Int) = n)) = some l[k] := by
    have e1 : l.take k ++ l.drop k = l := List.take_append_drop k l
    have e2 : (l.take k ++ l.drop k).find? (fun r => decide ((pick1 back r : Int) = n)) = some l[k] := by
      rw [List.find?_append, hno, Option.none_or, List.drop_eq_getElem_cons hk, List.find?_cons, decide_eq_true h]
    rw [e1] at e2
    exact e2
  unfold turn
  unfold pick1 at e
  rw [e]
  cases back <;> rfl
theorem turn_miss {l : List Rw} {back : Bool} {n : Int} (hno : l.find? (fun r => decide ((pick1 back r : Int) = n)) = none) : turn l back n = (0, 2) := by
  unfold turn
  unfold pick1 at hno
  rw [hno]
theorem find_next {l : List Rw} {p : Rw → Bool} {k : Nat} (hk : k < l.length) (hno : (l.take k).find? p = none) (h : p l[k] = false) : (l.take (k + 1)).find? p = none := by
  rw [List.take_succ_eq_append_getElem hk, List.find?_append, hno, Option.none_or, List.find?_cons, h]
  rfl
theorem rw_nil (w : World) : (binOp .eql 102 (.slice none 0 0) (.slice none 0 0)).run Tryz.prog w = .ok (.bool true) w := by
  have h : ∀ d : Nat, (Op.equalIn (d + 1) 102 (.slice none 0 0) (.slice none 0 0)).run Tryz.prog w = .ok true w := fun d => by
    simp [Op.equalIn, run_underlying Tryz.underlying102]
  simp [binOp, Op.equal]
  rw [show Op.maxDepth = 9999 + 1 from rfl, h]; rfl
theorem rw_some (a : Addr) (n c : Nat) (w : World) : (binOp .eql 102 (.slice (some a) n c) (.slice none 0 0)).run Tryz.prog w = .ok (.bool false) w := by
  have h : ∀ d : Nat, (Op.equalIn (d + 1) 102 (.slice (some a) n c) (.slice none 0 0)).run Tryz.prog w = .ok false w := fun d => by
    simp [Op.equalIn, run_underlying Tryz.underlying102]
  simp [binOp, Op.equal]
  rw [show Op.maxDepth = 9999 + 1 from rfl, h]; rfl
attribute [local go_sem] rw_nil rw_some
def FindPost (w : World) (o : Option (List Rw)) (back : Bool) (n : Int) (e : Ending) (w' : World) : Prop :=
  (match o with
  | some l => e = .returned (.tuple #[.int .i64 (turn l back n).1, errno (turn l back n).2])
  | none => e = .returned (.tuple #[.int .i64 0, errno 1])) ∧ Mod Nowhere w w'
theorem FindPost.some_ {w w' : World} {l : List Rw} {back : Bool} {n a : Int} {b : Nat} (h : turn l back n = (a, b)) (hm : Mod Nowhere w w') : FindPost w (some l) back n (.returned (.tuple #[.int .i64 a, errno b])) w' := ⟨by show Ending.returned _ = Ending.returned _; rw [h], hm⟩
set_option maxRecDepth 100000 in
set_option maxHeartbeats 4000000 in
theorem find_ok {w : World} (k n : Int) (back : Bool) : Calls Tryz.prog 67 #[.int .i64 k, .int .i64 (colIx back), .int .i64 n, .int .i64 (colIx (!back))] w (FindPost w (rws k) back n) := by
  have hS := fun W => states_ok (w := W) k
  generalize rws k = o at *
  replace hS := Lib.hid hS
  cases back
  · rw [show colIx false = 0 from rfl, show colIx (!false) = 1 from rfl]
    go_enter Tryz.func67, Tryz.ntmps67
    go_wp2_with fail
    refine (hS.out _).mono ?_
    rintro e w1 (⟨rfl, rfl, hm1⟩ | ⟨l, v, rfl, rfl, hs, hm1, hp, hq⟩)
    · go_wp2
      go_ret2
      exact ⟨rfl, hm1⟩
    · obtain ⟨b, off, c, rfl, -⟩ := hs.at_ hp
      replace hs := Lib.hid hs
      go_wp2
      go_loopw [19] (fun i wr => ∃ k : Nat, k ≤ l.length ∧ i = .int .i64 k ∧ (l.take k).find? (fun r => decide ((pick1 false r : Int) = n)) = none ∧ Mod Nowhere w1 wr) (fun i _ => l.length - (intOf i).toNat)
      case atStart => exact ⟨0, by omega, rfl, rfl, Mod.refl _ _⟩
      case round =>
        obtain ⟨k, hk, rfl, hno, hm⟩ := hrel
        replace hno := Lib.hid hno
        by_cases hlt : k < l.length
        · obtain ⟨b', off', cap', e0, hb, _, _, c1, c2⟩ := (hs.out.fresh hm).at_ hlt
          obtain ⟨⟨rfl, rfl⟩, rfl⟩ : (b = b' ∧ off = off') ∧ c = cap' := by
            simp at e0; exact e0
          have hhit : (l[k].1 : Int) = n → turn l false n = (((l[k].2 : Nat) : Int), 0) := fun h => turn_hit (back := false) (n := n) hlt hno.out h
          have hmiss : ¬ (l[k].1 : Int) = n → (l.take (k + 1)).find? (fun r => decide ((pick1 false r : Int) = n)) = none := fun h => find_next (p := fun r => decide ((pick1 false r : Int) = n)) hlt hno.out (decide_eq_false h)
          generalize l[k].2 = q at *
          generalize l[k].1 = o at *
          by_cases h1 : (o : Int) = n
          · have hfin := hhit h1
            subst h1
            replace hfin := Lib.hid hfin
            clear hhit hmiss
            replace hm := Lib.hid hm
            go_wp2
            go_ret2
            exact FindPost.some_ hfin.out (hm1.trans (hm.out.alloc _))
          · have hfin := hmiss h1
            replace hfin := Lib.hid hfin
            clear hhit hmiss
            replace hm := Lib.hid hm
            go_wp2
            go_roundw
            case rel => exact ⟨k + 1, by omega, by go_num, hfin.out, hm.out.alloc _⟩
            case measure => simp [intOf]; omega
        · obtain rfl : k = l.length := by omega
          rw [List.take_length] at hno
          replace hm := Lib.hid hm
          go_wp2
          go_ret2
          exact FindPost.some_ (turn_miss hno.out) (hm1.trans hm.out)
  · rw [show colIx true = 1 from rfl, show colIx (!true) = 0 from rfl]
    go_enter Tryz.func67, Tryz.ntmps67
    go_wp2_with fail
    refine (hS.out _).mono ?_
    rintro e w1 (⟨rfl, rfl, hm1⟩ | ⟨l, v, rfl, rfl, hs, hm1, hp, hq⟩)
    · go_wp2
      go_ret2
      exact ⟨rfl, hm1⟩
    · obtain ⟨b, off, c, rfl, -⟩ := hs.at_ hp
      replace hs := Lib.hid hs
      go_wp2
      go_loopw [19] (fun i wr => ∃ k : Nat, k ≤ l.length ∧ i = .int .i64 k ∧ (l.take k).find? (fun r => decide ((pick1 true r : Int) = n)) = none ∧ Mod Nowhere w1 wr) (fun i _ => l.length - (intOf i).toNat)
      case atStart => exact ⟨0, by omega, rfl, rfl, Mod.refl _ _⟩
      case round =>
        obtain ⟨k, hk, rfl, hno, hm⟩ := hrel
        replace hno := Lib.hid hno
        by_cases hlt : k < l.length
        · obtain ⟨b', off', cap', e0, hb, _, _, c1, c2⟩ := (hs.out.fresh hm).at_ hlt
          obtain ⟨⟨rfl, rfl⟩, rfl⟩ : (b = b' ∧ off = off') ∧ c = cap' := by
            simp at e0; exact e0
          have hhit : (l[k].2 : Int) = n → turn l true n = (((l[k].1 : Nat) : Int), 0) := fun h => turn_hit (back := true) (n := n) hlt hno.out h
          have hmiss : ¬ (l[k].2 : Int) = n → (l.take (k + 1)).find? (fun r => decide ((pick1 true r : Int) = n)) = none := fun h => find_next (p := fun r => decide ((pick1 true r : Int) = n)) hlt hno.out (decide_eq_false h)
          generalize l[k].2 = q at *
          generalize l[k].1 = o at *
          by_cases h1 : (q : Int) = n
          · have hfin := hhit h1
            subst h1
            replace hfin := Lib.hid hfin
            clear hhit hmiss
            replace hm := Lib.hid hm
            go_wp2
            go_ret2
            exact FindPost.some_ hfin.out (hm1.trans (hm.out.alloc _))
          · have hfin := hmiss h1
            replace hfin := Lib.hid hfin
            clear hhit hmiss
            replace hm := Lib.hid hm
            go_wp2
            go_roundw
            case rel => exact ⟨k + 1, by omega, by go_num, hfin.out, hm.out.alloc _⟩
            case measure => simp [intOf]; omega
        · obtain rfl : k = l.length := by omega
          rw [List.take_length] at hno
          replace hm := Lib.hid hm
          go_wp2
          go_ret2
          exact FindPost.some_ (turn_miss hno.out) (hm1.trans hm.out)
def findPost (w : World) (k n : Int) (back : Bool) (e : Ending) (w' : World) : Prop := e = .returned (.tuple #[.int .i64 (findB k back n).1, errno (findB k back n).2]) ∧ Mod Nowhere w w'
theorem FindPost.all {w w' : World} {k n : Int} {back : Bool} {e : Ending} (h : FindPost w (rws k) back n e w') : findPost w k n back e w' := by
  unfold findPost findB
  unfold FindPost at h
  revert h
  cases rws k <;> exact id
set_option maxRecDepth 100000 in
set_option maxHeartbeats 1000000 in
theorem byte_ok {w : World} (k n : Int) : Calls Tryz.prog 16 #[.int .i64 k, .int .i64 n] w (findPost w k n false) := by
  have hF := fun W => (find_ok (w := W) k n false).mono fun _ _ h => h.all
  rw [show colIx false = 0 from rfl, show colIx (!false) = 1 from rfl] at hF
  unfold findPost at *
  generalize (findB k false n).1 = r1 at *
  generalize (findB k false n).2 = r2 at *
  replace hF := Lib.hid hF
  go_enter Tryz.func16, Tryz.ntmps16
  go_wp2_with fail
  refine (hF.out _).mono ?_
  rintro e w1 ⟨rfl, hm1⟩
  go_wp2
  go_ret2
  exact ⟨rfl, hm1⟩
set_option maxRecDepth 100000 in
set_option maxHeartbeats 1000000 in
theorem stateOf_ok {w : World} (k n : Int) : Calls Tryz.prog 18 #[.int .i64 k, .int .i64 n] w (findPost w k n true) := by
  have hF := fun W => (find_ok (w := W) k n true).mono fun _ _ h => h.all
  rw [show colIx true = 1 from rfl, show colIx (!true) = 0 from rfl] at hF
  unfold findPost at *
  generalize (findB k true n).1 = r1 at *
  generalize (findB k true n).2 = r2 at *
  replace hF := Lib.hid hF
  go_enter Tryz.func18, Tryz.ntmps18
  go_wp2_with fail
  refine (hF.out _).mono ?_
  rintro e w1 ⟨rfl, hm1⟩
  go_wp2
  go_ret2
  exact ⟨rfl, hm1⟩
end Go.Proofs.YtikkodanpbmmkaaGreat
/-
  The reference of the life cycle.
-/
namespace Go.Proofs.YtikkodanpbmmkaaGreat
open Go.RowKit
attribute [local go_sem] Oper.semAt_some

theorem hasB_card (n : Int) : hasB 0 n = (decide (1 ≤ n) && decide (n ≤ 5)) := by
  have e : hasB 0 n = (decide ((1 : Int) = n) || (decide ((2 : Int) = n) || (decide ((3 : Int) = n) || (decide ((4 : Int) = n) || (decide ((5 : Int) = n) || false))))) := rfl
  rw [e]
  by_cases h : 1 ≤ n ∧ n ≤ 5
  · have : n = 1 ∨ n = 2 ∨ n = 3 ∨ n = 4 ∨ n = 5 := by omega
    rcases this with rfl | rfl | rfl | rfl | rfl <;> rfl
  · rw [decide_eq_false (by omega), decide_eq_false (by omega), decide_eq_false (by omega), decide_eq_false (by omega), decide_eq_false (by omega)]
    by_cases h1 : 1 ≤ n
    · rw [decide_eq_false (p := n ≤ 5) (by omega)]; simp
    · rw [decide_eq_false h1]; simp
theorem hasB_app {k : Int} (hk : k = 1 ∨ k = 2) (n : Int) : hasB k n = (decide (2 ≤ n) && decide (n ≤ 5)) := by
  have e : hasB k n = (decide ((2 : Int) = n) || (decide ((3 : Int) = n) || (decide ((4 : Int) = n) || (decide ((5 : Int) = n) || false)))) := by
    rcases hk with rfl | rfl <;> rfl
  rw [e]
  by_cases h : 2 ≤ n ∧ n ≤ 5
  · have : n = 2 ∨ n = 3 ∨ n = 4 ∨ n = 5 := by omega
    rcases this with rfl | rfl | rfl | rfl <;> rfl
  · rw [decide_eq_false (by omega), decide_eq_false (by omega), decide_eq_false (by omega), decide_eq_false (by omega)]
    by_cases h1 : 2 ≤ n
    · rw [decide_eq_false (p := n ≤ 5) (by omega)]; simp
    · rw [decide_eq_false h1]; simp
set_option maxRecDepth 100000 in
set_option maxHeartbeats 1000000 in
theorem rIsCard_ok {w : World} (n : Int) : Calls Tryz.prog 73 #[.int .i64 n] w fun e w' => e = .returned (.bool (hasB 0 n)) ∧ w = w' := by
  rw [hasB_card]
  by_cases h1 : 1 ≤ n
  · by_cases h2 : n ≤ 5
    · go_enter Tryz.func73, Tryz.ntmps73
      go_wp2
      go_ret
      exact ⟨ret_bool (by simp [h1, h2]), rfl⟩
    · go_enter Tryz.func73, Tryz.ntmps73
      go_wp2
      go_ret
      exact ⟨ret_bool (by simp [h1, h2]), rfl⟩
  · go_enter Tryz.func73, Tryz.ntmps73
    go_wp2
    go_ret
    exact ⟨ret_bool (by rw [decide_eq_false (p := 1 ≤ n) (by omega)]; rfl), rfl⟩
theorem cardB_no1 {f t : Int} (h : hasB 0 f = false) : cardB f t = false := by unfold cardB; rw [h]; rfl
theorem cardB_no2 {f t : Int} (h : hasB 0 t = false) : cardB f t = false := by unfold cardB; rw [h]; cases hasB 0 f <;> rfl
set_option maxRecDepth 100000 in
set_option maxHeartbeats 4000000 in
theorem rCard_ok {w : World} (f t : Int) : Calls Tryz.prog 28 #[.int .i64 f, .int .i64 t] w fun e w' => e = .returned (.bool (cardB f t)) ∧ w = w' := by
  have h1 := fun W => rIsCard_ok (w := W) f
  have h2 := fun W => rIsCard_ok (w := W) t
  cases ha : hasB 0 f
  · rw [ha] at h1
    rw [cardB_no1 ha]
    replace h1 := Lib.hid h1
    clear ha h2
    go_enter Tryz.func28, Tryz.ntmps28
    go_wp2_with fail
    refine (h1.out _).mono ?_
    rintro e w1 ⟨rfl, rfl⟩
    go_wp2
    go_ret
    exact ⟨rfl, rfl⟩
  · cases hb : hasB 0 t
    · rw [ha] at h1
      rw [hb] at h2
      rw [cardB_no2 hb]
      replace h1 := Lib.hid h1
      replace h2 := Lib.hid h2
      clear ha hb
      go_enter Tryz.func28, Tryz.ntmps28
      go_wp2_with fail
      refine (h1.out _).mono ?_
      rintro e w1 ⟨rfl, rfl⟩
      go_wp2_with fail
      refine (h2.out _).mono ?_
      rintro e w1 ⟨rfl, rfl⟩
      go_wp2
      go_ret
      exact ⟨rfl, rfl⟩
    · rw [ha] at h1
      rw [hb] at h2
      rw [hasB_card] at ha hb
      simp only [Bool.and_eq_true, decide_eq_true_eq] at ha hb
      have hf : f = 1 ∨ f = 2 ∨ f = 3 ∨ f = 4 ∨ f = 5 := by omega
      have ht : t = 1 ∨ t = 2 ∨ t = 3 ∨ t = 4 ∨ t = 5 := by omega
      replace h1 := Lib.hid h1
      replace h2 := Lib.hid h2
      clear ha hb
      rcases hf with rfl | rfl | rfl | rfl | rfl <;> rcases ht with rfl | rfl | rfl | rfl | rfl
      all_goals
        go_enter Tryz.func28, Tryz.ntmps28
        go_wp2_with fail
        refine (h1.out _).mono ?_
        rintro e w1 ⟨rfl, rfl⟩
        go_wp2_with fail
        refine (h2.out _).mono ?_
        rintro e w1 ⟨rfl, rfl⟩
        go_wp2
        go_ret
        exact ⟨rfl, rfl⟩
def setR (s t : Int) : Int × Nat := if hasB 0 t = false then (s, 1) else if cardB s t = false then (s, 14) else (t, 0)
set_option maxRecDepth 100000 in
set_option maxHeartbeats 1000000 in
theorem rSet_ok {w : World} (s t : Int) : Calls Tryz.prog 25 #[.int .i64 s, .int .i64 t] w fun e w' => e = .returned (.tuple #[.int .i64 (setR s t).1, errno (setR s t).2]) ∧ w = w' := by
  have h1 := fun W => rIsCard_ok (w := W) t
  have h2 := fun W => rCard_ok (w := W) s t
  unfold setR
  generalize hasB 0 t = a at *
  generalize cardB s t = b at *
  replace h1 := Lib.hid h1
  replace h2 := Lib.hid h2
  cases a
  · rw [if_pos rfl]
    go_enter Tryz.func25, Tryz.ntmps25
    go_wp2_with fail
    refine (h1.out _).mono ?_
    rintro e w1 ⟨rfl, rfl⟩
    go_wp2
    go_ret2
    exact ⟨rfl, rfl⟩
  · rw [if_neg Bool.noConfusion]
    cases b
    · rw [if_pos rfl]
      go_enter Tryz.func25, Tryz.ntmps25
      go_wp2_with fail
      refine (h1.out _).mono ?_
      rintro e w1 ⟨rfl, rfl⟩
      go_wp2_with fail
      refine (h2.out _).mono ?_
      rintro e w1 ⟨rfl, rfl⟩
      go_wp2
      go_ret2
      exact ⟨rfl, rfl⟩
    · rw [if_neg Bool.noConfusion]
      go_enter Tryz.func25, Tryz.ntmps25
      go_wp2_with fail
      refine (h1.out _).mono ?_
      rintro e w1 ⟨rfl, rfl⟩
      go_wp2_with fail
      refine (h2.out _).mono ?_
      rintro e w1 ⟨rfl, rfl⟩
      go_wp2
      go_ret2
      exact ⟨rfl, rfl⟩
end Go.Proofs.YtikkodanpbmmkaaGreat
/-
  The reference of the life cycle: App, Byte, State.
-/
namespace Go.Proofs.YtikkodanpbmmkaaGreat
open Go.RowKit
attribute [local go_sem] Oper.semAt_some

def isAppB (n : Int) : Bool := decide (n = 2) || (decide (n = 3) || decide (n = 4))
set_option maxRecDepth 100000 in
set_option maxHeartbeats 1000000 in
theorem rIsApp_ok {w : World} (n : Int) : Calls Tryz.prog 76 #[.int .i64 n] w fun e w' => e = .returned (.bool (isAppB n)) ∧ w = w' := by
  by_cases h2 : n = 2
  · subst h2
    go_enter Tryz.func76, Tryz.ntmps76
    go_wp2
    go_ret
    exact ⟨rfl, rfl⟩
  · have h2' : (n == 2) = false := by simpa using h2
    by_cases h3 : n = 3
    · subst h3
      go_enter Tryz.func76, Tryz.ntmps76
      go_wp2
      go_ret
      exact ⟨rfl, rfl⟩
    · have h3' : (n == 3) = false := by simpa using h3
      by_cases h4 : n = 4
      · subst h4
        go_enter Tryz.func76, Tryz.ntmps76
        go_wp2
        go_ret
        exact ⟨rfl, rfl⟩
      · have h4' : (n == 4) = false := by simpa using h4
        go_enter Tryz.func76, Tryz.ntmps76
        go_wp2
        go_ret
        exact ⟨ret_bool (by unfold isAppB; simp [h2, h3, h4]), rfl⟩
theorem appB_no {k f t : Int} (h : ¬ (k = 1 ∨ k = 2)) : appB k f t = false := by
  unfold appB
  rw [decide_eq_false (p := k = 2) (fun e => h (.inr e)), decide_eq_false (p := k = 1) (fun e => h (.inl e))]
  rfl
theorem appB_k {k f t : Int} (h : k = 1 ∨ k = 2) : appB k f t = (hasB k f && (hasB k t && ((decide (f = 5) != decide (t = 5)) || (decide (f = 2 ∧ t = 3) || decide (f = 3 ∧ t = 4))))) := by
  unfold appB
  have e : ((trs false).any fun r => decide ((r.1 : Int) = f ∧ (r.2 : Int) = t)) = (decide (f = 2 ∧ t = 3) || decide (f = 3 ∧ t = 4)) := by
    show (decide ((2 : Int) = f ∧ (3 : Int) = t) || (decide ((3 : Int) = f ∧ (4 : Int) = t) || false)) = _
    have c : ∀ (x y z u : Int), decide (x = y ∧ z = u) = decide (y = x ∧ u = z) := fun x y z u => by
      by_cases h : x = y ∧ z = u
      · rw [decide_eq_true h, decide_eq_true ⟨h.1.symm, h.2.symm⟩]
      · rw [decide_eq_false h, decide_eq_false fun q => h ⟨q.1.symm, q.2.symm⟩]
    rw [Bool.or_false, c, c 3]
  rw [e]
  rcases h with rfl | rfl <;> simp [Bool.and_assoc]
/-- What the reference says of an application. -/
def rApp (f t : Int) : Bool := (decide (f = 2) && decide (t = 3)) || ((decide (f = 3) && decide (t = 4)) || ((isAppB f && decide (t = 5)) || (decide (f = 5) && isAppB t)))
theorem rApp_eq {k f t : Int} (h : k = 1 ∨ k = 2) : appB k f t = rApp f t := by
  rw [appB_k h, hasB_app h, hasB_app h]
  unfold rApp isAppB
  by_cases hf : 2 ≤ f ∧ f ≤ 5
  · by_cases ht : 2 ≤ t ∧ t ≤ 5
    · have a : f = 2 ∨ f = 3 ∨ f = 4 ∨ f = 5 := by omega
      have b : t = 2 ∨ t = 3 ∨ t = 4 ∨ t = 5 := by omega
      rcases a with rfl | rfl | rfl | rfl <;> rcases b with rfl | rfl | rfl | rfl <;> rfl
    · have e : (decide (2 ≤ t) && decide (t ≤ 5)) = false := by
        rw [← Bool.decide_and, decide_eq_false ht]
      rw [e, decide_eq_false (p := t = 3) (by omega), decide_eq_false (p := t = 4) (by omega), decide_eq_false (p := t = 5) (by omega), decide_eq_false (p := t = 2) (by omega)]
      simp
  · have e : (decide (2 ≤ f) && decide (f ≤ 5)) = false := by
      rw [← Bool.decide_and, decide_eq_false hf]
    rw [e, decide_eq_false (p := f = 3) (by omega), decide_eq_false (p := f = 4) (by omega), decide_eq_false (p := f = 5) (by omega), decide_eq_false (p := f = 2) (by omega)]
    simp
set_option maxRecDepth 100000 in
set_option maxHeartbeats 4000000 in
theorem rApp_1_2 {w : World} (t : Int) : Calls Tryz.prog 30 #[.int .i64 1, .int .i64 2, .int .i64 t] w fun e w' => e = .returned (.bool (rApp 2 t)) ∧ w = w' := by
  have i1 := fun W => rIsApp_ok (w := W) 2
  rw [show isAppB 2 = true from rfl] at i1
  replace i1 := Lib.hid i1
  by_cases ht2 : t = 2
  · subst ht2
    go_enter Tryz.func30, Tryz.ntmps30
    go_wp2_with fail
    refine (i1.out _).mono ?_
    rintro e w1 ⟨rfl, rfl⟩
    go_wp2
    go_ret
    exact ⟨ret_bool (by decide), rfl⟩
  · have gt2 : (t == 2) = false := by simpa using ht2
    by_cases ht3 : t = 3
    · subst ht3
      go_enter Tryz.func30, Tryz.ntmps30
      go_wp2
      go_ret
      exact ⟨ret_bool (by decide), rfl⟩
    · have gt3 : (t == 3) = false := by simpa using ht3
      by_cases ht4 : t = 4
      · subst ht4
        go_enter Tryz.func30, Tryz.ntmps30
        go_wp2_with fail
        refine (i1.out _).mono ?_
        rintro e w1 ⟨rfl, rfl⟩
        go_wp2
        go_ret
        exact ⟨ret_bool (by decide), rfl⟩
      · have gt4 : (t == 4) = false := by simpa using ht4
        by_cases ht5 : t = 5
        · subst ht5
          go_enter Tryz.func30, Tryz.ntmps30
          go_wp2_with fail
          refine (i1.out _).mono ?_
          rintro e w1 ⟨rfl, rfl⟩
          go_wp2
          go_ret
          exact ⟨ret_bool (by decide), rfl⟩
        · have gt5 : (t == 5) = false := by simpa using ht5
          go_enter Tryz.func30, Tryz.ntmps30
          go_wp2_with fail
          refine (i1.out _).mono ?_
          rintro e w1 ⟨rfl, rfl⟩
          go_wp2
          go_ret
          exact ⟨ret_bool (by simp [rApp, isAppB, ht2, ht3, ht4, ht5]), rfl⟩
set_option maxRecDepth 100000 in
set_option maxHeartbeats 4000000 in
theorem rApp_1_3 {w : World} (t : Int) : Calls Tryz.prog 30 #[.int .i64 1, .int .i64 3, .int .i64 t] w fun e w' => e = .returned (.bool (rApp 3 t)) ∧ w = w' := by
  have i1 := fun W => rIsApp_ok (w := W) 3
  rw [show isAppB 3 = true from rfl] at i1
  replace i1 := Lib.hid i1
  by_cases ht2 : t = 2
  · subst ht2
    go_enter Tryz.func30, Tryz.ntmps30
    go_wp2_with fail
    refine (i1.out _).mono ?_
    rintro e w1 ⟨rfl, rfl⟩
    go_wp2
    go_ret
    exact ⟨ret_bool (by decide), rfl⟩
  · have gt2 : (t == 2) = false := by simpa using ht2
    by_cases ht3 : t = 3
    · subst ht3
      go_enter Tryz.func30, Tryz.ntmps30
      go_wp2_with fail
      refine (i1.out _).mono ?_
      rintro e w1 ⟨rfl, rfl⟩
      go_wp2
      go_ret
      exact ⟨ret_bool (by decide), rfl⟩
    · have gt3 : (t == 3) = false := by simpa using ht3
      by_cases ht4 : t = 4
      · subst ht4
        go_enter Tryz.func30, Tryz.ntmps30
        go_wp2
        go_ret
        exact ⟨ret_bool (by decide), rfl⟩
      · have gt4 : (t == 4) = false := by simpa using ht4
        by_cases ht5 : t = 5
        · subst ht5
          go_enter Tryz.func30, Tryz.ntmps30
          go_wp2_with fail
          refine (i1.out _).mono ?_
          rintro e w1 ⟨rfl, rfl⟩
          go_wp2
          go_ret
          exact ⟨ret_bool (by decide), rfl⟩
        · have gt5 : (t == 5) = false := by simpa using ht5
          go_enter Tryz.func30, Tryz.ntmps30
          go_wp2_with fail
          refine (i1.out _).mono ?_
          rintro e w1 ⟨rfl, rfl⟩
          go_wp2
          go_ret
          exact ⟨ret_bool (by simp [rApp, isAppB, ht2, ht3, ht4, ht5]), rfl⟩
set_option maxRecDepth 100000 in
set_option maxHeartbeats 4000000 in
theorem rApp_1_4 {w : World} (t : Int) : Calls Tryz.prog 30 #[.int .i64 1, .int .i64 4, .int .i64 t] w fun e w' => e = .returned (.bool (rApp 4 t)) ∧ w = w' := by
  have i1 := fun W => rIsApp_ok (w := W) 4
  rw [show isAppB 4 = true from rfl] at i1
  replace i1 := Lib.hid i1
  by_cases ht2 : t = 2
  · subst ht2
    go_enter Tryz.func30, Tryz.ntmps30
    go_wp2_with fail
    refine (i1.out _).mono ?_
    rintro e w1 ⟨rfl, rfl⟩
    go_wp2
    go_ret
    exact ⟨ret_bool (by decide), rfl⟩
  · have gt2 : (t == 2) = false := by simpa using ht2
    by_cases ht3 : t = 3
    · subst ht3
      go_enter Tryz.func30, Tryz.ntmps30
      go_wp2_with fail
      refine (i1.out _).mono ?_
      rintro e w1 ⟨rfl, rfl⟩
      go_wp2
      go_ret
      exact ⟨ret_bool (by decide), rfl⟩
    · have gt3 : (t == 3) = false := by simpa using ht3
      by_cases ht4 : t = 4
      · subst ht4
        go_enter Tryz.func30, Tryz.ntmps30
        go_wp2_with fail
        refine (i1.out _).mono ?_
        rintro e w1 ⟨rfl, rfl⟩
        go_wp2
        go_ret
        exact ⟨ret_bool (by decide), rfl⟩
      · have gt4 : (t == 4) = false := by simpa using ht4
        by_cases ht5 : t = 5
        · subst ht5
          go_enter Tryz.func30, Tryz.ntmps30
          go_wp2_with fail
          refine (i1.out _).mono ?_
          rintro e w1 ⟨rfl, rfl⟩
          go_wp2
          go_ret
          exact ⟨ret_bool (by decide), rfl⟩
        · have gt5 : (t == 5) = false := by simpa using ht5
          go_enter Tryz.func30, Tryz.ntmps30
          go_wp2_with fail
          refine (i1.out _).mono ?_
          rintro e w1 ⟨rfl, rfl⟩
          go_wp2
          go_ret
          exact ⟨ret_bool (by simp [rApp, isAppB, ht2, ht3, ht4, ht5]), rfl⟩
set_option maxRecDepth 100000 in
set_option maxHeartbeats 4000000 in
theorem rApp_1_5 {w : World} (t : Int) : Calls Tryz.prog 30 #[.int .i64 1, .int .i64 5, .int .i64 t] w fun e w' => e = .returned (.bool (rApp 5 t)) ∧ w = w' := by
  have i1 := fun W => rIsApp_ok (w := W) 5
  rw [show isAppB 5 = false from rfl] at i1
  replace i1 := Lib.hid i1
  by_cases ht2 : t = 2
  · subst ht2
    have i2 := fun W => rIsApp_ok (w := W) 2
    rw [show isAppB 2 = true from rfl] at i2
    replace i2 := Lib.hid i2
    go_enter Tryz.func30, Tryz.ntmps30
    go_wp2_with fail
    refine (i1.out _).mono ?_
    rintro e w1 ⟨rfl, rfl⟩
    go_wp2_with fail
    refine (i2.out _).mono ?_
    rintro e w1 ⟨rfl, rfl⟩
    go_wp2
    go_ret
    exact ⟨ret_bool (by decide), rfl⟩
  · have gt2 : (t == 2) = false := by simpa using ht2
    by_cases ht3 : t = 3
    · subst ht3
      have i2 := fun W => rIsApp_ok (w := W) 3
      rw [show isAppB 3 = true from rfl] at i2
      replace i2 := Lib.hid i2
      go_enter Tryz.func30, Tryz.ntmps30
      go_wp2_with fail
      refine (i1.out _).mono ?_
      rintro e w1 ⟨rfl, rfl⟩
      go_wp2_with fail
      refine (i2.out _).mono ?_
      rintro e w1 ⟨rfl, rfl⟩
      go_wp2
      go_ret
      exact ⟨ret_bool (by decide), rfl⟩
    · have gt3 : (t == 3) = false := by simpa using ht3
      by_cases ht4 : t = 4
      · subst ht4
        have i2 := fun W => rIsApp_ok (w := W) 4
        rw [show isAppB 4 = true from rfl] at i2
        replace i2 := Lib.hid i2
        go_enter Tryz.func30, Tryz.ntmps30
        go_wp2_with fail
        refine (i1.out _).mono ?_
        rintro e w1 ⟨rfl, rfl⟩
        go_wp2_with fail
        refine (i2.out _).mono ?_
        rintro e w1 ⟨rfl, rfl⟩
        go_wp2
        go_ret
        exact ⟨ret_bool (by decide), rfl⟩
      · have gt4 : (t == 4) = false := by simpa using ht4
        by_cases ht5 : t = 5
        · subst ht5
          have i2 := fun W => rIsApp_ok (w := W) 5
          rw [show isAppB 5 = false from rfl] at i2
          replace i2 := Lib.hid i2
          go_enter Tryz.func30, Tryz.ntmps30
          go_wp2_with fail
          refine (i1.out _).mono ?_
          rintro e w1 ⟨rfl, rfl⟩
          go_wp2_with fail
          refine (i2.out _).mono ?_
          rintro e w1 ⟨rfl, rfl⟩
          go_wp2
          go_ret
          exact ⟨ret_bool (by decide), rfl⟩
        · have gt5 : (t == 5) = false := by simpa using ht5
          have i2 := fun W => rIsApp_ok (w := W) t
          rw [show isAppB t = false by simp [isAppB, ht2, ht3, ht4]] at i2
          replace i2 := Lib.hid i2
          go_enter Tryz.func30, Tryz.ntmps30
          go_wp2_with fail
          refine (i1.out _).mono ?_
          rintro e w1 ⟨rfl, rfl⟩
          go_wp2_with fail
          refine (i2.out _).mono ?_
          rintro e w1 ⟨rfl, rfl⟩
          go_wp2
          go_ret
          exact ⟨ret_bool (by simp [rApp, isAppB, ht2, ht3, ht4, ht5]), rfl⟩
set_option maxRecDepth 100000 in
set_option maxHeartbeats 4000000 in
theorem rApp_1_o {w : World} (f t : Int) (hf2 : ¬ f = 2) (hf3 : ¬ f = 3) (hf4 : ¬ f = 4) (hf5 : ¬ f = 5) : Calls Tryz.prog 30 #[.int .i64 1, .int .i64 f, .int .i64 t] w fun e w' => e = .returned (.bool (rApp f t)) ∧ w = w' := by
  have i1 := fun W => rIsApp_ok (w := W) f
  rw [show isAppB f = false by simp [isAppB, hf2, hf3, hf4]] at i1
  have gf2 : (f == 2) = false := by simpa using hf2
  have gf3 : (f == 3) = false := by simpa using hf3
  have gf4 : (f == 4) = false := by simpa using hf4
  have gf5 : (f == 5) = false := by simpa using hf5
  replace i1 := Lib.hid i1
  by_cases ht2 : t = 2
  · subst ht2
    go_enter Tryz.func30, Tryz.ntmps30
    go_wp2_with fail
    refine (i1.out _).mono ?_
    rintro e w1 ⟨rfl, rfl⟩
    go_wp2
    go_ret
    exact ⟨ret_bool (by simp [rApp, isAppB, hf2, hf3, hf4, hf5]), rfl⟩
  · have gt2 : (t == 2) = false := by simpa using ht2
    by_cases ht3 : t = 3
    · subst ht3
      go_enter Tryz.func30, Tryz.ntmps30
      go_wp2_with fail
      refine (i1.out _).mono ?_
      rintro e w1 ⟨rfl, rfl⟩
      go_wp2
      go_ret
      exact ⟨ret_bool (by simp [rApp, isAppB, hf2, hf3, hf4, hf5]), rfl⟩
    · have gt3 : (t == 3) = false := by simpa using ht3
      by_cases ht4 : t = 4
      · subst ht4
        go_enter Tryz.func30, Tryz.ntmps30
        go_wp2_with fail
        refine (i1.out _).mono ?_
        rintro e w1 ⟨rfl, rfl⟩
        go_wp2
        go_ret
        exact ⟨ret_bool (by simp [rApp, isAppB, hf2, hf3, hf4, hf5]), rfl⟩
      · have gt4 : (t == 4) = false := by simpa using ht4
        by_cases ht5 : t = 5
        · subst ht5
          go_enter Tryz.func30, Tryz.ntmps30
          go_wp2_with fail
          refine (i1.out _).mono ?_
          rintro e w1 ⟨rfl, rfl⟩
          go_wp2
          go_ret
          exact ⟨ret_bool (by simp [rApp, isAppB, hf2, hf3, hf4, hf5]), rfl⟩
        · have gt5 : (t == 5) = false := by simpa using ht5
          go_enter Tryz.func30, Tryz.ntmps30
          go_wp2_with fail
          refine (i1.out _).mono ?_
          rintro e w1 ⟨rfl, rfl⟩
          go_wp2
          go_ret
          exact ⟨ret_bool (by simp [rApp, isAppB, hf2, hf3, hf4, hf5, ht2, ht3, ht4, ht5]), rfl⟩
set_option maxRecDepth 100000 in
set_option maxHeartbeats 4000000 in
theorem rApp_2_2 {w : World} (t : Int) : Calls Tryz.prog 30 #[.int .i64 2, .int .i64 2, .int .i64 t] w fun e w' => e = .returned (.bool (rApp 2 t)) ∧ w = w' := by
  have i1 := fun W => rIsApp_ok (w := W) 2
  rw [show isAppB 2 = true from rfl] at i1
  replace i1 := Lib.hid i1
  by_cases ht2 : t = 2
  · subst ht2
    go_enter Tryz.func30, Tryz.ntmps30
    go_wp2_with fail
    refine (i1.out _).mono ?_
    rintro e w1 ⟨rfl, rfl⟩
    go_wp2
    go_ret
    exact ⟨ret_bool (by decide), rfl⟩
  · have gt2 : (t == 2) = false := by simpa using ht2
    by_cases ht3 : t = 3
    · subst ht3
      go_enter Tryz.func30, Tryz.ntmps30
      go_wp2
      go_ret
      exact ⟨ret_bool (by decide), rfl⟩
    · have gt3 : (t == 3) = false := by simpa using ht3
      by_cases ht4 : t = 4
      · subst ht4
        go_enter Tryz.func30, Tryz.ntmps30
        go_wp2_with fail
        refine (i1.out _).mono ?_
        rintro e w1 ⟨rfl, rfl⟩
        go_wp2
        go_ret
        exact ⟨ret_bool (by decide), rfl⟩
      · have gt4 : (t == 4) = false := by simpa using ht4
        by_cases ht5 : t = 5
        · subst ht5
          go_enter Tryz.func30, Tryz.ntmps30
          go_wp2_with fail
          refine (i1.out _).mono ?_
          rintro e w1 ⟨rfl, rfl⟩
          go_wp2
          go_ret
          exact ⟨ret_bool (by decide), rfl⟩
        · have gt5 : (t == 5) = false := by simpa using ht5
          go_enter Tryz.func30, Tryz.ntmps30
          go_wp2_with fail
          refine (i1.out _).mono ?_
          rintro e w1 ⟨rfl, rfl⟩
          go_wp2
          go_ret
          exact ⟨ret_bool (by simp [rApp, isAppB, ht2, ht3, ht4, ht5]), rfl⟩
set_option maxRecDepth 100000 in
set_option maxHeartbeats 4000000 in
theorem rApp_2_3 {w : World} (t : Int) : Calls Tryz.prog 30 #[.int .i64 2, .int .i64 3, .int .i64 t] w fun e w' => e = .returned (.bool (rApp 3 t)) ∧ w = w' := by
  have i1 := fun W => rIsApp_ok (w := W) 3
  rw [show isAppB 3 = true from rfl] at i1
  replace i1 := Lib.hid i1
  by_cases ht2 : t = 2
  · subst ht2
    go_enter Tryz.func30, Tryz.ntmps30
    go_wp2_with fail
    refine (i1.out _).mono ?_
    rintro e w1 ⟨rfl, rfl⟩
    go_wp2
    go_ret
    exact ⟨ret_bool (by decide), rfl⟩
  · have gt2 : (t == 2) = false := by simpa using ht2
    by_cases ht3 : t = 3
    · subst ht3
      go_enter Tryz.func30, Tryz.ntmps30
      go_wp2_with fail
      refine (i1.out _).mono ?_
      rintro e w1 ⟨rfl, rfl⟩
      go_wp2
      go_ret
      exact ⟨ret_bool (by decide), rfl⟩
    · have gt3 : (t == 3) = false := by simpa using ht3
      by_cases ht4 : t = 4
      · subst ht4
        go_enter Tryz.func30, Tryz.ntmps30
        go_wp2
        go_ret
        exact ⟨ret_bool (by decide), rfl⟩
      · have gt4 : (t == 4) = false := by simpa using ht4
        by_cases ht5 : t = 5
        · subst ht5
          go_enter Tryz.func30, Tryz.ntmps30
          go_wp2_with fail
          refine (i1.out _).mono ?_
          rintro e w1 ⟨rfl, rfl⟩
          go_wp2
          go_ret
          exact ⟨ret_bool (by decide), rfl⟩
        · have gt5 : (t == 5) = false := by simpa using ht5
          go_enter Tryz.func30, Tryz.ntmps30
          go_wp2_with fail
          refine (i1.out _).mono ?_
          rintro e w1 ⟨rfl, rfl⟩
          go_wp2
          go_ret
          exact ⟨ret_bool (by simp [rApp, isAppB, ht2, ht3, ht4, ht5]), rfl⟩
set_option maxRecDepth 100000 in
set_option maxHeartbeats 4000000 in
theorem rApp_2_4 {w : World} (t : Int) : Calls Tryz.prog 30 #[.int .i64 2, .int .i64 4, .int .i64 t] w fun e w' => e = .returned (.bool (rApp 4 t)) ∧ w = w' := by
  have i1 := fun W => rIsApp_ok (w := W) 4
  rw [show isAppB 4 = true from rfl] at i1
  replace i1 := Lib.hid i1
  by_cases ht2 : t = 2
  · subst ht2
    go_enter Tryz.func30, Tryz.ntmps30
    go_wp2_with fail
    refine (i1.out _).mono ?_
    rintro e w1 ⟨rfl, rfl⟩
    go_wp2
    go_ret
    exact ⟨ret_bool (by decide), rfl⟩
  · have gt2 : (t == 2) = false := by simpa using ht2
    by_cases ht3 : t = 3
    · subst ht3
      go_enter Tryz.func30, Tryz.ntmps30
      go_wp2_with fail
      refine (i1.out _).mono ?_
      rintro e w1 ⟨rfl, rfl⟩
      go_wp2
      go_ret
      exact ⟨ret_bool (by decide), rfl⟩
    · have gt3 : (t == 3) = false := by simpa using ht3
      by_cases ht4 : t = 4
      · subst ht4
        go_enter Tryz.func30, Tryz.ntmps30
        go_wp2_with fail
        refine (i1.out _).mono ?_
        rintro e w1 ⟨rfl, rfl⟩
        go_wp2
        go_ret
        exact ⟨ret_bool (by decide), rfl⟩
      · have gt4 : (t == 4) = false := by simpa using ht4
        by_cases ht5 : t = 5
        · subst ht5
          go_enter Tryz.func30, Tryz.ntmps30
          go_wp2_with fail
          refine (i1.out _).mono ?_
          rintro e w1 ⟨rfl, rfl⟩
          go_wp2
          go_ret
          exact ⟨ret_bool (by decide), rfl⟩
        · have gt5 : (t == 5) = false := by simpa using ht5
          go_enter Tryz.func30, Tryz.ntmps30
          go_wp2_with fail
          refine (i1.out _).mono ?_
          rintro e w1 ⟨rfl, rfl⟩
          go_wp2
          go_ret
          exact ⟨ret_bool (by simp [rApp, isAppB, ht2, ht3, ht4, ht5]), rfl⟩
set_option maxRecDepth 100000 in
set_option maxHeartbeats 4000000 in
theorem rApp_2_5 {w : World} (t : Int) : Calls Tryz.prog 30 #[.int .i64 2, .int .i64 5, .int .i64 t] w fun e w' => e = .returned (.bool (rApp 5 t)) ∧ w = w' := by
  have i1 := fun W => rIsApp_ok (w := W) 5
  rw [show isAppB 5 = false from rfl] at i1
  replace i1 := Lib.hid i1
  by_cases ht2 : t = 2
  · subst ht2
    have i2 := fun W => rIsApp_ok (w := W) 2
    rw [show isAppB 2 = true from rfl] at i2
    replace i2 := Lib.hid i2
    go_enter Tryz.func30, Tryz.ntmps30
    go_wp2_with fail
    refine (i1.out _).mono ?_
    rintro e w1 ⟨rfl, rfl⟩
    go_wp2_with fail
    refine (i2.out _).mono ?_
    rintro e w1 ⟨rfl, rfl⟩
    go_wp2
    go_ret
    exact ⟨ret_bool (by decide), rfl⟩
  · have gt2 : (t == 2) = false := by simpa using ht2
    by_cases ht3 : t = 3
    · subst ht3
      have i2 := fun W => rIsApp_ok (w := W) 3
      rw [show isAppB 3 = true from rfl] at i2
      replace i2 := Lib.hid i2
      go_enter Tryz.func30, Tryz.ntmps30
      go_wp2_with fail
      refine (i1.out _).mono ?_
      rintro e w1 ⟨rfl, rfl⟩
      go_wp2_with fail
      refine (i2.out _).mono ?_
      rintro e w1 ⟨rfl, rfl⟩
      go_wp2
      go_ret
      exact ⟨ret_bool (by decide), rfl⟩
    · have gt3 : (t == 3) = false := by simpa using ht3
      by_cases ht4 : t = 4
      · subst ht4
        have i2 := fun W => rIsApp_ok (w := W) 4
        rw [show isAppB 4 = true from rfl] at i2
        replace i2 := Lib.hid i2
        go_enter Tryz.func30, Tryz.ntmps30
        go_wp2_with fail
        refine (i1.out _).mono ?_
        rintro e w1 ⟨rfl, rfl⟩
        go_wp2_with fail
        refine (i2.out _).mono ?_
        rintro e w1 ⟨rfl, rfl⟩
        go_wp2
        go_ret
        exact ⟨ret_bool (by decide), rfl⟩
      · have gt4 : (t == 4) = false := by simpa using ht4
        by_cases ht5 : t = 5
        · subst ht5
          have i2 := fun W => rIsApp_ok (w := W) 5
          rw [show isAppB 5 = false from rfl] at i2
          replace i2 := Lib.hid i2
          go_enter Tryz.func30, Tryz.ntmps30
          go_wp2_with fail
          refine (i1.out _).mono ?_
          rintro e w1 ⟨rfl, rfl⟩
          go_wp2_with fail
          refine (i2.out _).mono ?_
          rintro e w1 ⟨rfl, rfl⟩
          go_wp2
          go_ret
          exact ⟨ret_bool (by decide), rfl⟩
        · have gt5 : (t == 5) = false := by simpa using ht5
          have i2 := fun W => rIsApp_ok (w := W) t
          rw [show isAppB t = false by simp [isAppB, ht2, ht3, ht4]] at i2
          replace i2 := Lib.hid i2
          go_enter Tryz.func30, Tryz.ntmps30
          go_wp2_with fail
          refine (i1.out _).mono ?_
          rintro e w1 ⟨rfl, rfl⟩
          go_wp2_with fail
          refine (i2.out _).mono ?_
          rintro e w1 ⟨rfl, rfl⟩
          go_wp2
          go_ret
          exact ⟨ret_bool (by simp [rApp, isAppB, ht2, ht3, ht4, ht5]), rfl⟩
set_option maxRecDepth 100000 in
set_option maxHeartbeats 4000000 in
theorem rApp_2_o {w : World} (f t : Int) (hf2 : ¬ f = 2) (hf3 : ¬ f = 3) (hf4 : ¬ f = 4) (hf5 : ¬ f = 5) : Calls Tryz.prog 30 #[.int .i64 2, .int .i64 f, .int .i64 t] w fun e w' => e = .returned (.bool (rApp f t)) ∧ w = w' := by
  have i1 := fun W => rIsApp_ok (w := W) f
  rw [show isAppB f = false by simp [isAppB, hf2, hf3, hf4]] at i1
  have gf2 : (f == 2) = false := by simpa using hf2
  have gf3 : (f == 3) = false := by simpa using hf3
  have gf4 : (f == 4) = false := by simpa using hf4
  have gf5 : (f == 5) = false := by simpa using hf5
  replace i1 := Lib.hid i1
  by_cases ht2 : t = 2
  · subst ht2
    go_enter Tryz.func30, Tryz.ntmps30
    go_wp2_with fail
    refine (i1.out _).mono ?_
    rintro e w1 ⟨rfl, rfl⟩
    go_wp2
    go_ret
    exact ⟨ret_bool (by simp [rApp, isAppB, hf2, hf3, hf4, hf5]), rfl⟩
  · have gt2 : (t == 2) = false := by simpa using ht2
    by_cases ht3 : t = 3
    · subst ht3
      go_enter Tryz.func30, Tryz.ntmps30
      go_wp2_with fail
      refine (i1.out _).mono ?_
      rintro e w1 ⟨rfl, rfl⟩
      go_wp2
      go_ret
      exact ⟨ret_bool (by simp [rApp, isAppB, hf2, hf3, hf4, hf5]), rfl⟩
    · have gt3 : (t == 3) = false := by simpa using ht3
      by_cases ht4 : t = 4
      · subst ht4
        go_enter Tryz.func30, Tryz.ntmps30
        go_wp2_with fail
        refine (i1.out _).mono ?_
        rintro e w1 ⟨rfl, rfl⟩
        go_wp2
        go_ret
        exact ⟨ret_bool (by simp [rApp, isAppB, hf2, hf3, hf4, hf5]), rfl⟩
      · have gt4 : (t == 4) = false := by simpa using ht4
        by_cases ht5 : t = 5
        · subst ht5
          go_enter Tryz.func30, Tryz.ntmps30
          go_wp2_with fail
          refine (i1.out _).mono ?_
          rintro e w1 ⟨rfl, rfl⟩
          go_wp2
          go_ret
          exact ⟨ret_bool (by simp [rApp, isAppB, hf2, hf3, hf4, hf5]), rfl⟩
        · have gt5 : (t == 5) = false := by simpa using ht5
          go_enter Tryz.func30, Tryz.ntmps30
          go_wp2_with fail
          refine (i1.out _).mono ?_
          rintro e w1 ⟨rfl, rfl⟩
          go_wp2
          go_ret
          exact ⟨ret_bool (by simp [rApp, isAppB, hf2, hf3, hf4, hf5, ht2, ht3, ht4, ht5]), rfl⟩
theorem rApp_ok {w : World} (k f t : Int) (hk : k = 1 ∨ k = 2) : Calls Tryz.prog 30 #[.int .i64 k, .int .i64 f, .int .i64 t] w fun e w' => e = .returned (.bool (appB k f t)) ∧ w = w' := by
  rw [rApp_eq hk]
  by_cases hf2 : f = 2
  · subst hf2; rcases hk with rfl | rfl
    · exact rApp_1_2 t
    · exact rApp_2_2 t
  by_cases hf3 : f = 3
  · subst hf3; rcases hk with rfl | rfl
    · exact rApp_1_3 t
    · exact rApp_2_3 t
  by_cases hf4 : f = 4
  · subst hf4; rcases hk with rfl | rfl
    · exact rApp_1_4 t
    · exact rApp_2_4 t
  by_cases hf5 : f = 5
  · subst hf5; rcases hk with rfl | rfl
    · exact rApp_1_5 t
    · exact rApp_2_5 t
  rcases hk with rfl | rfl
  · exact rApp_1_o f t hf2 hf3 hf4 hf5
  · exact rApp_2_o f t hf2 hf3 hf4 hf5
set_option maxRecDepth 100000 in
set_option maxHeartbeats 4000000 in
theorem rAppAll_ok {w : World} (k f t : Int) : Calls Tryz.prog 30 #[.int .i64 k, .int .i64 f, .int .i64 t] w fun e w' => e = .returned (.bool (appB k f t)) ∧ w = w' := by
  by_cases hk : k = 1 ∨ k = 2
  · exact rApp_ok k f t hk
  · rw [appB_no hk]
    have h1 : (k != 1) = true := by simpa using fun e => hk (.inl e)
    have h2 : (k != 2) = true := by simpa using fun e => hk (.inr e)
    have h3 : ¬ k = 1 := fun e => hk (.inl e)
    have h4 : ¬ k = 2 := fun e => hk (.inr e)
    clear hk
    go_enter Tryz.func30, Tryz.ntmps30
    go_wp2
    go_ret
    exact ⟨rfl, rfl⟩
end Go.Proofs.YtikkodanpbmmkaaGreat
/-
  The reference of the life cycle: Byte, State.
-/
namespace Go.Proofs.YtikkodanpbmmkaaGreat
open Go.RowKit
attribute [local go_sem] Oper.semAt_some

/-- A column of the table as a slice of numbers. -/
def colCells (back : Bool) (l : List Rw) : List Value := l.map fun r => .int .i64 (pick1 back r)
def ColSl (w : World) (v : Value) (back : Bool) (l : List Rw) : Prop := Sl w v 3 1 l.length (colCells back l)
theorem ColSl.fresh {w w' : World} {v : Value} {b : Bool} {l : List Rw} (h : ColSl w v b l) (hm : Mod Nowhere w w') : ColSl w' v b l := Sl.mod h hm fun _ _ => id
theorem ColSl.whole {w : World} {b : Nat} {back : Bool} {l : List Rw} {n : Nat} (h : Blk w b (colCells back l) 3) (hn : n = l.length) (hm : l.length ≤ 100) : ColSl w (.slice (some ⟨b, 0, none⟩) n n) back l := by
  subst hn
  exact Sl.whole h (by simp [colCells]) (by unfold maxLen; omega)
theorem ColSl.at_ {w : World} {v : Value} {back : Bool} {l : List Rw} (h : ColSl w v back l) {i : Nat} (hi : i < l.length) : ∃ b off cap, v = .slice (some ⟨b, off, none⟩) l.length cap ∧ b < w.heap.size ∧ l.length ≤ cap ∧ cap ≤ maxLen ∧ w.cell? ⟨b, off + i, none⟩ = some (.int .i64 (pick1 back l[i])) := by
  obtain ⟨b, off, cap, rfl, hb, h1, h2, hc, _⟩ := Sl.open h (by omega)
  have c1 := hc i (by omega)
  rw [show (colCells back l).getD i default = .int .i64 (pick1 back l[i]) by simp [colCells, List.getD_eq_getElem?_getD, List.getElem?_map, List.getElem?_eq_getElem hi]] at c1
  exact ⟨b, off, cap, rfl, hb, h1, h2, c1⟩
def RowPost (w : World) (o : Option (List Rw)) (e : Ending) (w' : World) : Prop :=
  (o = none ∧ e = .returned (.tuple #[.slice none 0 0, .slice none 0 0, .bool false]) ∧ Mod Nowhere w w') ∨
  ∃ l u v, o = some l ∧ e = .returned (.tuple #[u, v, .bool true]) ∧ ColSl w' u false l ∧ ColSl w' v true l ∧ Mod Nowhere w w' ∧ 0 < l.length ∧ l.length ≤ 100
theorem RowPost.some_ {w : World} {l : List Rw} {n : Nat} (hn : n = l.length) (h0 : 0 < l.length) (hm : l.length ≤ 100) :
    RowPost w (some l) (.returned (.tuple #[.slice (some ⟨w.heap.size, 0, none⟩) n n, .slice (some ⟨w.heap.size + 1, 0, none⟩) n n, .bool true])) ((w.alloc (.cells (colCells false l).toArray 3)).alloc (.cells (colCells true l).toArray 3)) := by
  have hs : (w.alloc (.cells (colCells false l).toArray 3)).heap.size = w.heap.size + 1 := by simp
  have b2 := Blk.new (w.alloc (.cells (colCells false l).toArray 3)) (colCells true l) 3
  rw [hs] at b2
  exact .inr ⟨l, _, _, rfl, rfl, ColSl.whole ((Blk.new w (colCells false l) 3).alloc _) hn hm, ColSl.whole b2 hn hm, ((Mod.refl _ w).alloc _).alloc _, h0, hm⟩
set_option maxRecDepth 100000 in
set_option maxHeartbeats 2000000 in
theorem rRow_ok {w : World} (k : Int) : Calls Tryz.prog 68 #[.int .i64 k] w (RowPost w (rws k)) := by
  unfold rws
  by_cases h0 : k = 0
  · subst h0
    rw [if_pos rfl]
    go_enter Tryz.func68, Tryz.ntmps68
    go_wp2
    go_ret3
    exact RowPost.some_ (l := [(1, 1), (2, 7), (3, 15), (4, 127), (5, 255)]) rfl (by decide) (by decide)
  · rw [if_neg h0]
    by_cases h3 : k = 3
    · subst h3
      rw [if_pos rfl]
      go_enter Tryz.func68, Tryz.ntmps68
      go_wp2
      go_ret3
      exact RowPost.some_ (l := [(1, 1)]) rfl (by decide) (by decide)
    · rw [if_neg h3]
      by_cases h2 : k = 2
      · subst h2
        rw [if_pos (by omega)]
        go_enter Tryz.func68, Tryz.ntmps68
        go_wp2
        go_ret3
        exact RowPost.some_ (l := [(2, 3), (3, 7), (4, 15), (5, 131)]) rfl (by decide) (by decide)
      · by_cases h1 : k = 1
        · subst h1
          rw [if_pos (by omega)]
          go_enter Tryz.func68, Tryz.ntmps68
          go_wp2
          go_ret3
          exact RowPost.some_ (l := [(2, 3), (3, 7), (4, 15), (5, 131)]) rfl (by decide) (by decide)
        · rw [if_neg (by omega)]
          go_enter Tryz.func68, Tryz.ntmps68
          go_wp2
          go_ret3
          exact .inl ⟨rfl, rfl, Mod.refl _ _⟩
set_option maxRecDepth 100000 in
set_option maxHeartbeats 2000000 in
theorem rTurn_ok {w : World} {u v : Value} {l : List Rw} (back : Bool) (hu : ColSl w u back l) (hv : ColSl w v (!back) l) (hp : 0 < l.length) (hq : l.length ≤ 100) (n : Int) :
    Calls Tryz.prog 69 #[u, v, .int .i64 n] w fun e w' => e = .returned (.tuple #[.int .i64 (turn l back n).1, errno (turn l back n).2]) ∧ w = w' := by
  obtain ⟨b, off, c, rfl, -⟩ := hu.at_ hp
  obtain ⟨b2, off2, c2, rfl, -⟩ := hv.at_ hp
  replace hu := Lib.hid hu
  replace hv := Lib.hid hv
  go_enter Tryz.func69, Tryz.ntmps69
  go_wp2
  go_loopw [8] (fun i wr => ∃ k : Nat, k ≤ l.length ∧ i = .int .i64 k ∧ (l.take k).find? (fun r => decide ((pick1 back r : Int) = n)) = none ∧ w = wr) (fun i _ => l.length - (intOf i).toNat)
  case atStart => exact ⟨0, by omega, rfl, rfl, rfl⟩
  case round =>
    obtain ⟨k, hk, rfl, hno, rfl⟩ := hrel
    replace hno := Lib.hid hno
    by_cases hlt : k < l.length
    · obtain ⟨b', off', c', e0, hb, _, _, x1⟩ := hu.out.at_ hlt
      obtain ⟨b3, off3, c3, e3, hb3, _, _, x2⟩ := hv.out.at_ hlt
      obtain ⟨⟨rfl, rfl⟩, rfl⟩ : (b = b' ∧ off = off') ∧ c = c' := by
        simp at e0; exact e0
      obtain ⟨⟨rfl, rfl⟩, rfl⟩ : (b2 = b3 ∧ off2 = off3) ∧ c2 = c3 := by
        simp at e3; exact e3
      have hhit : (pick1 back l[k] : Int) = n → turn l back n = (((pick1 (!back) l[k] : Nat) : Int), 0) := fun h => turn_hit (n := n) hlt hno.out h
      have hmiss : ¬ (pick1 back l[k] : Int) = n → (l.take (k + 1)).find? (fun r => decide ((pick1 back r : Int) = n)) = none := fun h => find_next (p := fun r => decide ((pick1 back r : Int) = n)) hlt hno.out (decide_eq_false h)
      generalize pick1 (!back) l[k] = q at *
      generalize pick1 back l[k] = o at *
      by_cases h1 : (o : Int) = n
      · have hfin := hhit h1
        subst h1
        replace hfin := Lib.hid hfin
        clear hhit hmiss
        go_wp2
        go_ret2
        exact ⟨by rw [hfin.out]; rfl, rfl⟩
      · have hfin := hmiss h1
        replace hfin := Lib.hid hfin
        clear hhit hmiss
        go_wp2
        go_roundw
        case rel => exact ⟨k + 1, by omega, by go_num, hfin.out, trivial⟩
        case measure => simp [intOf]; omega
    · obtain rfl : k = l.length := by omega
      rw [List.take_length] at hno
      go_wp2
      go_ret2
      exact ⟨by rw [turn_miss hno.out]; rfl, rfl⟩
set_option maxRecDepth 100000 in
set_option maxHeartbeats 1000000 in
theorem rByte_ok {w : World} (k n : Int) : Calls Tryz.prog 17 #[.int .i64 k, .int .i64 n] w (findPost w k n false) := by
  have hR := fun W => rRow_ok (w := W) k
  unfold findPost findB
  generalize rws k = o at *
  replace hR := Lib.hid hR
  go_enter Tryz.func17, Tryz.ntmps17
  go_wp2_with fail
  refine (hR.out _).mono ?_
  rintro e w1 (⟨rfl, rfl, hm1⟩ | ⟨l, u, v, rfl, rfl, hu, hv, hm1, hp, hq⟩)
  · go_wp2
    go_ret2
    exact ⟨rfl, hm1⟩
  · have hT := rTurn_ok false hu hv hp hq n
    obtain ⟨b, off, c, rfl, -⟩ := hu.at_ hp
    obtain ⟨b2, off2, c2, rfl, -⟩ := hv.at_ hp
    replace hT := Lib.hid hT
    clear hu hv
    go_wp2_with fail
    refine hT.out.mono ?_
    rintro e w2 ⟨rfl, rfl⟩
    go_wp2
    go_ret2
    exact ⟨rfl, hm1⟩
set_option maxRecDepth 100000 in
set_option maxHeartbeats 1000000 in
theorem rState_ok {w : World} (k n : Int) : Calls Tryz.prog 19 #[.int .i64 k, .int .i64 n] w (findPost w k n true) := by
  have hR := fun W => rRow_ok (w := W) k
  unfold findPost findB
  generalize rws k = o at *
  replace hR := Lib.hid hR
  go_enter Tryz.func19, Tryz.ntmps19
  go_wp2_with fail
  refine (hR.out _).mono ?_
  rintro e w1 (⟨rfl, rfl, hm1⟩ | ⟨l, u, v, rfl, rfl, hu, hv, hm1, hp, hq⟩)
  · go_wp2
    go_ret2
    exact ⟨rfl, hm1⟩
  · have hT := rTurn_ok true hv hu hp hq n
    obtain ⟨b, off, c, rfl, -⟩ := hu.at_ hp
    obtain ⟨b2, off2, c2, rfl, -⟩ := hv.at_ hp
    replace hT := Lib.hid hT
    clear hu hv
    go_wp2_with fail
    refine hT.out.mono ?_
    rintro e w2 ⟨rfl, rfl⟩
    go_wp2
    go_ret2
    exact ⟨rfl, hm1⟩
end Go.Proofs.YtikkodanpbmmkaaGreat
