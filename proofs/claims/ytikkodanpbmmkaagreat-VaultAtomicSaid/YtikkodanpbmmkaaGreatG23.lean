/-
  The reference of the vault, in plain numbers: sorted lists of items.
-/
import Derived.Test.YtikkodanpbmmkaaGreatG14
import Derived.Test.YtikkodanpbmmkaaGreatG15
import Derived.Deep.AppendLies
import Derived.Test.YtikkodanpbmmkaaGreatG20
import Derived.Test.YtikkodanpbmmkaaGreatVpl
set_option linter.unusedVariables false
set_option linter.unusedSimpArgs false
namespace Go.Proofs.YtikkodanpbmmkaaGreat
namespace Vn
open Jn

abbrev It := Nat × List Nat
def itemsOf (f : Items) : List It := (dom f).map fun k => (k, (f k).getD [])
theorem mem_itemsOf {f : Items} {x : It} : x ∈ itemsOf f ↔ x.1 < 4097 ∧ f x.1 = some x.2 := by
  unfold itemsOf
  rw [List.mem_map]
  constructor
  · rintro ⟨k, hk, rfl⟩
    obtain ⟨h1, h2⟩ := mem_dom.1 hk
    obtain ⟨d, hd⟩ := Option.isSome_iff_exists.1 h2
    exact ⟨h1, by rw [hd]; rfl⟩
  · rintro ⟨h1, h2⟩
    exact ⟨x.1, mem_dom.2 ⟨h1, by rw [h2]; rfl⟩, by rw [h2]; rfl⟩
def Srt (l : List It) : Prop := l.Pairwise fun a b => a.1 < b.1
theorem srt_itemsOf (f : Items) : Srt (itemsOf f) := List.pairwise_map.2 ((dom_sorted f).imp fun {a b} h => h)
theorem itemsOf_none : itemsOf none_ = [] := by
  have : dom none_ = [] := by unfold dom none_; simp
  unfold itemsOf; rw [this]; rfl
theorem itemsOf_len (f : Items) : (itemsOf f).length ≤ 4097 := by
  unfold itemsOf dom
  rw [List.length_map]
  exact Nat.le_trans (List.length_filter_le _ _) (by rw [List.length_range]; exact Nat.le_refl _)
/-- Two sorted lists with the same members are equal. -/
theorem srt_ext : ∀ {l l' : List It}, Srt l → Srt l' → (∀ x, x ∈ l ↔ x ∈ l') → l = l'
  | [], [], _, _, _ => rfl
  | [], y :: l', _, _, h => by have := (h y).2 (by simp); simp at this
  | x :: l, [], _, _, h => by have := (h x).1 (by simp); simp at this
  | x :: l, y :: l', h1, h2, h => by
    obtain ⟨a1, a2⟩ := List.pairwise_cons.1 h1
    obtain ⟨b1, b2⟩ := List.pairwise_cons.1 h2
    have exy : x = y := by
      rcases List.mem_cons.1 ((h x).1 (by simp)) with e | e
      · exact e
      · rcases List.mem_cons.1 ((h y).2 (by simp)) with e' | e'
        · exact e'.symm
        · have := b1 x e
          have := a1 y e'
          omega
    subst exy
    rw [srt_ext a2 b2 fun z => ?_]
    constructor
    · intro hz
      rcases List.mem_cons.1 ((h z).1 (by simp [hz])) with e | e
      · subst e; have := a1 z hz; omega
      · exact e
    · intro hz
      rcases List.mem_cons.1 ((h z).2 (by simp [hz])) with e | e
      · subst e; have := b1 z hz; omega
      · exact e
/-- Items with a new one, as the reference goes through them. -/
def setPart (id : Nat) (b : List Nat) (l : List It) : List It := l.filter (fun x => decide (x.1 < id)) ++ if l.any (fun x => decide (id ≤ x.1)) then (id, b) :: l.filter (fun x => decide (id < x.1)) else []
def setAll (id : Nat) (b : List Nat) (l : List It) : List It := l.filter (fun x => decide (x.1 < id)) ++ (id, b) :: l.filter (fun x => decide (id < x.1))
theorem setPart_nil (id : Nat) (b : List Nat) : setPart id b [] = [] := rfl
theorem setPart_done {id : Nat} {b : List Nat} {l : List It} (h : l.any (fun x => decide (id ≤ x.1)) = true) : setPart id b l = setAll id b l := by
  unfold setPart setAll; rw [h]; rfl
theorem setPart_not {id : Nat} {b : List Nat} {l : List It} (h : l.any (fun x => decide (id ≤ x.1)) = false) : setPart id b l ++ [(id, b)] = setAll id b l := by
  have e : l.filter (fun x => decide (id < x.1)) = [] := List.filter_eq_nil_iff.2 fun x hx => by
    have := List.any_eq_false.1 h x hx
    simp at this ⊢
    omega
  unfold setPart setAll; rw [h, e]; simp
theorem srt_last {l : List It} {x : It} (h : Srt (l ++ [x])) : ∀ y ∈ l, y.1 < x.1 := fun y hy => (List.pairwise_append.1 h).2.2 y hy x (by simp)
theorem any_snoc (l : List It) (x : It) (p : It → Bool) : (l ++ [x]).any p = (l.any p || p x) := by simp
/-- One step: the new item is not due yet, and this one is before it. -/
theorem setPart_lt {id : Nat} {b : List Nat} {l : List It} {x : It} (h : l.any (fun x => decide (id ≤ x.1)) = false) (hx : x.1 < id) : setPart id b (l ++ [x]) = setPart id b l ++ [x] ∧ (l ++ [x]).any (fun x => decide (id ≤ x.1)) = false := by
  have e : (l ++ [x]).any (fun x => decide (id ≤ x.1)) = false := by rw [any_snoc, h]; simp; omega
  refine ⟨?_, e⟩
  unfold setPart
  rw [e, h, List.filter_append]
  simp [hx]
/-- The new item takes the place of this one. -/
theorem setPart_eq {id : Nat} {b : List Nat} {l : List It} {x : It} (h : l.any (fun x => decide (id ≤ x.1)) = false) (hx : x.1 = id) : setPart id b (l ++ [x]) = setPart id b l ++ [(id, b)] ∧ (l ++ [x]).any (fun x => decide (id ≤ x.1)) = true := by
  have e : (l ++ [x]).any (fun x => decide (id ≤ x.1)) = true := by rw [any_snoc]; simp; right; omega
  refine ⟨?_, e⟩
  have e2 : l.filter (fun x => decide (id < x.1)) = [] := List.filter_eq_nil_iff.2 fun x hx => by
    have := List.any_eq_false.1 h x hx
    simp at this ⊢
    omega
  unfold setPart
  rw [e, h, List.filter_append, List.filter_append, e2]
  simp [hx]
/-- The new item comes before this one. -/
theorem setPart_gt {id : Nat} {b : List Nat} {l : List It} {x : It} (h : l.any (fun x => decide (id ≤ x.1)) = false) (hx : id < x.1) : setPart id b (l ++ [x]) = (setPart id b l ++ [(id, b)]) ++ [x] ∧ (l ++ [x]).any (fun x => decide (id ≤ x.1)) = true := by
  have e : (l ++ [x]).any (fun x => decide (id ≤ x.1)) = true := by rw [any_snoc]; simp; right; omega
  refine ⟨?_, e⟩
  have e2 : l.filter (fun x => decide (id < x.1)) = [] := List.filter_eq_nil_iff.2 fun x hx => by
    have := List.any_eq_false.1 h x hx
    simp at this ⊢
    omega
  have e3 : ¬ x.1 < id := by omega
  unfold setPart
  rw [e, h, List.filter_append, List.filter_append, e2]
  simp [hx, e3]
/-- The new item is there already. -/
theorem setPart_rest {id : Nat} {b : List Nat} {l : List It} {x : It} (hs : Srt (l ++ [x])) (h : l.any (fun x => decide (id ≤ x.1)) = true) : setPart id b (l ++ [x]) = setPart id b l ++ [x] ∧ (l ++ [x]).any (fun x => decide (id ≤ x.1)) = true ∧ id < x.1 := by
  have e : (l ++ [x]).any (fun x => decide (id ≤ x.1)) = true := by rw [any_snoc, h]; rfl
  have hx : id < x.1 := by
    obtain ⟨y, hy, hy2⟩ := List.any_eq_true.1 h
    have := srt_last hs y hy
    simp at hy2
    omega
  have e3 : ¬ x.1 < id := by omega
  refine ⟨?_, e, hx⟩
  unfold setPart
  rw [e, h, List.filter_append, List.filter_append]
  simp [hx, e3]
theorem setAll_srt {id : Nat} {b : List Nat} {l : List It} (h : Srt l) : Srt (setAll id b l) := by
  unfold setAll Srt
  refine List.pairwise_append.2 ⟨h.filter _, List.pairwise_cons.2 ⟨fun y hy => ?_, h.filter _⟩, fun x hx y hy => ?_⟩
  · simpa using (List.mem_filter.1 hy).2
  · have h1 : x.1 < id := by simpa using (List.mem_filter.1 hx).2
    rcases List.mem_cons.1 hy with e | e
    · rw [e]; exact h1
    · have h2 : id < y.1 := by simpa using (List.mem_filter.1 e).2
      omega
theorem itemsOf_set {f : Items} {id : Nat} {b : List Nat} (h1 : id < 4097) : itemsOf (set1 f (id, some b)) = setAll id b (itemsOf f) := by
  refine srt_ext (srt_itemsOf _) (setAll_srt (srt_itemsOf f)) fun x => ?_
  rw [mem_itemsOf]
  unfold setAll set1
  simp only [List.mem_append, List.mem_cons, List.mem_filter, mem_itemsOf, decide_eq_true_eq]
  obtain ⟨k, d⟩ := x
  simp only [Prod.mk.injEq]
  by_cases hk : k = id
  · subst hk
    rw [if_pos rfl]
    simp only [Option.some.injEq, Nat.lt_irrefl, and_false, false_or, or_false, true_and]
    constructor
    · rintro ⟨_, e⟩; exact e.symm
    · intro e; exact ⟨h1, e.symm⟩
  · rw [if_neg hk]
    constructor
    · rintro ⟨a, e⟩
      rcases Nat.lt_or_gt_of_ne hk with h | h
      · exact .inl ⟨⟨a, e⟩, h⟩
      · exact .inr (.inr ⟨⟨a, e⟩, h⟩)
    · rintro (⟨h, _⟩ | ⟨h, _⟩ | ⟨h, _⟩)
      · exact h
      · exact absurd h hk
      · exact h
theorem itemsOf_drop {f : Items} {id : Nat} : itemsOf (set1 f (id, none)) = (itemsOf f).filter fun x => decide (x.1 ≠ id) := by
  refine srt_ext (srt_itemsOf _) ((srt_itemsOf f).filter _) fun x => ?_
  rw [mem_itemsOf, List.mem_filter, mem_itemsOf]
  unfold set1
  obtain ⟨k, d⟩ := x
  by_cases hk : k = id
  · subst hk; simp
  · rw [if_neg hk]
    simp [hk]
theorem wt_itemsOf (f : Items) : ((itemsOf f).map fun x => 16 + x.2.length).sum = wt f := by
  unfold itemsOf wt
  rw [List.map_map]; rfl
theorem dom_itemsOf (f : Items) : (itemsOf f).map (·.1) = dom f := by
  unfold itemsOf
  rw [List.map_map]
  exact List.map_id _
/-- What the reference finds. -/
theorem find_itemsOf {f : Items} (hs : ∀ k, (f k).isSome = true → k < 4097) (id : Int) : ((itemsOf f).find? fun x => decide ((x.1 : Int) = id)).map (·.2) = if 0 ≤ id then f id.toNat else none := by
  cases hf : (itemsOf f).find? fun x => decide ((x.1 : Int) = id) with
  | some x =>
    have h1 := List.find?_some hf
    have h2 := mem_itemsOf.1 (List.mem_of_find?_eq_some hf)
    simp only [decide_eq_true_eq] at h1
    rw [if_pos (by omega), show id.toNat = x.1 by omega, h2.2]; rfl
  | none =>
    have h1 := List.find?_eq_none.1 hf
    by_cases h0 : 0 ≤ id
    · rw [if_pos h0]
      cases hk : f id.toNat with
      | none => rfl
      | some d =>
        have := h1 (id.toNat, d) (mem_itemsOf.2 ⟨hs _ (by rw [hk]; rfl), hk⟩)
        simp at this
        omega
    · rw [if_neg h0]; rfl
/-! ### What changes need -/
def cost1 (o : Option Rec) : Nat := match o with
  | none => 0
  | some r => 8 + (r.2.getD []).length
theorem sum_filterMap (g : Nat → Option Rec) : ∀ ks : List Nat, ((ks.filterMap g).map fun r => 8 + (r.2.getD []).length).sum = (ks.map fun k => cost1 (g k)).sum
  | [] => rfl
  | k :: ks => by
    have ih := sum_filterMap g ks
    cases hk : g k with
    | none => rw [List.filterMap_cons, hk, List.map_cons, List.sum_cons, ih, hk]; show _ = 0 + _; omega
    | some r => rw [List.filterMap_cons, hk, List.map_cons, List.sum_cons, List.map_cons, List.sum_cons, ih, hk]; rfl
theorem sum_some (g : Nat → Option Rec) : ∀ ks : List Nat, ((ks.filter fun k => (g k).isSome).map fun k => cost1 (g k)).sum = (ks.map fun k => cost1 (g k)).sum
  | [] => rfl
  | k :: ks => by
    have ih := sum_some g ks
    cases hk : g k with
    | none => rw [List.filter_cons, hk]; simp only [Option.isSome_none, Bool.false_eq_true, if_false, List.map_cons, List.sum_cons, hk]; rw [ih]; show _ = 0 + _; omega
    | some r => rw [List.filter_cons, hk]; simp only [Option.isSome_some, if_true, List.map_cons, List.sum_cons]; rw [ih]
theorem need_sum (l : List Rec) : need l = ((List.range 4097).map fun k => cost1 (lastOf l k)).sum := by
  unfold need recsOf dom
  rw [sum_filterMap, sum_some]
theorem sum_point {a b : Nat → Nat} {j : Nat} (hab : ∀ k, k ≠ j → a k = b k) : ∀ n, ((List.range n).map a).sum + (if j < n then b j else 0) = ((List.range n).map b).sum + (if j < n then a j else 0)
  | 0 => by simp
  | n + 1 => by
    have ih := sum_point hab n
    rw [List.range_succ, List.map_append, List.map_append, List.sum_append, List.sum_append]
    simp only [List.map_cons, List.map_nil, List.sum_cons, List.sum_nil, Nat.add_zero]
    by_cases h : n = j
    · subst h
      rw [if_neg (by omega), if_neg (by omega)] at ih
      rw [if_pos (by omega), if_pos (by omega)]
      omega
    · have := hab n h
      by_cases h2 : j < n
      · rw [if_pos h2, if_pos h2] at ih
        rw [if_pos (by omega), if_pos (by omega)]
        omega
      · rw [if_neg h2, if_neg h2] at ih
        rw [if_neg (by omega), if_neg (by omega)]
        omega
theorem lastOf_cons (r : Rec) (l : List Rec) (k : Nat) : lastOf (r :: l) k = if (lastOf l k).isSome then lastOf l k else if k = r.1 then some r else none := by
  unfold lastOf
  rw [List.reverse_cons, List.find?_append]
  cases hf : l.reverse.find? fun r => r.1 == k with
  | some x => rfl
  | none =>
    simp only [Option.none_or, Option.isSome_none, Bool.false_eq_true, if_false, List.find?_cons, List.find?_nil]
    by_cases h : k = r.1
    · rw [if_pos h]; simp [h]
    · rw [if_neg h]
      have : (r.1 == k) = false := by simp; omega
      rw [this]
/-- The need, as the reference counts it. -/
def needR : List Rec → Nat
  | [] => 0
  | r :: l => (if l.any (fun x => x.1 == r.1) then 0 else 8 + (r.2.getD []).length) + needR l
theorem lastOf_any (l : List Rec) (k : Nat) : (lastOf l k).isSome = l.any fun x => x.1 == k := by
  unfold lastOf
  rw [Bool.eq_iff_iff, List.find?_isSome, List.any_eq_true]
  simp
theorem need_cons {r : Rec} {l : List Rec} (h : r.1 < 4097) : need (r :: l) = (if l.any (fun x => x.1 == r.1) then 0 else 8 + (r.2.getD []).length) + need l := by
  rw [need_sum, need_sum]
  by_cases ha : l.any (fun x => x.1 == r.1) = true
  · rw [if_pos ha, Nat.zero_add]
    have e : (fun k => cost1 (lastOf (r :: l) k)) = fun k => cost1 (lastOf l k) := by
      funext k
      rw [lastOf_cons]
      by_cases hk : k = r.1
      · rw [if_pos (by rw [lastOf_any, hk]; exact ha)]
      · split
        · rfl
        · rename_i hn
          cases hl : lastOf l k with
          | none => rfl
          | some x => rw [hl] at hn; exact absurd rfl hn
    rw [e]
  · have hp := sum_point (a := fun k => cost1 (lastOf (r :: l) k)) (b := fun k => cost1 (lastOf l k)) (j := r.1) (fun k hk => by
      show cost1 (lastOf (r :: l) k) = cost1 (lastOf l k)
      rw [lastOf_cons]
      by_cases hn : (lastOf l k).isSome = true
      · rw [if_pos hn]
      · rw [if_neg hn, if_neg hk]
        cases hl : lastOf l k with
        | none => rfl
        | some x => rw [hl] at hn; exact absurd rfl hn) 4097
    rw [if_pos h, if_pos h] at hp
    have hn : lastOf l r.1 = none := by
      cases hl : lastOf l r.1 with
      | none => rfl
      | some x =>
        have := lastOf_any l r.1
        rw [hl] at this
        exact absurd this.symm ha
    have e1 : cost1 (lastOf l r.1) = 0 := by rw [hn]; rfl
    have e2 : cost1 (lastOf (r :: l) r.1) = 8 + (r.2.getD []).length := by
      rw [lastOf_cons, hn]; simp [cost1]
    rw [e1, e2] at hp
    rw [if_neg ha]
    omega
theorem needR_eq : ∀ {l : List Rec}, (∀ r ∈ l, r.1 < 4097) → needR l = need l
  | [], _ => by
    rw [need_sum]
    have h0 : ∀ n, ((List.range n).map (fun k => cost1 (lastOf [] k))).sum = 0 := fun n => by
      induction n with
      | zero => rfl
      | succ n ih => rw [List.range_succ, List.map_append, List.sum_append, ih]; rfl
    rw [h0]; rfl
  | r :: l, h => by
    rw [need_cons (h r (by simp)), ← needR_eq fun x hx => h x (by simp [hx])]
    rfl
end Vn
end Go.Proofs.YtikkodanpbmmkaaGreat
/-
  The reference of the vault: lists of items and edits in Go's memory; dropping, weighing, finding.
-/
namespace Go.Proofs.YtikkodanpbmmkaaGreat
open Go.RowKit
open Jn Vn
attribute [local go_sem] Oper.semAt_some

/-- An item in Go's memory: the slice that has its data, and the item. -/
abbrev Ix := Value × It
def icCells (x : Ix) : List Value := [.int .i64 x.2.1, x.1]
def icsCells (xs : List Ix) : List Value := xs.flatMap icCells
def its (xs : List Ix) : List It := xs.map (·.2)
structure ISl (w : World) (v : Value) (xs : List Ix) : Prop where
  sl : Sl w v 126 2 xs.length (icsCells xs)
  data : ∀ x ∈ xs, DSl w x.1 x.2.2
theorem ISl.fresh {w w' : World} {v : Value} {xs : List Ix} (h : ISl w v xs) (hm : Mod Nowhere w w') : ISl w' v xs := ⟨h.sl.mod hm (fun _ _ => id), fun x hx => (h.data x hx).fresh hm⟩
theorem icsCells_get : ∀ (xs : List Ix) (i : Nat) (h : i < xs.length), (icsCells xs).getD (i * 2) default = .int .i64 xs[i].2.1 ∧ (icsCells xs).getD (i * 2 + 1) default = xs[i].1
  | x :: xs, 0, _ => by simp [icsCells, icCells]
  | x :: xs, i + 1, h => by
    have := icsCells_get xs i (by simpa using h)
    have e : icsCells (x :: xs) = .int .i64 x.2.1 :: x.1 :: icsCells xs := rfl
    rw [e, show (i + 1) * 2 = i * 2 + 1 + 1 by omega, show i * 2 + 1 + 1 + 1 = (i * 2 + 1) + 1 + 1 by omega]
    simp only [List.getD_cons_succ, List.getElem_cons_succ]
    exact this
theorem icsCells_append (xs ys : List Ix) : icsCells (xs ++ ys) = icsCells xs ++ icsCells ys := by simp [icsCells]
/-- The cells of item number i. -/
theorem ISl.at_ {w : World} {v : Value} {xs : List Ix} (h : ISl w v xs) {i : Nat} (hi : i < xs.length) : ∃ b off cap a c, v = .slice (some ⟨b, off, none⟩) xs.length cap ∧ b < w.heap.size ∧ xs.length ≤ cap ∧ cap ≤ maxLen ∧ w.cell? ⟨b, off + i * 2, none⟩ = some (.int .i64 xs[i].2.1) ∧ w.cell? ⟨b, off + i * 2 + 1, none⟩ = some xs[i].1 ∧ xs[i].1 = .slice a xs[i].2.2.length c := by
  obtain ⟨b, off, cap, rfl, hb, h1, h2, hc, _⟩ := h.sl.open (by omega)
  obtain ⟨e1, e2⟩ := icsCells_get xs i hi
  obtain ⟨a, c, e3, _⟩ := Sl.len (h.data xs[i] (List.getElem_mem hi))
  have c1 := hc (i * 2) (by omega)
  have c2 := hc (i * 2 + 1) (by omega)
  rw [e1] at c1
  rw [e2] at c2
  exact ⟨b, off, cap, a, c, rfl, hb, h1, h2, c1, by rw [Nat.add_assoc]; exact c2, e3⟩
theorem info_item : (Tryz.prog.info? 126).map (fun i => (i.zero, i.size, i.bytes)) = some (some (.agg #[.int .i64 0, .slice none 0 0]), 2, 32) := by kernel_rfl
/-- A list of items is handed back. -/
def ItPost (w : World) (l : List It) (e : Ending) (w' : World) : Prop := ∃ v xs, e = .returned v ∧ ISl w' v xs ∧ its xs = l ∧ Mod Nowhere w w'
theorem its_len (xs : List Ix) : (its xs).length = xs.length := by simp [its]
theorem its_take (xs : List Ix) (k : Nat) : its (xs.take k) = (its xs).take k := by simp [its, List.map_take]
theorem ISl.of_owns {w W : World} {T : Nat} {v : Value} {xs ys : List Ix} (h : ISl w v xs) {u : Value} (ho : W.ownsRow T 126 2 u ys.length (icsCells ys)) (hm : Mod Nowhere w W) (hy : ∀ y ∈ ys, y ∈ xs) : ISl W u ys :=
  ⟨Sl.of_owns ho, fun x hx => (h.data x (hy x hx)).fresh hm⟩
set_option maxRecDepth 100000 in
set_option maxHeartbeats 2000000 in
theorem rDrop_ok {w : World} {v : Value} {xs : List Ix} (h : ISl w v xs) (hn : xs.length ≤ 1000000) (nd : Nat) (h4 : nd ≤ 4096) :
    Calls Tryz.prog 141 #[v, .int .i64 nd] w (ItPost w ((its xs).filter fun x => decide (x.1 ≠ nd))) := by
  obtain ⟨i0, hi0, hz0, hz1, hz2⟩ := info_parts info_item
  obtain ⟨la, lc, rfl, h1, h2, -⟩ := h.sl.gen
  replace h := Lib.hid h
  go_enter Tryz.func141, Tryz.ntmps141
  go_wp2
  go_loopw [5, 6] (fun v i wr => ∃ (k L : Nat) (va : Option Addr) (vcap : Nat), k ≤ xs.length ∧ i = .int .i64 k ∧ v = .slice va L vcap ∧ L = ((xs.take k).filter fun x => decide (x.2.1 ≠ nd)).length ∧ wr.ownsRow w.heap.size 126 2 (.slice va L vcap) L (icsCells ((xs.take k).filter fun x => decide (x.2.1 ≠ nd))) ∧ Mod Nowhere w wr) (fun _ i _ => xs.length - (RowKit.intOf i).toNat)
  case atStart => exact ⟨0, 0, none, 0, by omega, rfl, rfl, rfl, World.ownsRow_nil _ _ _ _, Mod.refl _ _⟩
  case round =>
    obtain ⟨k, L, va, vcap, hk, rfl, rfl, hL, hown, hm⟩ := hrel
    by_cases hlt : k < xs.length
    · obtain ⟨b, off, cap', xa, xc, e0, hb, _, _, c1, c2, e3⟩ := (h.out.fresh hm).at_ hlt
      have hft : ((xs.take (k + 1)).filter fun x => decide (x.2.1 ≠ nd)) = ((xs.take k).filter fun x => decide (x.2.1 ≠ nd)) ++ (if xs[k].2.1 = nd then [] else [xs[k]]) := by
        rw [List.take_succ_eq_append_getElem hlt, List.filter_append]
        congr 1
        by_cases e : xs[k].2.1 = nd <;> simp [e]
      have hLb : L ≤ 1000000 := by
        have := List.length_filter_le (fun x : Ix => decide (x.2.1 ≠ nd)) (xs.take k)
        have := List.length_take_le k xs
        omega
      have hcs : icsCells [xs[k]] = [.int .i64 xs[k].2.1, xs[k].1] := rfl
      obtain ⟨rfl, rfl⟩ : la = some ⟨b, off, none⟩ ∧ lc = cap' := by
        simp at e0; exact ⟨e0.1, e0.2⟩
      rw [e3] at c2 hcs
      generalize hF : ((xs.take k).filter fun x => decide (x.2.1 ≠ nd)) = F at *
      by_cases hid : xs[k].2.1 = nd
      · rw [if_pos hid, List.append_nil] at hft
        rw [hid] at c1
        replace hid := Lib.hid hid
        replace hft := Lib.hid hft
        replace hF := Lib.hid hF
        replace hcs := Lib.hid hcs
        replace hL := Lib.hid hL
        replace hown := Lib.hid hown
        replace hm := Lib.hid hm
        replace e3 := Lib.hid e3
        go_wp2
        go_roundw
        case rel => exact ⟨k + 1, L, va, vcap, by omega, by go_num, rfl, by rw [hft.out]; exact hL.out, by rw [hft.out]; exact hown.out, hm.out⟩
        case measure => simp [RowKit.intOf]; omega
      · rw [if_neg hid] at hft
        have hne : ¬ ((xs[k].2.1 : Nat) : Int) = (nd : Int) := by omega
        have hneb : (((xs[k].2.1 : Nat) : Int) != (nd : Int)) = true := by simpa using hne
        generalize xs[k].2.2.length = xl at *
        generalize hxi : xs[k].2.1 = xi at *
        have hmA : Mod Nowhere wr (wr.alloc (.cells #[.int .i64 xi, .slice xa xl xc] 126)) := (Mod.refl _ wr).alloc _
        have hownA := owns_mod hown hmA (fun _ _ => id)
        have hmwA := hm.trans hmA
        have hsz := hm.size
        replace hxi := Lib.hid hxi
        replace hid := Lib.hid hid
        replace hft := Lib.hid hft
        replace hF := Lib.hid hF
        replace hcs := Lib.hid hcs
        replace hL := Lib.hid hL
        replace hownA := Lib.hid hownA
        replace hmwA := Lib.hid hmwA
        replace hm := Lib.hid hm
        replace e3 := Lib.hid e3
        replace hne := Lib.hid hne
        clear hown hmA
        go_wp2_with (at_builtin; refine wpList_append_lies _ rfl _ _ 51 rfl w.heap.size 126 i0 (.agg #[.int .i64 0, .slice none 0 0]) 2 32 Tryz.underlying51 hi0 hz0 hz1 hz2 rfl (by decide) _ L _ (by rfl) hownA.out ⟨wr.heap.size, 0, none⟩ 1 1 [.int .i64 (xi : Int), .slice xa xl xc] (by rfl) rfl (cells_new wr _ _) (by simp [Value.oneCell']) (by decide) (by unfold maxLen; omega) (by omega) (by simp; omega) _ rfl ?_; intro g cap w2 hown2 hgrow2 hat2 hlt2; have hM2 : Mod Nowhere w w2 := hmwA.out.step ((Mod.refl (Above w.heap.size) _).app hownA.out hgrow2) (fun i hi e => by have e : w.heap.size ≤ i := e; omega); clear hgrow2 hat2; replace hown2 := Lib.hid hown2; replace hM2 := Lib.hid hM2)
        go_roundw
        case rel => exact ⟨k + 1, L + 1, _, _, by omega, by go_num, rfl, by rw [hft.out, List.length_append, ← hL.out]; rfl, by rw [hft.out, icsCells_append, hcs.out]; exact hown2.out, hM2.out⟩
        case measure => simp [RowKit.intOf]; omega
    · obtain rfl : k = xs.length := by omega
      rw [List.take_length] at hown hL
      have hfin : ItPost w ((its xs).filter fun x => decide (x.1 ≠ nd)) (.returned (.slice va L vcap)) wr :=
        ⟨_, xs.filter fun x => decide (x.2.1 ≠ nd), rfl, h.out.of_owns (by rw [← hL]; exact hown) hm (fun y hy => (List.mem_filter.1 hy).1), by unfold its; rw [List.filter_map]; rfl, hm⟩
      replace hfin := Lib.hid hfin
      clear hown hL hm
      go_wp2
      go_ret
      exact hfin.out
def wtI (l : List It) : Nat := (l.map fun x => 16 + x.2.length).sum
theorem wtI_snoc (l : List It) (x : It) : wtI (l ++ [x]) = wtI l + (16 + x.2.length) := by simp [wtI]
theorem wtI_le : ∀ l : List It, (∀ x ∈ l, x.2.length ≤ 2048) → wtI l ≤ 2064 * l.length
  | [], _ => by simp [wtI]
  | x :: l, h => by
    have h1 := h x (by simp)
    have h2 := wtI_le l fun y hy => h y (by simp [hy])
    unfold wtI at *
    simp only [List.map_cons, List.sum_cons, List.length_cons]
    omega
set_option maxRecDepth 100000 in
set_option maxHeartbeats 1000000 in
theorem rWeight_ok {w : World} {v : Value} {xs : List Ix} (h : ISl w v xs) (hn : xs.length ≤ 1000000) (hl : ∀ x ∈ its xs, x.2.length ≤ 2048) :
    Calls Tryz.prog 106 #[v] w fun e w' => e = .returned (.int .i64 (wtI (its xs) : Nat)) ∧ w = w' := by
  obtain ⟨la, lc, rfl, h1, h2, -⟩ := h.sl.gen
  replace h := Lib.hid h
  replace hl := Lib.hid hl
  go_enter Tryz.func106, Tryz.ntmps106
  go_wp2
  go_loopw [3, 4] (fun n i wr => ∃ k : Nat, k ≤ xs.length ∧ i = .int .i64 k ∧ n = .int .i64 (wtI ((its xs).take k) : Nat) ∧ w = wr) (fun _ i _ => xs.length - (RowKit.intOf i).toNat)
  case atStart => exact ⟨0, by omega, rfl, rfl, rfl⟩
  case round =>
    obtain ⟨k, hk, rfl, rfl, rfl⟩ := hrel
    by_cases hlt : k < xs.length
    · obtain ⟨b, off, cap', xa, xc, e0, hb, _, _, c1, c2, e3⟩ := h.out.at_ hlt
      have hlk : k < (its xs).length := by rw [its_len]; exact hlt
      have hek : (its xs)[k] = xs[k].2 := by simp [its]
      have hns := wtI_snoc ((its xs).take k) (its xs)[k]
      rw [← List.take_succ_eq_append_getElem hlk, hek] at hns
      have hle := wtI_le ((its xs).take k) fun x hx => hl.out x (List.mem_of_mem_take hx)
      have htl : ((its xs).take k).length = k := by rw [List.length_take]; omega
      have hxl := hl.out _ (List.getElem_mem hlk)
      rw [hek] at hxl
      rw [htl] at hle
      obtain ⟨rfl, rfl⟩ : la = some ⟨b, off, none⟩ ∧ lc = cap' := by
        simp at e0; exact ⟨e0.1, e0.2⟩
      rw [e3] at c2
      generalize xs[k].2.2.length = xl at *
      generalize xs[k].2.1 = xi at *
      generalize wtI ((its xs).take k) = s at *
      replace hns := Lib.hid hns
      replace e3 := Lib.hid e3
      replace hek := Lib.hid hek
      replace htl := Lib.hid htl
      go_wp2
      go_roundw
      case rel => exact ⟨k + 1, by omega, by go_num, by rw [hns.out]; go_num, trivial⟩
      case measure => simp [RowKit.intOf]; omega
    · obtain rfl : k = xs.length := by omega
      have e : (its xs).take xs.length = its xs := by rw [← its_len, List.take_length]
      rw [e]
      replace e := Lib.hid e
      go_wp2
      go_ret
      exact ⟨rfl, rfl⟩
/-- A copy of data that were found, or nothing. -/
def FindPost13 (w : World) (o : Option (List Nat)) (e : Ending) (w' : World) : Prop :=
  ∃ v, e = .returned (.tuple #[v, .bool o.isSome]) ∧ DSl w' v (o.getD []) ∧ Mod Nowhere w w'
theorem find_hit {l : List It} {p : It → Bool} {k : Nat} (hk : k < l.length) (hno : (l.take k).find? p = none) (h : p l[k] = true) : l.find? p = some l[k] := by
  have e1 : l.take k ++ l.drop k = l := List.take_append_drop k l
  have e2 : (l.take k ++ l.drop k).find? p = some l[k] := by
    rw [List.find?_append, hno, Option.none_or, List.drop_eq_getElem_cons hk, List.find?_cons, h]
  rw [e1] at e2
  exact e2
theorem find_miss {l : List It} {p : It → Bool} {k : Nat} (hk : k < l.length) (hno : (l.take k).find? p = none) (h : p l[k] = false) : (l.take (k + 1)).find? p = none := by
  rw [List.take_succ_eq_append_getElem hk, List.find?_append, hno, Option.none_or, List.find?_cons, h]
  rfl
/-- append(v, u...), whether or not u has elements. -/
theorem append_sl {w : World} {base n m sz bytes : Nat} {t T ty : TypeId} {z : Value} {v u : Value} {xs ys : List Value} (ht : Tryz.prog.underlying t = some (.slice T)) (hi : (Tryz.prog.info? T).map (fun i => (i.zero, i.size, i.bytes)) = some (some z, sz, bytes)) (hzs : z.cells.size = sz) (hsz : 0 < sz)
    (hown : w.ownsRow base T sz v n xs) (hs : Sl w u T sz m ys) (h1 : ∀ y ∈ ys, y.oneCell' = true) (hmx : n + m ≤ maxLen) (hby : (n + m) * bytes ≤ 140737488355328) (hb : base ≤ w.heap.size) :
    ∃ va vcap w', (Builtin.append_ #[t, t] ty #[v, u]).run Tryz.prog w = .ok (.slice va (n + m) vcap) w' ∧ w'.ownsRow base T sz (.slice va (n + m) vcap) (n + m) (xs ++ ys) ∧ Mod (Above base) w w' := by
  obtain ⟨i0, hi0, hz0, hz1, hz2⟩ := info_parts hi
  by_cases hm : m = 0
  · subst hm
    obtain ⟨a, c, rfl, hc⟩ := owns_form hown
    obtain ⟨ua, uc, rfl, -, -⟩ := hs.len
    have hy : ys = [] := List.eq_nil_of_length_eq_zero (by rw [hs.1]; omega)
    subst hy
    refine ⟨a, c, w, run_append_empty (P := Tryz.prog) w t ty T i0 ht hi0 a ua n c uc hc, ?_, Mod.refl _ _⟩
    rw [List.append_nil]; exact hown
  · obtain ⟨b, off, cap, rfl, hbl, hm1, hm2, hc, _⟩ := hs.open (by omega)
    have hnews : ∀ j u, ys[j]? = some u → w.cell? ((⟨b, off, none⟩ : Addr).add j) = some u := fun j u hj => by
      have hjl := (List.getElem?_eq_some_iff.1 hj).1
      rw [add_lit, hc j (by rw [← hs.1]; exact hjl), List.getD_eq_getElem?_getD, hj]; rfl
    obtain ⟨g, gc, w', hr, ho, hg, _, _⟩ := run_append_lies (P := Tryz.prog) w t ty base T i0 z sz bytes ht hi0 hz0 hz1 hz2 hzs hsz v n xs hown ⟨b, off, none⟩ m cap ys (by rw [hs.1]) hnews h1 (by omega) hmx hby hb _ rfl
    exact ⟨_, gc, w', hr, ho, (Mod.refl _ w).app hown hg⟩
theorem run_empty_u8 (w : World) : (w.alloc (.cells #[] 5)).ownsRow w.heap.size 5 1 (.slice (some ⟨w.heap.size, 0, none⟩) 0 0) 0 [] :=
  owns_new w [] 5 w.heap.size 0 (Nat.le_refl _) rfl (by decide)
set_option maxRecDepth 100000 in
set_option maxHeartbeats 2000000 in
theorem rFind_ok {w : World} {v : Value} {xs : List Ix} (h : ISl w v xs) (hn : xs.length ≤ 1000000) (hl : ∀ x ∈ its xs, x.2.length ≤ 2048) (nd : Int) :
    Calls Tryz.prog 89 #[v, .int .i64 nd] w (FindPost13 w (((its xs).find? fun x => decide ((x.1 : Int) = nd)).map (·.2))) := by
  obtain ⟨i0, hi0, hz0, hz1, hz2⟩ := info_parts info_u8
  obtain ⟨la, lc, rfl, h1, h2, -⟩ := h.sl.gen
  replace h := Lib.hid h
  replace hl := Lib.hid hl
  go_enter Tryz.func89, Tryz.ntmps89
  go_wp2
  go_loopw [6] (fun i wr => ∃ k : Nat, k ≤ xs.length ∧ i = .int .i64 k ∧ ((its xs).take k).find? (fun x => decide ((x.1 : Int) = nd)) = none ∧ w = wr) (fun i _ => xs.length - (RowKit.intOf i).toNat)
  case atStart => exact ⟨0, by omega, rfl, rfl, rfl⟩
  case round =>
    obtain ⟨k, hk, rfl, hno, rfl⟩ := hrel
    by_cases hlt : k < xs.length
    · obtain ⟨b, off, cap', xa, xc, e0, hb, _, _, c1, c2, e3⟩ := h.out.at_ hlt
      have hlk : k < (its xs).length := by rw [its_len]; exact hlt
      have hek : (its xs)[k] = xs[k].2 := by simp [its]
      have hxl := hl.out _ (List.getElem_mem hlk)
      rw [hek] at hxl
      have hdat := h.out.data _ (List.getElem_mem hlt)
      have hhit := fun he => find_hit (p := fun x : It => decide ((x.1 : Int) = nd)) hlk hno he
      have hmiss := fun he => find_miss (p := fun x : It => decide ((x.1 : Int) = nd)) hlk hno he
      rw [hek] at hhit hmiss
      obtain ⟨rfl, rfl⟩ : la = some ⟨b, off, none⟩ ∧ lc = cap' := by
        simp at e0; exact ⟨e0.1, e0.2⟩
      rw [e3] at c2 hdat
      generalize hxx : xs[k].2 = xx at *
      obtain ⟨xi, xd⟩ := xx
      dsimp only at *
      by_cases hid : ((xi : Nat) : Int) = nd
      · have heq : (((xi : Nat) : Int) == nd) = true := by simpa using hid
        have hres := hhit (decide_eq_true hid)
        have hfin : ∀ u W, DSl W u xd → Mod Nowhere w W → FindPost13 w (((its xs).find? fun x => decide ((x.1 : Int) = nd)).map (·.2)) (.returned (.tuple #[u, .bool true])) W := fun u W hd hm => by
          rw [hres]; exact ⟨u, rfl, hd, hm⟩
        have hown := run_empty_u8 w
        have hm0 : Mod Nowhere w (w.alloc (.cells #[] 5)) := (Mod.refl _ w).alloc _
        have hdat1 : DSl (w.alloc (.cells #[] 5)) (.slice xa xd.length xc) xd := hdat.fresh hm0
        obtain ⟨va, vc, w2, hrun, hown2, hm2⟩ := append_sl (ty := 58) Tryz.underlying58 info_u8 rfl (by decide) hown hdat1 (one_u8 xd) (by unfold maxLen; omega) (by omega) (by simp)
        simp only [Nat.zero_add, List.nil_append] at hrun hown2
        have hfin2 := hfin _ w2 (Sl.of_owns hown2) (hm0.step hm2 fun i hi e => by have e : w.heap.size ≤ i := e; omega)
        replace hfin2 := Lib.hid hfin2
        clear hhit hmiss hres hown hown2 hm2 hm0 hdat1 hfin
        obtain ⟨xl, hxle⟩ : ∃ xl, xd.length = xl := ⟨_, rfl⟩
        rw [hxle] at hrun c2 hfin2
        replace hxle := Lib.hid hxle
        replace hxx := Lib.hid hxx
        replace hno := Lib.hid hno
        replace e3 := Lib.hid e3
        replace hek := Lib.hid hek
        replace hid := Lib.hid hid
        replace hdat := Lib.hid hdat
        go_wp2_with (at_builtin; refine Lib.wpList_append_run _ rfl _ _ _ _ rfl _ _ (by rfl) (by rfl) _ _ hrun ?_; clear hrun)
        go_ret2
        exact hfin2.out
      · have hne : (((xi : Nat) : Int) == nd) = false := by simpa using hid
        have hno2 := hmiss (decide_eq_false hid)
        clear hhit hmiss hdat
        replace hxx := Lib.hid hxx
        replace hno := Lib.hid hno
        replace hno2 := Lib.hid hno2
        replace e3 := Lib.hid e3
        replace hek := Lib.hid hek
        replace hid := Lib.hid hid
        go_wp2
        go_roundw
        case rel => exact ⟨k + 1, by omega, by go_num, hno2.out, trivial⟩
        case measure => simp [RowKit.intOf]; omega
    · obtain rfl : k = xs.length := by omega
      have e : (its xs).take xs.length = its xs := by rw [← its_len, List.take_length]
      rw [e] at hno
      have hfin : FindPost13 w (((its xs).find? fun x => decide ((x.1 : Int) = nd)).map (·.2)) (.returned (.tuple #[.slice none 0 0, .bool false])) w := by
        rw [hno]; exact ⟨_, rfl, Sl.nil _ _ _, Mod.refl _ _⟩
      replace hfin := Lib.hid hfin
      replace e := Lib.hid e
      replace hno := Lib.hid hno
      go_wp2
      go_ret2
      exact hfin.out
end Go.Proofs.YtikkodanpbmmkaaGreat
/-
  Bytes from any slice.
-/
namespace Go.Proofs.YtikkodanpbmmkaaGreat
open Go.RowKit
open Jn Vn
attribute [local go_sem] Oper.semAt_some

/-- The slice v reads as the bytes of d, whatever block it lies in. -/
def Src (w : World) (v : Value) (d : List Nat) : Prop :=
  ∃ a c, v = .slice a d.length c ∧ d.length ≤ c ∧ c ≤ maxLen ∧ (0 < d.length → ∃ b off, a = some ⟨b, off, none⟩ ∧ b < w.heap.size ∧ ∀ i, i < d.length → w.cell? ⟨b, off + i, none⟩ = some (.int .u8 (d.getD i 0 : Nat)))
theorem Src.fresh {w w' : World} {v : Value} {d : List Nat} (h : Src w v d) (hm : Mod Nowhere w w') : Src w' v d := by
  obtain ⟨a, c, e, h1, h2, h3⟩ := h
  refine ⟨a, c, e, h1, h2, fun h0 => ?_⟩
  obtain ⟨b, off, e1, hb, hc⟩ := h3 h0
  exact ⟨b, off, e1, Nat.lt_of_lt_of_le hb hm.size, fun i hi => (hm.cell (p := ⟨b, off + i, none⟩) hb id).trans (hc i hi)⟩
theorem u8s_at (d : List Nat) (i : Nat) (h : i < d.length) : (u8s d).getD i default = .int .u8 (d.getD i 0 : Nat) := by
  unfold u8s
  rw [List.getD_eq_getElem?_getD, List.getD_eq_getElem?_getD, List.getElem?_map, List.getElem?_eq_getElem h]
  rfl
theorem DSl.src {w : World} {v : Value} {d : List Nat} (h : DSl w v d) : Src w v d := by
  obtain ⟨a, c, rfl, h1, h2, -⟩ := Sl.gen h
  refine ⟨a, c, rfl, h1, h2, fun h0 => ?_⟩
  obtain ⟨b, off, cap, e, hb, _, _, hc, _⟩ := Sl.open h (by omega)
  obtain ⟨rfl, _, _⟩ : a = some ⟨b, off, none⟩ ∧ d.length = d.length ∧ c = cap := by simpa using e
  refine ⟨b, off, rfl, hb, fun i hi => ?_⟩
  rw [hc i (by omega), u8s_at d i hi]
/-- An empty row of bytes takes up the bytes of a source. -/
theorem append_src {w : World} {base : Nat} {v u : Value} {d : List Nat} (hown : w.ownsRow base 5 1 v 0 []) (hs : Src w u d) (hl : d.length ≤ 1099511627776) (hb : base ≤ w.heap.size) (ty : TypeId) :
    ∃ va vcap w', (Builtin.append_ #[58, 58] ty #[v, u]).run Tryz.prog w = .ok (.slice va d.length vcap) w' ∧ w'.ownsRow base 5 1 (.slice va d.length vcap) d.length (u8s d) ∧ Mod (Above base) w w' := by
  obtain ⟨i0, hi0, hz0, hz1, hz2⟩ := info_parts info_u8
  obtain ⟨ua, uc, rfl, hc1, hc2, hcell⟩ := hs
  by_cases hm : d.length = 0
  · obtain ⟨a, c, rfl, hc⟩ := owns_form hown
    have hy : d = [] := List.eq_nil_of_length_eq_zero hm
    subst hy
    exact ⟨a, c, w, run_append_empty (P := Tryz.prog) w 58 ty 5 i0 Tryz.underlying58 hi0 a ua 0 c uc hc, hown, Mod.refl _ _⟩
  · obtain ⟨b, off, rfl, hbl, hcs⟩ := hcell (by omega)
    have hul : (u8s d).length = d.length := by simp [u8s]
    have hnews : ∀ j x, (u8s d)[j]? = some x → w.cell? ((⟨b, off, none⟩ : Addr).add j) = some x := fun j x hj => by
      have hjl := (List.getElem?_eq_some_iff.1 hj).1
      rw [hul] at hjl
      rw [add_lit, hcs j hjl, ← u8s_at d j hjl, List.getD_eq_getElem?_getD, hj]; rfl
    obtain ⟨g, gc, w', hr, ho, hg, _, _⟩ := run_append_lies (P := Tryz.prog) w 58 ty base 5 i0 (.int .u8 0) 1 1 Tryz.underlying58 hi0 hz0 hz1 hz2 rfl (by decide) v 0 [] hown ⟨b, off, none⟩ d.length uc (u8s d) (by rw [hul]; omega) hnews (one_u8 d) (by omega) (by unfold maxLen; omega) (by omega) hb _ rfl
    rw [Nat.zero_add] at hr ho
    rw [List.nil_append] at ho
    exact ⟨_, gc, w', hr, ho, (Mod.refl _ w).app hown hg⟩
set_option maxRecDepth 100000 in
set_option maxHeartbeats 400000 in
theorem Clone_src {w : World} {v : Value} {d : List Nat} (h : Src w v d) (hn : d.length ≤ 1099511627776) :
    Calls Tryz.prog 88 #[v] w fun e w' => ∃ va vc, e = .returned (.slice va d.length vc) ∧ w'.ownsRow w.heap.size 5 1 (.slice va d.length vc) d.length (u8s d) ∧ Mod Nowhere w w' := by
  have hm0 : Mod Nowhere w (w.alloc (.cells #[] 5)) := (Mod.refl _ w).alloc _
  obtain ⟨va, vc, w2, r1, ho, hm⟩ := append_src (run_empty_u8 w) (h.fresh hm0) hn (by simp) 58
  have hm2 : Mod Nowhere w w2 := hm0.step hm fun i hi e => by have e : w.heap.size ≤ i := e; omega
  obtain ⟨a, c, rfl, h1, h2, h3⟩ := h
  cases a with
  | none =>
    have hd : d = [] := by
      by_cases h0 : 0 < d.length
      · obtain ⟨b, off, e, _⟩ := h3 h0; cases e
      · exact List.eq_nil_of_length_eq_zero (by omega)
    subst hd
    have heq := fun w => Lib.run_eql_slice_nil (P := Tryz.prog) w 58 5 none 0 c 0 0 Tryz.underlying58
    clear r1 ho hm hm2 h3
    go_enter Tryz.func88, Tryz.ntmps88
    go_wp2
    go_ret
    exact ⟨_, _, rfl, World.ownsRow_nil _ _ _ _, Mod.refl _ _⟩
  | some x =>
    have heq := fun w => Lib.run_eql_slice_nil (P := Tryz.prog) w 58 5 (some x) d.length c 0 0 Tryz.underlying58
    have hfin : ∃ va' vc', (Ending.returned (.slice va d.length vc)) = .returned (.slice va' d.length vc') ∧ w2.ownsRow w.heap.size 5 1 (.slice va' d.length vc') d.length (u8s d) ∧ Mod Nowhere w w2 := ⟨_, _, rfl, ho, hm2⟩
    generalize d.length = n at *
    replace hfin := Lib.hid hfin
    replace h3 := Lib.hid h3
    clear ho hm hm2
    go_enter Tryz.func88, Tryz.ntmps88
    go_wp2_with (at_builtin; refine Lib.wpList_append_run _ rfl _ _ _ _ rfl _ _ (by rfl) (by rfl) _ _ r1 ?_; clear r1)
    go_ret
    exact hfin.out
end Go.Proofs.YtikkodanpbmmkaaGreat
/-
  The reference of the vault: setting an item.
-/
namespace Go.Proofs.YtikkodanpbmmkaaGreat
open Go.RowKit
open Jn Vn
attribute [local go_sem] Oper.semAt_some

theorem its_append (xs ys : List Ix) : its (xs ++ ys) = its xs ++ its ys := by simp [its]
/-- What an append changes: blocks of the row's own type. -/
theorem app_typed {w w' : World} {base sz n : Nat} {T : TypeId} {v : Value} {xs : List Value} (hown : w.ownsRow base T sz v n xs) (hg : w.grownBy w' v.ownBlock) :
    Mod (fun k => v.ownBlock = some k) w w' ∧ (∀ k, v.ownBlock = some k → base ≤ k) ∧ ∀ U, U ≠ T → Shun (fun k => v.ownBlock = some k) w U := by
  refine ⟨(Mod.refl _ w).grown hg (fun k hk _ => hk), fun k hk => (hown.lt k hk).1, fun U hU k hk cs hb => ?_⟩
  rcases hown.2 with ⟨rfl, _⟩ | ⟨g, cap, cur, rfl, _, hh, _⟩
  · simp [Value.ownBlock] at hk
  · simp [Value.ownBlock] at hk
    subst hk
    have := hb.symm.trans hh
    simp at this
    exact hU this.2
/-- append(v, u...), whether or not u has elements; only blocks of the row's type change. -/
theorem append_ty {w : World} {base n m sz bytes : Nat} {t T ty : TypeId} {z : Value} {v u : Value} {xs ys : List Value} (ht : Tryz.prog.underlying t = some (.slice T)) (hi : (Tryz.prog.info? T).map (fun i => (i.zero, i.size, i.bytes)) = some (some z, sz, bytes)) (hzs : z.cells.size = sz) (hsz : 0 < sz)
    (hown : w.ownsRow base T sz v n xs) (hs : Sl w u T sz m ys) (h1 : ∀ y ∈ ys, y.oneCell' = true) (hmx : n + m ≤ maxLen) (hby : (n + m) * bytes ≤ 140737488355328) (hb : base ≤ w.heap.size) :
    ∃ va vcap w' S, (Builtin.append_ #[t, t] ty #[v, u]).run Tryz.prog w = .ok (.slice va (n + m) vcap) w' ∧ w'.ownsRow base T sz (.slice va (n + m) vcap) (n + m) (xs ++ ys) ∧ Mod S w w' ∧ (∀ k, S k → base ≤ k) ∧ ∀ U, U ≠ T → Shun S w U := by
  obtain ⟨i0, hi0, hz0, hz1, hz2⟩ := info_parts hi
  by_cases hm : m = 0
  · subst hm
    obtain ⟨a, c, rfl, hc⟩ := owns_form hown
    obtain ⟨ua, uc, rfl, -, -⟩ := hs.len
    have hy : ys = [] := List.eq_nil_of_length_eq_zero (by rw [hs.1]; omega)
    subst hy
    refine ⟨a, c, w, Nowhere, run_append_empty (P := Tryz.prog) w t ty T i0 ht hi0 a ua n c uc hc, ?_, Mod.refl _ _, fun k h => h.elim, fun U _ => Shun.none _ _⟩
    rw [List.append_nil]; exact hown
  · obtain ⟨b, off, cap, rfl, hbl, hm1, hm2, hc, _⟩ := hs.open (by omega)
    have hnews : ∀ j u, ys[j]? = some u → w.cell? ((⟨b, off, none⟩ : Addr).add j) = some u := fun j u hj => by
      have hjl := (List.getElem?_eq_some_iff.1 hj).1
      rw [add_lit, hc j (by rw [← hs.1]; exact hjl), List.getD_eq_getElem?_getD, hj]; rfl
    obtain ⟨g, gc, w', hr, ho, hg, _, _⟩ := run_append_lies (P := Tryz.prog) w t ty base T i0 z sz bytes ht hi0 hz0 hz1 hz2 hzs hsz v n xs hown ⟨b, off, none⟩ m cap ys (by rw [hs.1]) hnews h1 (by omega) hmx hby hb _ rfl
    obtain ⟨a1, a2, a3⟩ := app_typed hown hg
    exact ⟨_, gc, w', _, hr, ho, a1, a2, a3⟩
/-- A row of items that the call owns. -/
structure IOwn (w : World) (B : Nat) (va : Option Addr) (L vcap : Nat) (ys : List Ix) : Prop where
  len : L = ys.length
  own : w.ownsRow B 126 2 (.slice va L vcap) L (icsCells ys)
  data : ∀ y ∈ ys, DSl w y.1 y.2.2
theorem IOwn.isl {w : World} {B : Nat} {va : Option Addr} {L vcap : Nat} {ys : List Ix} (h : IOwn w B va L vcap ys) : ISl w (.slice va L vcap) ys := by
  obtain ⟨h1, h2, h3⟩ := h
  subst h1
  exact ⟨Sl.of_owns h2, h3⟩
theorem IOwn.fresh {w w' : World} {B : Nat} {va : Option Addr} {L vcap : Nat} {ys : List Ix} (h : IOwn w B va L vcap ys) (hm : Mod Nowhere w w') : IOwn w' B va L vcap ys :=
  ⟨h.len, owns_mod h.own hm (fun _ _ => id), fun y hy => (h.data y hy).fresh hm⟩
theorem IOwn.nil (w : World) (B : Nat) : IOwn w B none 0 0 [] := ⟨rfl, World.ownsRow_nil _ _ _ _, fun y hy => (List.not_mem_nil hy).elim⟩
/-- append(out, x): one item more. -/
theorem IOwn.app {w : World} {B : Nat} {va : Option Addr} {L vcap : Nat} {ys : List Ix} (h : IOwn w B va L vcap ys) (hB : B ≤ w.heap.size) {x : Ix} {cb : Nat} (hcb : Blk w cb (icCells x) 126) (hx : DSl w x.1 x.2.2) (hL : L ≤ 1000000) (ty : TypeId) :
    ∃ va' vcap' w', (Builtin.append_ #[51, 51] ty #[.slice va L vcap, .slice (some ⟨cb, 0, none⟩) 1 1]).run Tryz.prog w = .ok (.slice va' (L + 1) vcap') w' ∧ IOwn w' B va' (L + 1) vcap' (ys ++ [x]) ∧ Mod (Above B) w w' := by
  obtain ⟨a, c, e, -⟩ := Sl.len hx
  have hs : Sl w (.slice (some ⟨cb, 0, none⟩) 1 1) 126 2 1 (icCells x) := Sl.whole hcb rfl (by decide)
  obtain ⟨va', vcap', w', S, h1, h2, h3, h4, h5⟩ := append_ty (ty := ty) Tryz.underlying51 info_item rfl (by decide) h.own hs (by
    intro u hu
    simp only [icCells, List.mem_cons, List.not_mem_nil, or_false] at hu
    rcases hu with rfl | rfl
    · rfl
    · rw [e]; rfl) (by unfold maxLen; omega) (by omega) hB
  refine ⟨va', vcap', w', h1, ⟨by rw [List.length_append, ← h.len]; rfl, by rw [icsCells_append, show icsCells [x] = icCells x by simp [icsCells]]; exact h2, fun y hy => ?_⟩, h3.mono fun k _ hk => h4 k hk⟩
  have hsh := h5 5 (by decide)
  rcases List.mem_append.1 hy with e' | e'
  · exact (h.data y e').mod h3 hsh
  · rw [List.mem_singleton.1 e']; exact hx.mod h3 hsh
/-- A copy of data: append of a new empty row of bytes. -/
theorem copy_u8 {w : World} {u : Value} {d : List Nat} (hd : Src w u d) (hl : d.length ≤ 1099511627776) (ty : TypeId) :
    ∃ va vcap w', (Builtin.append_ #[58, 58] ty #[.slice (some ⟨w.heap.size, 0, none⟩) 0 0, u]).run Tryz.prog (w.alloc (.cells #[] 5)) = .ok (.slice va d.length vcap) w' ∧ DSl w' (.slice va d.length vcap) d ∧ Mod Nowhere w w' := by
  have hm0 : Mod Nowhere w (w.alloc (.cells #[] 5)) := (Mod.refl _ w).alloc _
  obtain ⟨va, vc, w2, hrun, hown2, hm2⟩ := append_src (run_empty_u8 w) (hd.fresh hm0) hl (by simp) ty
  exact ⟨va, vc, w2, hrun, Sl.of_owns hown2, hm0.step hm2 fun i hi e => by have e : w.heap.size ≤ i := e; omega⟩
theorem its_any (xs : List Ix) (nd : Nat) : (its xs).any (fun x => decide (nd ≤ x.1)) = xs.any fun x => decide (nd ≤ x.2.1) := by unfold its; rw [List.any_map]; rfl
/-- What putting a copy of the data at the row's end does. -/
theorem put_copy {w W : World} {ua : Option Addr} {dl uc nd : Nat} {d : List Nat} (hu : Src w (.slice ua dl uc) d) (hdl : d.length = dl) (hd : dl ≤ 2048) (hm : Mod Nowhere w W) {va : Option Addr} {L vcap : Nat} {ys : List Ix} (ho : IOwn W w.heap.size va L vcap ys) (hL : L ≤ 200001) :
    ∃ (ca : Option Addr) (cc : Nat) (W1 : World) (va' : Option Addr) (vcap' : Nat) (W2 : World),
      (Builtin.append_ #[58, 58] 58 #[.slice (some ⟨W.heap.size, 0, none⟩) 0 0, .slice ua dl uc]).run Tryz.prog (W.alloc (.cells #[] 5)) = .ok (.slice ca dl cc) W1 ∧
      (Builtin.append_ #[51, 51] 51 #[.slice va L vcap, .slice (some ⟨W1.heap.size, 0, none⟩) 1 1]).run Tryz.prog (W1.alloc (.cells #[.int .i64 nd, .slice ca dl cc] 126)) = .ok (.slice va' (L + 1) vcap') W2 ∧
      IOwn W2 w.heap.size va' (L + 1) vcap' (ys ++ [(.slice ca dl cc, (nd, d))]) ∧ Mod Nowhere w W2 := by
  subst hdl
  obtain ⟨ca, cc, W1, r1, hd1, hm1⟩ := copy_u8 (hu.fresh hm) (by omega) 58
  have hm2 : Mod Nowhere W1 (W1.alloc (.cells #[.int .i64 nd, .slice ca d.length cc] 126)) := (Mod.refl _ W1).alloc _
  have hcb : Blk (W1.alloc (.cells #[.int .i64 nd, .slice ca d.length cc] 126)) W1.heap.size (icCells (.slice ca d.length cc, (nd, d))) 126 := Blk.new W1 _ _
  obtain ⟨va', vc', W2, r2, ho2, hm3⟩ := IOwn.app ((ho.fresh hm1).fresh hm2) (Nat.le_trans hm.size (Nat.le_trans hm1.size hm2.size)) hcb (hd1.fresh hm2) (by omega) 51
  exact ⟨ca, cc, W1, va', vc', W2, r1, r2, ho2, ((hm.trans hm1).trans hm2).above hm3 (Nat.le_refl _)⟩
/-- What putting an item of another list at the row's end does. -/
theorem put_item {w W : World} {v : Value} {xs : List Ix} (h : ISl w v xs) (hm : Mod Nowhere w W) {k : Nat} (hk : k < xs.length) {va : Option Addr} {L vcap : Nat} {ys : List Ix} (ho : IOwn W w.heap.size va L vcap ys) (hL : L ≤ 200001) :
    ∃ (va' : Option Addr) (vcap' : Nat) (W2 : World),
      (Builtin.append_ #[51, 51] 51 #[.slice va L vcap, .slice (some ⟨W.heap.size, 0, none⟩) 1 1]).run Tryz.prog (W.alloc (.cells #[.int .i64 xs[k].2.1, xs[k].1] 126)) = .ok (.slice va' (L + 1) vcap') W2 ∧
      IOwn W2 w.heap.size va' (L + 1) vcap' (ys ++ [xs[k]]) ∧ Mod Nowhere w W2 := by
  have hm2 : Mod Nowhere W (W.alloc (.cells #[.int .i64 xs[k].2.1, xs[k].1] 126)) := (Mod.refl _ W).alloc _
  have hcb : Blk (W.alloc (.cells #[.int .i64 xs[k].2.1, xs[k].1] 126)) W.heap.size (icCells xs[k]) 126 := Blk.new W _ _
  obtain ⟨va', vc', W2, r2, ho2, hm3⟩ := IOwn.app (ho.fresh hm2) (Nat.le_trans hm.size hm2.size) hcb (((h.data _ (List.getElem_mem hk)).fresh hm).fresh hm2) (by omega) 51
  exact ⟨va', vc', W2, r2, ho2, (hm.trans hm2).above hm3 (Nat.le_refl _)⟩
set_option maxRecDepth 100000 in
set_option maxHeartbeats 8000000 in
theorem rSet13_ok {w : World} {v u : Value} {xs : List Ix} {d : List Nat} (h : ISl w v xs) (hs : Srt (its xs)) (hn : xs.length ≤ 100000) (nd : Nat) (h4 : nd ≤ 4096) (hu : Src w u d) (hd : d.length ≤ 2048) :
    Calls Tryz.prog 105 #[v, .int .i64 nd, u] w (ItPost w (setAll nd d (its xs))) := by
  obtain ⟨la, lc, rfl, h1, h2, -⟩ := h.sl.gen
  have hu0 := hu
  obtain ⟨ua, uc, rfl, -⟩ := hu
  obtain ⟨dl, hdl⟩ : ∃ dl, d.length = dl := ⟨_, rfl⟩
  rw [hdl] at hu0 hd ⊢
  replace h := Lib.hid h
  have hu := Lib.hid hu0
  clear hu0
  replace hs := Lib.hid hs
  replace hdl := Lib.hid hdl
  go_enter Tryz.func105, Tryz.ntmps105
  go_wp2
  go_loopw [7, 8, 9] (fun v dn i wr => ∃ (k L : Nat) (va : Option Addr) (vcap : Nat) (ys : List Ix), k ≤ xs.length ∧ i = .int .i64 k ∧ v = .slice va L vcap ∧ dn = .bool (((its xs).take k).any fun x => decide (nd ≤ x.1)) ∧ L ≤ 2 * k ∧ its ys = setPart nd d ((its xs).take k) ∧ IOwn wr w.heap.size va L vcap ys ∧ Mod Nowhere w wr) (fun _ _ i _ => xs.length - (RowKit.intOf i).toNat)
  case atStart => exact ⟨0, 0, none, 0, [], by omega, rfl, rfl, rfl, by omega, rfl, IOwn.nil _ _, Mod.refl _ _⟩
  case round =>
    obtain ⟨k, L, va, vcap, ys, hk, rfl, rfl, rfl, hL, hys, hown, hm⟩ := hrel
    by_cases hlt : k < xs.length
    · obtain ⟨b, off, cap', xa, xc, e0, hb, _, _, c1, c2, e3⟩ := (h.out.fresh hm).at_ hlt
      obtain ⟨rfl, rfl⟩ : la = some ⟨b, off, none⟩ ∧ lc = cap' := by
        simp at e0; exact ⟨e0.1, e0.2⟩
      have hlk : k < (its xs).length := by rw [its_len]; exact hlt
      have hek : (its xs)[k] = xs[k].2 := by simp [its]
      have htk : (its xs).take (k + 1) = (its xs).take k ++ [xs[k].2] := by rw [List.take_succ_eq_append_getElem hlk, hek]
      have hst : Srt ((its xs).take k ++ [xs[k].2]) := by rw [← htk]; exact List.Pairwise.sublist (List.take_sublist _ _) hs.out
      by_cases hdn : ((its xs).take k).any (fun x => decide (nd ≤ x.1)) = true
      · -- the new item is there already
        obtain ⟨s1, s2, s3⟩ := setPart_rest (b := d) hst hdn
        obtain ⟨va', vc', W2, r3, ho2, hm2⟩ := put_item h.out hm hlt hown (by omega)
        have hrel2 : its (ys ++ [xs[k]]) = setPart nd d ((its xs).take (k + 1)) := by rw [its_append, hys, htk, s1]; rfl
        have hdn2 : ((its xs).take (k + 1)).any (fun x => decide (nd ≤ x.1)) = true := by rw [htk]; exact s2
        rw [e3] at c2 r3
        generalize xs[k].2.2.length = xl at *
        generalize hxi : xs[k].2.1 = xi at *
        have hneb : (((xi : Nat) : Int) != (nd : Int)) = true := by simp; omega
        replace hrel2 := Lib.hid hrel2
        replace hdn2 := Lib.hid hdn2
        replace ho2 := Lib.hid ho2
        replace hm2 := Lib.hid hm2
        replace hm := Lib.hid hm
        replace hys := Lib.hid hys
        replace hown := Lib.hid hown
        replace e3 := Lib.hid e3
        replace hxi := Lib.hid hxi
        replace hek := Lib.hid hek
        replace htk := Lib.hid htk
        clear s1 s2 hst
        go_wp2_with (at_builtin; refine Lib.wpList_append_run _ rfl _ _ _ _ rfl _ _ (by rfl) (by rfl) _ _ r3 ?_; clear r3)
        go_roundw
        case rel => exact ⟨k + 1, L + 1, va', vc', _, by omega, by go_num, rfl, by rw [hdn2.out], by omega, hrel2.out, ho2.out, hm2.out⟩
        case measure => simp [RowKit.intOf]; omega
      · have hdf : ((its xs).take k).any (fun x => decide (nd ≤ x.1)) = false := by simpa using hdn
        by_cases hlo : xs[k].2.1 < nd
        · -- not yet
          obtain ⟨s1, s2⟩ := setPart_lt (b := d) hdf hlo
          obtain ⟨va', vc', W2, r3, ho2, hm2⟩ := put_item h.out hm hlt hown (by omega)
          have hrel2 : its (ys ++ [xs[k]]) = setPart nd d ((its xs).take (k + 1)) := by rw [its_append, hys, htk, s1]; rfl
          have hdn2 : ((its xs).take (k + 1)).any (fun x => decide (nd ≤ x.1)) = false := by rw [htk]; exact s2
          rw [e3] at c2 r3
          rw [hdf]
          generalize xs[k].2.2.length = xl at *
          generalize hxi : xs[k].2.1 = xi at *
          have hneb : (((xi : Nat) : Int) != (nd : Int)) = true := by simp; omega
          have hlob : ¬ (nd : Int) ≤ (xi : Int) := by omega
          replace hrel2 := Lib.hid hrel2
          replace hdn2 := Lib.hid hdn2
          replace hdf := Lib.hid hdf
          replace ho2 := Lib.hid ho2
          replace hm2 := Lib.hid hm2
          replace hm := Lib.hid hm
          replace hys := Lib.hid hys
          replace hown := Lib.hid hown
          replace e3 := Lib.hid e3
          replace hxi := Lib.hid hxi
          replace hek := Lib.hid hek
          replace htk := Lib.hid htk
          clear s1 s2 hst hdn
          go_wp2_with (at_builtin; refine Lib.wpList_append_run _ rfl _ _ _ _ rfl _ _ (by rfl) (by rfl) _ _ r3 ?_; clear r3)
          go_roundw
          case rel => exact ⟨k + 1, L + 1, va', vc', _, by omega, by go_num, rfl, by rw [hdn2.out], by omega, hrel2.out, ho2.out, hm2.out⟩
          case measure => simp [RowKit.intOf]; omega
        · obtain ⟨ca, cc, W1, va', vc', W2, r1, r2, ho2, hm2⟩ := put_copy (nd := nd) hu.out hdl.out hd hm hown (by omega)
          obtain ⟨_, _, _, _, _, e0', hb', _, _, c1', c2', e3'⟩ := (h.out.fresh hm2).at_ hlt
          obtain ⟨⟨rfl, rfl⟩, rfl⟩ : (b = _ ∧ off = _) ∧ lc = _ := by
            simp at e0'; exact e0'
          rw [e3] at c2 c2'
          have hlob : (nd : Int) ≤ ((xs[k].2.1 : Nat) : Int) := by omega
          by_cases hq : xs[k].2.1 = nd
          · -- it takes the place of this one
            obtain ⟨s1, s2⟩ := setPart_eq (b := d) hdf hq
            have hrel2 : its (ys ++ [(.slice ca dl cc, (nd, d))]) = setPart nd d ((its xs).take (k + 1)) := by rw [its_append, hys, htk, s1]; rfl
            have hdn2 : ((its xs).take (k + 1)).any (fun x => decide (nd ≤ x.1)) = true := by rw [htk]; exact s2
            rw [hdf]
            generalize xs[k].2.2.length = xl at *
            generalize hxi : xs[k].2.1 = xi at *
            subst hq
            replace hrel2 := Lib.hid hrel2
            replace hdn2 := Lib.hid hdn2
            replace hdf := Lib.hid hdf
            replace ho2 := Lib.hid ho2
            replace hm2 := Lib.hid hm2
            replace hm := Lib.hid hm
            replace hys := Lib.hid hys
            replace hown := Lib.hid hown
            replace e3 := Lib.hid e3
            replace e3' := Lib.hid e3'
            replace hxi := Lib.hid hxi
            replace hek := Lib.hid hek
            replace htk := Lib.hid htk
            clear s1 s2 hst hdn
            go_wp2_with (first
              | (at_builtin; refine Lib.wpList_append_run _ rfl _ _ _ _ rfl _ _ (by rfl) (by rfl) _ _ r1 ?_; clear r1)
              | (at_builtin; refine Lib.wpList_append_run _ rfl _ _ _ _ rfl _ _ (by rfl) (by rfl) _ _ r2 ?_; clear r2))
            go_roundw
            case rel => exact ⟨k + 1, L + 1, va', vc', _, by omega, by go_num, rfl, by rw [hdn2.out], by omega, hrel2.out, ho2.out, hm2.out⟩
            case measure => simp [RowKit.intOf]; omega
          · -- it comes before this one
            obtain ⟨s1, s2⟩ := setPart_gt (b := d) hdf (show nd < xs[k].2.1 by omega)
            obtain ⟨va3, vc3, W3, r3, ho3, hm3⟩ := put_item h.out hm2 hlt ho2 (by omega)
            have hrel2 : its ((ys ++ [(.slice ca dl cc, (nd, d))]) ++ [xs[k]]) = setPart nd d ((its xs).take (k + 1)) := by rw [its_append, its_append, hys, htk, s1]; rfl
            have hdn2 : ((its xs).take (k + 1)).any (fun x => decide (nd ≤ x.1)) = true := by rw [htk]; exact s2
            rw [e3] at r3
            rw [hdf]
            generalize xs[k].2.2.length = xl at *
            generalize hxi : xs[k].2.1 = xi at *
            have hneb : (((xi : Nat) : Int) != (nd : Int)) = true := by simp; omega
            replace hrel2 := Lib.hid hrel2
            replace hdn2 := Lib.hid hdn2
            replace hdf := Lib.hid hdf
            replace ho2 := Lib.hid ho2
            replace ho3 := Lib.hid ho3
            replace hm2 := Lib.hid hm2
            replace hm3 := Lib.hid hm3
            replace hm := Lib.hid hm
            replace hys := Lib.hid hys
            replace hown := Lib.hid hown
            replace e3 := Lib.hid e3
            replace e3' := Lib.hid e3'
            replace hxi := Lib.hid hxi
            replace hek := Lib.hid hek
            replace htk := Lib.hid htk
            clear s1 s2 hst hdn
            go_wp2_with (first
              | (at_builtin; refine Lib.wpList_append_run _ rfl _ _ _ _ rfl _ _ (by rfl) (by rfl) _ _ r1 ?_; clear r1)
              | (at_builtin; refine Lib.wpList_append_run _ rfl _ _ _ _ rfl _ _ (by rfl) (by rfl) _ _ r2 ?_; clear r2)
              | (at_builtin; refine Lib.wpList_append_run _ rfl _ _ _ _ rfl _ _ (by rfl) (by rfl) _ _ r3 ?_; clear r3))
            go_roundw
            case rel => exact ⟨k + 1, L + 1 + 1, va3, vc3, _, by omega, by go_num, rfl, by rw [hdn2.out], by omega, hrel2.out, ho3.out, hm3.out⟩
            case measure => simp [RowKit.intOf]; omega
    · obtain rfl : k = xs.length := by omega
      have e : (its xs).take xs.length = its xs := by rw [← its_len, List.take_length]
      rw [e] at hys ⊢
      cases hdn : (its xs).any fun x => decide (nd ≤ x.1)
      · obtain ⟨ca, cc, W1, va', vc', W2, r1, r2, ho2, hm2⟩ := put_copy (nd := nd) hu.out hdl.out hd hm hown (by omega)
        have hfin : ItPost w (setAll nd d (its xs)) (.returned (.slice va' (L + 1) vc')) W2 := ⟨_, _, rfl, ho2.isl, by rw [its_append, hys, ← setPart_not hdn]; rfl, hm2⟩
        replace hfin := Lib.hid hfin
        replace e := Lib.hid e
        replace hdn := Lib.hid hdn
        replace hys := Lib.hid hys
        replace hown := Lib.hid hown
        replace hm := Lib.hid hm
        clear ho2 hm2
        go_wp2_with (first
          | (at_builtin; refine Lib.wpList_append_run _ rfl _ _ _ _ rfl _ _ (by rfl) (by rfl) _ _ r1 ?_; clear r1)
          | (at_builtin; refine Lib.wpList_append_run _ rfl _ _ _ _ rfl _ _ (by rfl) (by rfl) _ _ r2 ?_; clear r2))
        go_ret
        exact hfin.out
      · have hfin : ItPost w (setAll nd d (its xs)) (.returned (.slice va L vcap)) wr := ⟨_, _, rfl, hown.isl, by rw [hys, setPart_done hdn], hm⟩
        replace hfin := Lib.hid hfin
        replace e := Lib.hid e
        replace hdn := Lib.hid hdn
        replace hys := Lib.hid hys
        replace hown := Lib.hid hown
        replace hm := Lib.hid hm
        go_wp2
        go_ret
        exact hfin.out
end Go.Proofs.YtikkodanpbmmkaaGreat
/-
  The reference of the vault: edits; what they make of items, and what they need.
-/
namespace Go.Proofs.YtikkodanpbmmkaaGreat
open Go.RowKit
open Jn Vn
attribute [local go_sem] Oper.semAt_some

/-- An edit in Go's memory has the cells of a change in another order. -/
def ecCells (x : Vx) : List Value := [.int .i64 x.2.1, .bool x.2.2.isNone, x.1]
def ecsCells (xs : List Vx) : List Value := xs.flatMap ecCells
structure ESl (w : World) (v : Value) (xs : List Vx) : Prop where
  sl : Sl w v 135 3 xs.length (ecsCells xs)
  data : ∀ x ∈ xs, DSl w x.1 (x.2.2.getD [])
theorem ESl.fresh {w w' : World} {v : Value} {xs : List Vx} (h : ESl w v xs) (hm : Mod Nowhere w w') : ESl w' v xs := ⟨h.sl.mod hm (fun _ _ => id), fun x hx => (h.data x hx).fresh hm⟩
theorem ecsCells_get : ∀ (xs : List Vx) (i : Nat) (h : i < xs.length), (ecsCells xs).getD (i * 3) default = .int .i64 xs[i].2.1 ∧ (ecsCells xs).getD (i * 3 + 1) default = .bool xs[i].2.2.isNone ∧ (ecsCells xs).getD (i * 3 + 2) default = xs[i].1
  | x :: xs, 0, _ => by simp [ecsCells, ecCells]
  | x :: xs, i + 1, h => by
    have := ecsCells_get xs i (by simpa using h)
    have e : ecsCells (x :: xs) = .int .i64 x.2.1 :: .bool x.2.2.isNone :: x.1 :: ecsCells xs := rfl
    rw [e, show (i + 1) * 3 = i * 3 + 1 + 1 + 1 by omega, show i * 3 + 1 + 1 + 1 + 1 = (i * 3 + 1) + 1 + 1 + 1 by omega, show i * 3 + 1 + 1 + 1 + 2 = (i * 3 + 2) + 1 + 1 + 1 by omega]
    simp only [List.getD_cons_succ, List.getElem_cons_succ]
    exact this
theorem ecsCells_append (xs ys : List Vx) : ecsCells (xs ++ ys) = ecsCells xs ++ ecsCells ys := by simp [ecsCells]
theorem ESl.at_ {w : World} {v : Value} {xs : List Vx} (h : ESl w v xs) {i : Nat} (hi : i < xs.length) : ∃ b off cap a c, v = .slice (some ⟨b, off, none⟩) xs.length cap ∧ b < w.heap.size ∧ xs.length ≤ cap ∧ cap ≤ maxLen ∧ w.cell? ⟨b, off + i * 3, none⟩ = some (.int .i64 xs[i].2.1) ∧ w.cell? ⟨b, off + i * 3 + 1, none⟩ = some (.bool xs[i].2.2.isNone) ∧ w.cell? ⟨b, off + i * 3 + 2, none⟩ = some xs[i].1 ∧ xs[i].1 = .slice a (xs[i].2.2.getD []).length c := by
  obtain ⟨b, off, cap, rfl, hb, h1, h2, hc, _⟩ := h.sl.open (by omega)
  obtain ⟨e1, e2, e4⟩ := ecsCells_get xs i hi
  obtain ⟨a, c, e3, _⟩ := Sl.len (h.data xs[i] (List.getElem_mem hi))
  have c1 := hc (i * 3) (by omega)
  have c2 := hc (i * 3 + 1) (by omega)
  have c3 := hc (i * 3 + 2) (by omega)
  rw [e1] at c1
  rw [e2] at c2
  rw [e4] at c3
  exact ⟨b, off, cap, a, c, rfl, hb, h1, h2, c1, by rw [Nat.add_assoc]; exact c2, by rw [Nat.add_assoc]; exact c3, e3⟩
theorem recs_take' (xs : List Vx) (k : Nat) : recs (xs.take k) = (recs xs).take k := by simp [recs, List.map_take]
theorem ItPost.from {w w1 w' : World} {l : List It} {e : Ending} (h : ItPost w1 l e w') (hm : Mod Nowhere w w1) : ItPost w l e w' := by
  obtain ⟨v, xs, a, b, c, d⟩ := h
  exact ⟨v, xs, a, b, c, hm.trans d⟩
theorem ItPost.mod {w w' : World} {l : List It} {e : Ending} (h : ItPost w l e w') : Mod Nowhere w w' := by
  obtain ⟨v, xs, a, b, c, d⟩ := h
  exact d
theorem ItPost.slice {w w' : World} {l : List It} {e : Ending} (h : ItPost w l e w') : ∃ a n c, e = .returned (.slice a n c) := by
  obtain ⟨v, xs, rfl, b, _⟩ := h
  obtain ⟨a, c, rfl, -⟩ := b.sl.gen
  exact ⟨a, _, c, rfl⟩
set_option maxRecDepth 100000 in
set_option maxHeartbeats 4000000 in
theorem rSeen_ok {w : World} {v u : Value} {xs : List Ix} {es : List Vx} {f : Items} (h : ISl w v xs) (hf : its xs = itemsOf f) (he : ESl w u es) (hok : ∀ r ∈ recs es, ROk r) (hn : es.length ≤ 10000) :
    Calls Tryz.prog 107 #[v, u] w (ItPost w (itemsOf (sets f (recs es)))) := by
  obtain ⟨la, lc, rfl, h1, h2, -⟩ := h.sl.gen
  obtain ⟨ua, uc, rfl, g1, g2, -⟩ := he.sl.gen
  have hst : ItPost w (itemsOf (sets f (recs (es.take 0)))) (.returned (.slice la xs.length lc)) w := ⟨_, xs, rfl, h, hf, Mod.refl _ _⟩
  replace hst := Lib.hid hst
  replace he := Lib.hid he
  replace hok := Lib.hid hok
  clear h hf
  go_enter Tryz.func107, Tryz.ntmps107
  go_wp2
  go_loopw [0, 5] (fun v i wr => ∃ (k : Nat), k ≤ es.length ∧ i = .int .i64 k ∧ ItPost w (itemsOf (sets f (recs (es.take k)))) (.returned v) wr) (fun _ i _ => es.length - (RowKit.intOf i).toNat)
  case atStart => exact ⟨0, by omega, rfl, hst.out⟩
  case round =>
    obtain ⟨k, hk, rfl, hp⟩ := hrel
    by_cases hlt : k < es.length
    · obtain ⟨v', xs', e1, hs', hi', hm'⟩ := hp
      obtain rfl := Ending.returned.inj e1
      obtain ⟨b, off, cap', xa, xc, e0, hb, _, _, c1, c2, c3, e3⟩ := (he.out.fresh hm').at_ hlt
      obtain ⟨rfl, rfl⟩ : ua = some ⟨b, off, none⟩ ∧ uc = cap' := by
        simp at e0; exact ⟨e0.1, e0.2⟩
      have htk : recs (es.take (k + 1)) = recs (es.take k) ++ [es[k].2] := recs_take es k hlt
      have hrk := hok.out es[k].2 (List.mem_map_of_mem (List.getElem_mem hlt))
      have hxl : xs'.length ≤ 4097 := by rw [← its_len, hi']; exact itemsOf_len _
      have hdat := (he.out.data _ (List.getElem_mem hlt)).fresh hm'
      obtain ⟨va, vc, rfl, -⟩ := hs'.sl.gen
      rw [e3] at c3 hdat
      obtain ⟨⟨xv, xid, xd⟩, hx⟩ : ∃ x, es[k] = x := ⟨_, rfl⟩
      rw [hx] at c1 c2 c3 hrk htk hdat
      dsimp only at c1 c2 c3 hrk htk hdat
      cases xd with
      | none =>
        have hD := rDrop_ok hs' (by omega) xid hrk.hi
        rw [hi', ← itemsOf_drop, ← sets_snoc, ← htk] at hD
        simp only [Option.isNone_none] at c2
        generalize (Option.getD (none : Option (List Nat)) []).length = xl at *
        replace hD := Lib.hid hD
        replace hm' := Lib.hid hm'
        replace hs' := Lib.hid hs'
        replace hi' := Lib.hid hi'
        replace htk := Lib.hid htk
        replace hx := Lib.hid hx
        replace e3 := Lib.hid e3
        replace hdat := Lib.hid hdat
        clear e1
        go_wp2_with fail
        refine hD.out.mono ?_
        rintro e w2 hp2
        obtain ⟨a2, n2, c2', rfl⟩ := hp2.slice
        have hp3 := hp2.from hm'.out
        replace hp3 := Lib.hid hp3
        clear hp2
        go_wp2
        go_roundw
        case rel => exact ⟨k + 1, by omega, by go_num, hp3.out⟩
        case measure => simp [RowKit.intOf]; omega
      | some d =>
        have hS := fun W (hm : Mod Nowhere wr W) => rSet13_ok (hs'.fresh hm) (by rw [hi']; exact srt_itemsOf _) (by omega) xid hrk.hi (hdat.fresh hm).src hrk.len
        simp only [Option.getD_some, Option.isNone_some] at hS c2 c3 hdat e3
        rw [hi', ← itemsOf_set (by have := hrk.hi; show xid < 4097; have : xid ≤ 4096 := this; omega), ← sets_snoc, ← htk] at hS
        have hSd := hS _ ((Mod.refl Nowhere wr).drew)
        have hmd : Mod Nowhere w wr.drew := hm'.drew
        generalize d.length = xl at *
        replace hSd := Lib.hid hSd
        replace hmd := Lib.hid hmd
        replace hS := Lib.hid hS
        replace hm' := Lib.hid hm'
        replace hs' := Lib.hid hs'
        replace hi' := Lib.hid hi'
        replace htk := Lib.hid htk
        replace hx := Lib.hid hx
        replace e3 := Lib.hid e3
        replace hdat := Lib.hid hdat
        clear e1
        have hki : (k : Int) < (es.length : Int) := by omega
        go_wp2
        go_region_held3 (fun w' => w'.cell? ⟨b, off + k * 3, none⟩ = some (.int .i64 xid) ∧ w'.cell? ⟨b, off + k * 3 + 2, none⟩ = some (.slice xa xl xc)) (simp [*, World.cell?_alloc_some, World.cell?_setCell_far, World.cell?_setCell_other])
          (first | (go_at_call 105; (with_reducible refine hSd.out.mono ?_); rintro e w2 hp2; obtain ⟨a2, n2, c2', rfl⟩ := hp2.slice; have hp3 := hp2.from hmd.out; have q1 : w2.cell? ⟨b, off + k * 3, none⟩ = some (.int .i64 xid) := (hp2.mod.cell (p := ⟨b, off + k * 3, none⟩) hb id).trans c1; have q2 : w2.cell? ⟨b, off + k * 3 + 2, none⟩ = some (.slice xa xl xc) := (hp2.mod.cell (p := ⟨b, off + k * 3 + 2, none⟩) hb id).trans c3; replace hp3 := Lib.hid hp3; clear hp2))
        go_wp2
        go_roundw
        case rel => exact ⟨k + 1, by omega, by go_num, hp3.out⟩
        case measure => simp [RowKit.intOf]; omega
    · obtain rfl : k = es.length := by omega
      rw [List.take_length] at hp
      replace hp := Lib.hid hp
      go_wp2
      go_ret
      exact hp.out
end Go.Proofs.YtikkodanpbmmkaaGreat
/-
  The reference of the vault: what edits need.
-/
namespace Go.Proofs.YtikkodanpbmmkaaGreat
open Go.RowKit
open Jn Vn
attribute [local go_sem] Oper.semAt_some

/-- No later edit of the same item among those up to j. -/
def lastTo (es : List Vx) (i j n : Nat) : Bool := !((es.take j).drop (i + 1)).any fun x => x.2.1 == n
theorem lastTo_start (es : List Vx) (i n : Nat) : lastTo es i (i + 1) n = true := by
  unfold lastTo
  rw [List.drop_eq_nil_of_le (by rw [List.length_take]; omega)]
  rfl
theorem lastTo_next {es : List Vx} {i j n : Nat} (hj : j < es.length) (hij : i + 1 ≤ j) : lastTo es i (j + 1) n = (lastTo es i j n && (es[j].2.1 != n)) := by
  unfold lastTo
  rw [List.take_succ_eq_append_getElem hj, List.drop_append_of_le_length (by rw [List.length_take]; omega), List.any_append]
  simp [bne]
theorem needR_cons (r : Rec) (l : List Rec) : needR (r :: l) = (if l.any (fun x => x.1 == r.1) then 0 else 8 + (r.2.getD []).length) + needR l := rfl
theorem needR_drop {es : List Vx} {i : Nat} (hi : i < es.length) : needR ((recs es).drop i) = (if lastTo es i es.length es[i].2.1 = true then 8 + (es[i].2.2.getD []).length else 0) + needR ((recs es).drop (i + 1)) := by
  have hl : i < (recs es).length := by simpa [recs] using hi
  rw [List.drop_eq_getElem_cons hl]
  have e : (recs es)[i] = es[i].2 := by simp [recs]
  rw [needR_cons, e]
  have e2 : ((recs es).drop (i + 1)).any (fun x => x.1 == es[i].2.1) = !lastTo es i es.length es[i].2.1 := by
    unfold lastTo recs
    rw [List.take_length, Bool.not_not, ← List.map_drop, List.any_map]
    rfl
  rw [e2]
  cases lastTo es i es.length es[i].2.1 <;> rfl
set_option maxRecDepth 100000 in
set_option maxHeartbeats 4000000 in
theorem rNeed_ok {w : World} {u : Value} {es : List Vx} (he : ESl w u es) (hok : ∀ r ∈ recs es, ROk r) (hn : es.length ≤ 1000000) :
    Calls Tryz.prog 93 #[u] w fun e w' => e = .returned (.int .i64 (Vn.need (recs es) : Nat)) ∧ Mod Nowhere w w' := by
  obtain ⟨ua, uc, rfl, g1, g2, -⟩ := he.sl.gen
  have hnr : needR (recs es) = Vn.need (recs es) := needR_eq fun r hr => by have := (hok r hr).hi; omega
  have hle := need_le hok
  rw [← hnr] at hle ⊢
  replace hle := Lib.hid hle
  replace he := Lib.hid he
  replace hok := Lib.hid hok
  replace hnr := Lib.hid hnr
  go_enter Tryz.func93, Tryz.ntmps93
  go_wp2
  go_loopw [3, 4] (fun n i wr => ∃ k acc : Nat, k ≤ es.length ∧ i = .int .i64 k ∧ n = .int .i64 acc ∧ acc + needR ((recs es).drop k) = needR (recs es) ∧ Mod Nowhere w wr) (fun _ i _ => es.length - (RowKit.intOf i).toNat)
  case atStart => exact ⟨0, 0, by omega, rfl, rfl, by simp, Mod.refl _ _⟩
  case round =>
    obtain ⟨k, acc, hk, rfl, rfl, hacc, hm⟩ := hrel
    by_cases hlt : k < es.length
    · obtain ⟨b, off, cap', xa, xc, e0, hb, _, _, c1, c2, c3, e3⟩ := (he.out.fresh hm).at_ hlt
      obtain ⟨rfl, rfl⟩ : ua = some ⟨b, off, none⟩ ∧ uc = cap' := by
        simp at e0; exact ⟨e0.1, e0.2⟩
      rw [needR_drop hlt] at hacc
      rw [e3] at c3
      generalize hql : (es[k].2.2.getD []).length = ql at *
      generalize hid : es[k].2.1 = kd at *
      replace hql := Lib.hid hql
      replace hid := Lib.hid hid
      replace hacc := Lib.hid hacc
      replace e3 := Lib.hid e3
      go_wp2
      go_loopw [5, 6] (fun la j wq => ∃ q : Nat, k + 1 ≤ q ∧ q ≤ es.length ∧ j = .int .i64 q ∧ la = .bool (lastTo es k q kd) ∧ Mod Nowhere w wq) (fun _ j _ => es.length - (RowKit.intOf j).toNat)
      case atStart => exact ⟨k + 1, by omega, by omega, by go_num, by rw [lastTo_start], hm⟩
      case round =>
        obtain ⟨q, hq1, hq2, rfl, rfl, hmq⟩ := hrel
        by_cases hqt : q < es.length
        · obtain ⟨b', off', cap2, ya, yc, e0', hb', _, _, d1, d2, d3, e3'⟩ := (he.out.fresh hmq).at_ hqt
          obtain ⟨⟨rfl, rfl⟩, rfl⟩ : (b = b' ∧ off = off') ∧ uc = cap2 := by
            simp at e0'; exact e0'
          obtain ⟨_, _, _, _, _, f0, _, _, _, c1', _, _, _⟩ := (he.out.fresh hmq).at_ hlt
          obtain ⟨⟨rfl, rfl⟩, rfl⟩ : (b = _ ∧ off = _) ∧ uc = _ := by
            simp at f0; exact f0
          have hnx := lastTo_next (n := kd) hqt hq1
          rw [hid.out] at c1'
          generalize hqd : es[q].2.1 = qd at *
          have hki : (k : Int) < (es.length : Int) := by omega
          have hqi : (q : Int) < (es.length : Int) := by omega
          cases hlb : lastTo es k q kd
          · rw [hlb, Bool.false_and] at hnx
            replace hnx := Lib.hid hnx
            replace hlb := Lib.hid hlb
            replace hmq := Lib.hid hmq
            replace hm := Lib.hid hm
            replace e3' := Lib.hid e3'
            replace hqd := Lib.hid hqd
            go_wp2
            go_quiet (fail)
            go_wp2
            refine ⟨⟨q + 1, by omega, by omega, by go_num, by rw [hnx.out], hmq.out.drewN nq⟩, ?_⟩
            simp [RowKit.intOf]; omega
          · rw [hlb, Bool.true_and] at hnx
            by_cases hne : qd = kd
            · rw [show (qd != kd) = false by simp [hne]] at hnx
              subst hne
              replace hnx := Lib.hid hnx
              replace hlb := Lib.hid hlb
              replace hmq := Lib.hid hmq
              replace hm := Lib.hid hm
              replace e3' := Lib.hid e3'
              replace hqd := Lib.hid hqd
              go_wp2
              go_quiet (fail)
              go_wp2
              refine ⟨⟨q + 1, by omega, by omega, by go_num, by rw [hnx.out], hmq.out.drewN nq⟩, ?_⟩
              simp [RowKit.intOf]; omega
            · rw [show (qd != kd) = true by simp [hne]] at hnx
              have hneb : (((qd : Nat) : Int) != (kd : Int)) = true := by simp; omega
              replace hnx := Lib.hid hnx
              replace hlb := Lib.hid hlb
              replace hmq := Lib.hid hmq
              replace hm := Lib.hid hm
              replace e3' := Lib.hid e3'
              replace hqd := Lib.hid hqd
              replace hne := Lib.hid hne
              go_wp2
              go_quiet (fail)
              go_wp2
              refine ⟨⟨q + 1, by omega, by omega, by go_num, by rw [hnx.out], hmq.out.drewN nq⟩, ?_⟩
              simp [RowKit.intOf]; omega
        · obtain rfl : q = es.length := by omega
          obtain ⟨_, _, _, _, _, f0, _, _, _, c1', _, c3', e3'⟩ := (he.out.fresh hmq).at_ hlt
          obtain ⟨⟨rfl, rfl⟩, rfl⟩ : (b = _ ∧ off = _) ∧ uc = _ := by
            simp at f0; exact f0
          rw [e3.out] at c3'
          have hac := hacc.out
          cases hlb : lastTo es k es.length kd
          · rw [hlb, if_neg Bool.false_ne_true, Nat.zero_add] at hac
            replace hac := Lib.hid hac
            replace hlb := Lib.hid hlb
            replace hmq := Lib.hid hmq
            replace hm := Lib.hid hm
            replace e3' := Lib.hid e3'
            go_wp2
            go_roundw
            case rel => exact ⟨k + 1, acc, by omega, by go_num, rfl, hac.out, hmq.out⟩
            case measure => simp [RowKit.intOf]; omega
          · rw [hlb, if_pos rfl] at hac
            have hb1 : acc + 8 + ql ≤ 8423432 := by have := hle.out; omega
            have hw1 : IntKind.i64.wrap ((acc : Int) + 8) = (acc : Int) + 8 := by rw [IntKind.wrap_i64]; omega
            have hw2 : IntKind.i64.wrap ((acc : Int) + 8 + (ql : Int)) = (acc : Int) + 8 + (ql : Int) := by rw [IntKind.wrap_i64]; omega
            replace hb1 := Lib.hid hb1
            replace hac := Lib.hid hac
            replace hlb := Lib.hid hlb
            replace hmq := Lib.hid hmq
            replace hm := Lib.hid hm
            replace e3' := Lib.hid e3'
            go_wp2
            go_roundw
            case rel => exact ⟨k + 1, acc + 8 + ql, by omega, by go_num, by go_num, by have := hac.out; omega, hmq.out⟩
            case measure => simp [RowKit.intOf]; omega
    · obtain rfl : k = es.length := by omega
      have e : (recs es).drop es.length = [] := List.drop_eq_nil_of_le (by simp [recs])
      rw [e] at hacc
      have hfin : acc = needR (recs es) := by simpa [needR] using hacc
      replace hfin := Lib.hid hfin
      replace hm := Lib.hid hm
      replace e := Lib.hid e
      clear hacc
      go_wp2
      go_ret
      exact ⟨ret_int (by rw [hfin.out]), hm.out⟩
end Go.Proofs.YtikkodanpbmmkaaGreat
/-
  The reference of the vault: its state, and what it tells.
-/
namespace Go.Proofs.YtikkodanpbmmkaaGreat
open Go.RowKit
open Jn Vn
attribute [local go_sem] Oper.semAt_some

/-- The reference's state in Go's memory. -/
structure RSt (w : World) (R : Nat) (iv ev : Value) (xs : List Ix) (es : List Vx) (s : VSt) : Prop where
  it : ISl w iv xs
  its : its xs = itemsOf s.f
  ed : ESl w ev es
  eds : recs es = s.l
  ok : ∀ r ∈ s.l, ROk r
  iok : IOk s.f
  len : s.l.length ≤ 9000
  room : R ≤ 2000000
  idle : s.act = false → s.l = []
def rsCells (R : Nat) (iv ev : Value) (s : VSt) : List Value := [.int .i64 R, iv, .bool s.act, ev]
structure RRep (w : World) (v : Value) (R : Nat) (s : VSt) : Prop where
  ex : ∃ iv ev xs es, v = .agg #[.int .i64 R, iv, .bool s.act, ev] ∧ RSt w R iv ev xs es s
def RPost (w : World) (R : Nat) (s' : VSt) (er : Nat) (e : Ending) (w' : World) : Prop :=
  ∃ v, e = .returned (.tuple #[v, errno er]) ∧ RRep w' v R s' ∧ Mod Nowhere w w'
theorem RSt.fresh {w w' : World} {R : Nat} {iv ev : Value} {xs : List Ix} {es : List Vx} {s : VSt} (h : RSt w R iv ev xs es s) (hm : Mod Nowhere w w') : RSt w' R iv ev xs es s :=
  ⟨h.it.fresh hm, h.its, h.ed.fresh hm, h.eds, h.ok, h.iok, h.len, h.room, h.idle⟩
theorem RRep.fresh {w w' : World} {v : Value} {R : Nat} {s : VSt} (h : RRep w v R s) (hm : Mod Nowhere w w') : RRep w' v R s := by
  obtain ⟨iv, ev, xs, es, rfl, hs⟩ := h.ex
  exact ⟨_, _, _, _, rfl, hs.fresh hm⟩
theorem RSt.items_len {w : World} {R : Nat} {iv ev : Value} {xs : List Ix} {es : List Vx} {s : VSt} (h : RSt w R iv ev xs es s) : xs.length ≤ 4097 := by
  rw [← its_len, h.its]; exact itemsOf_len _
theorem RSt.eds_len {w : World} {R : Nat} {iv ev : Value} {xs : List Ix} {es : List Vx} {s : VSt} (h : RSt w R iv ev xs es s) : es.length = s.l.length := by
  rw [← h.eds]; simp [recs]
theorem ret_state {fn : Func} {p u : Tmp} (h : fn.results = #[.cell p 54, .tmp u]) (tmps : Array Value) (w : World) (b : Nat) (c0 c1 c2 c3 : Value) (hp : tmps.getD p undef = ptr b) (hb : Blk w b [c0, c1, c2, c3] 54) :
    (results fn tmps).run Tryz.prog w = .ok (.tuple #[.agg #[c0, c1, c2, c3], tmps.getD u undef]) w := by
  rw [results_cell_tmp h, hp]
  have k0 := hb.cell 0
  have k1 := hb.cell 1
  have k2 := hb.cell 2
  have k3 := hb.cell 3
  simp only [List.getElem?_cons_zero, List.getElem?_cons_succ] at k0 k1 k2 k3
  go_simp
theorem step_append_run {P : Program} {w : World} {ops : Array Oper} {o : Oper} {a : Act} {K : Act → World → Prop} {Q : Exit → Act → World → Prop} {E : Prop} (hgd : o.guard = none) (s x : Operand) (t tn : TypeId)
    (ho : o.op = .call { callee := .builtin .append, args := #[s, x], argTypes := #[t, tn] }) (vs vx : Value) (hs : a.eval s = vs) (hx : a.eval x = vx)
    (v' : Value) (w' : World) (hr : (Builtin.append_ #[t, tn] o.type #[vs, vx]).run P w = .ok v' w') (h : K (a.put o.dst v') w') :
    if Region.wanted o (yielded ops a.tmps) = true then Oper.wp P o a w K Q else E := by
  have hw : Region.wanted o (yielded ops a.tmps) = true := by simp [Region.wanted, hgd]
  rw [if_pos hw]
  exact Lib.wp_append_run w s x t tn ho vs vx hs hx v' w' hr h
theorem RRep.mk' {w : World} {R : Nat} {iv ev : Value} {xs : List Ix} {es : List Vx} {s : VSt} (h : RSt w R iv ev xs es s) {a : Bool} (ha : s.act = a) : RRep w (.agg #[.int .i64 R, iv, .bool a, ev]) R s := by
  subst ha; exact ⟨_, _, _, _, rfl, h⟩
theorem RSt.same {w : World} {R : Nat} {iv ev : Value} {xs : List Ix} {es : List Vx} {s : VSt} (h : RSt w R iv ev xs es s) {a : Bool} (ha : s.act = a) : RRep w (.agg #[.int .i64 R, iv, .bool a, ev]) R s := RRep.mk' h ha
theorem RSt.begin {w : World} {R : Nat} {iv ev : Value} {xs : List Ix} {es : List Vx} {s : VSt} (h : RSt w R iv ev xs es s) (ha : s.act = false) : RRep w (.agg #[.int .i64 R, iv, .bool true, ev]) R { s with act := true, l := [] } :=
  RRep.mk' (s := { s with act := true, l := [] }) ⟨h.it, h.its, h.ed, by rw [h.eds]; exact h.idle ha, fun r hr => (List.not_mem_nil hr).elim, h.iok, Nat.zero_le _, h.room, fun e => by cases e⟩ rfl
/-- The state without a transaction. -/
theorem RSt.out {w : World} {R : Nat} {iv ev iv' : Value} {xs ys : List Ix} {es : List Vx} {s : VSt} {f : Items} (h : RSt w R iv ev xs es s) (hi : ISl w iv' ys) (hf : Go.Proofs.YtikkodanpbmmkaaGreat.its ys = itemsOf f) (hk : IOk f) : RRep w (.agg #[.int .i64 R, iv', .bool false, .slice none 0 0]) R { f := f, act := false, l := [] } :=
  RRep.mk' (s := { f := f, act := false, l := [] }) (es := []) ⟨hi, hf, ⟨Sl.nil _ _ _, fun x hx => (List.not_mem_nil hx).elim⟩, rfl, fun r hr => (List.not_mem_nil hr).elim, hk, Nat.zero_le _, h.room, fun _ => rfl⟩ rfl
theorem mod2 (w : World) (a b : Obj) : Mod Nowhere w ((w.alloc a).alloc b) := ((Mod.refl _ w).alloc _).alloc _
set_option maxRecDepth 100000 in
set_option maxHeartbeats 2000000 in
theorem rBegin_ok {w : World} {v : Value} {R : Nat} {s : VSt} (h : RRep w v R s) : Calls Tryz.prog 49 #[v] w (RPost w R (vBegin s).1 (vBegin s).2) := by
  obtain ⟨iv, ev, xs, es, rfl, hs⟩ := h.ex
  clear h
  obtain ⟨ia, ic, rfl, -⟩ := hs.it.sl.gen
  obtain ⟨ea, ec, rfl, -⟩ := hs.ed.sl.gen
  unfold vBegin
  cases hact : s.act
  · have hm : Mod Nowhere w ((w.alloc (.cells #[.int .i64 R, .slice ia xs.length ic, .bool true, .slice ea es.length ec] 54)).alloc (.cells #[.int .i64 R, .slice ia xs.length ic, .bool true, .slice ea es.length ec] 54)) := mod2 _ _ _
    have hfin := (hs.fresh hm).begin hact
    replace hs := Lib.hid hs
    replace hact := Lib.hid hact
    replace hfin := Lib.hid hfin
    rw [if_neg Bool.false_ne_true]
    go_enter Tryz.func49, Tryz.ntmps49
    go_wp2
    exact bodyPost_ret (ret_state rfl _ _ (w.heap.size + 1) _ _ _ _ rfl (Blk.new' (by simp) rfl)) rfl ⟨_, rfl, hfin.out, hm⟩
  · have hm : Mod Nowhere w ((w.alloc (.cells #[.int .i64 R, .slice ia xs.length ic, .bool true, .slice ea es.length ec] 54)).alloc (.cells #[.int .i64 R, .slice ia xs.length ic, .bool true, .slice ea es.length ec] 54)) := mod2 _ _ _
    have hfin := (hs.fresh hm).same hact
    replace hs := Lib.hid hs
    replace hact := Lib.hid hact
    replace hfin := Lib.hid hfin
    rw [if_pos rfl]
    go_enter Tryz.func49, Tryz.ntmps49
    go_wp2
    exact bodyPost_ret (ret_state rfl _ _ (w.heap.size + 1) _ _ _ _ rfl (Blk.new' (by simp) rfl)) rfl ⟨_, rfl, hfin.out, hm⟩
set_option maxRecDepth 100000 in
set_option maxHeartbeats 2000000 in
theorem rAbort_ok {w : World} {v : Value} {R : Nat} {s : VSt} (h : RRep w v R s) : Calls Tryz.prog 53 #[v] w (RPost w R (vAbort s).1 (vAbort s).2) := by
  obtain ⟨iv, ev, xs, es, rfl, hs⟩ := h.ex
  clear h
  obtain ⟨ia, ic, rfl, -⟩ := hs.it.sl.gen
  obtain ⟨ea, ec, rfl, -⟩ := hs.ed.sl.gen
  unfold vAbort
  cases hact : s.act
  · have hm : Mod Nowhere w ((w.alloc (.cells #[.int .i64 R, .slice ia xs.length ic, .bool false, .slice ea es.length ec] 54)).alloc (.cells #[.int .i64 R, .slice ia xs.length ic, .bool false, .slice ea es.length ec] 54)) := mod2 _ _ _
    have hfin := (hs.fresh hm).same hact
    replace hs := Lib.hid hs
    replace hact := Lib.hid hact
    replace hfin := Lib.hid hfin
    rw [if_neg Bool.false_ne_true]
    go_enter Tryz.func53, Tryz.ntmps53
    go_wp2
    exact bodyPost_ret (ret_state rfl _ _ (w.heap.size + 1) _ _ _ _ rfl (Blk.new' (by simp) rfl)) rfl ⟨_, rfl, hfin.out, hm⟩
  · have hm : Mod Nowhere w ((w.alloc (.cells #[.int .i64 R, .slice ia xs.length ic, .bool true, .slice ea es.length ec] 54)).alloc (.cells #[.int .i64 R, .slice ia xs.length ic, .bool false, .slice none 0 0] 54)) := mod2 _ _ _
    have hfin := (hs.fresh hm).out (hs.fresh hm).it hs.its hs.iok
    replace hs := Lib.hid hs
    replace hact := Lib.hid hact
    replace hfin := Lib.hid hfin
    rw [if_pos rfl]
    go_enter Tryz.func53, Tryz.ntmps53
    go_wp2
    exact bodyPost_ret (ret_state rfl _ _ (w.heap.size + 1) _ _ _ _ rfl (Blk.new' (by simp) rfl)) rfl ⟨_, rfl, hfin.out, hm⟩
set_option maxRecDepth 100000 in
set_option maxHeartbeats 2000000 in
theorem rSave_ok {w : World} {v : Value} {R : Nat} {s : VSt} (h : RRep w v R s) : Calls Tryz.prog 44 #[v] w fun e w' => e = .returned (.int .i64 (s.l.length : Nat)) ∧ Mod Nowhere w w' := by
  obtain ⟨iv, ev, xs, es, rfl, hs⟩ := h.ex
  clear h
  obtain ⟨ia, ic, rfl, -⟩ := hs.it.sl.gen
  obtain ⟨ea, ec, rfl, -⟩ := hs.ed.sl.gen
  have hl := hs.eds_len
  generalize s.act = a
  replace hl := Lib.hid hl
  replace hs := Lib.hid hs
  have hm : Mod Nowhere w (w.alloc (.cells #[.int .i64 R, .slice ia xs.length ic, .bool a, .slice ea es.length ec] 54)) := (Mod.refl _ w).alloc _
  go_enter Tryz.func44, Tryz.ntmps44
  go_wp2
  go_ret
  exact ⟨ret_int (by rw [hl.out]), hm⟩
set_option maxRecDepth 100000 in
set_option maxHeartbeats 2000000 in
theorem rLeft_ok {w : World} {v : Value} {R : Nat} {s : VSt} (h : RRep w v R s) : Calls Tryz.prog 46 #[v] w fun e w' => e = .returned (.int .i64 (4096 - (Vn.need s.l : Int))) ∧ Mod Nowhere w w' := by
  obtain ⟨iv, ev, xs, es, rfl, hs⟩ := h.ex
  clear h
  obtain ⟨ia, ic, rfl, -⟩ := hs.it.sl.gen
  obtain ⟨ea, ec, rfl, -⟩ := hs.ed.sl.gen
  have hl := hs.eds_len
  have hN := fun W (hm : Mod Nowhere w W) => rNeed_ok (hs.fresh hm).ed (by rw [hs.eds]; exact hs.ok) (by have := hs.len; omega)
  rw [hs.eds] at hN
  have hle := need_le hs.ok
  obtain ⟨nd, hnd⟩ : ∃ nd, Vn.need s.l = nd := ⟨_, rfl⟩
  rw [hnd] at hN hle ⊢
  have hw : IntKind.i64.wrap (4096 - (nd : Int)) = 4096 - (nd : Int) := by rw [IntKind.wrap_i64]; omega
  generalize s.act = a
  have hm : Mod Nowhere w (w.alloc (.cells #[.int .i64 R, .slice ia xs.length ic, .bool a, .slice ea es.length ec] 54)) := (Mod.refl _ w).alloc _
  have hN1 := hN _ hm
  replace hl := Lib.hid hl
  replace hs := Lib.hid hs
  replace hle := Lib.hid hle
  replace hnd := Lib.hid hnd
  replace hN1 := Lib.hid hN1
  replace hm := Lib.hid hm
  clear hN
  go_enter Tryz.func46, Tryz.ntmps46
  go_wp2_with fail
  refine hN1.out.mono ?_
  rintro e w2 ⟨rfl, hm2⟩
  go_wp2
  go_ret
  exact ⟨rfl, hm.out.trans hm2⟩
theorem wtI_itemsOf (f : Items) : wtI (itemsOf f) = wt f := wt_itemsOf f
theorem itemsOf_short {f : Items} (h : IOk f) : ∀ x ∈ itemsOf f, x.2.length ≤ 2048 := fun x hx => (h.ok _ _ (mem_itemsOf.1 hx).2).len
set_option maxRecDepth 100000 in
set_option maxHeartbeats 2000000 in
theorem rUsed_ok {w : World} {v : Value} {R : Nat} {s : VSt} (h : RRep w v R s) : Calls Tryz.prog 95 #[v] w fun e w' => e = .returned (.int .i64 (wt s.f : Nat)) ∧ Mod Nowhere w w' := by
  obtain ⟨iv, ev, xs, es, rfl, hs⟩ := h.ex
  clear h
  obtain ⟨ia, ic, rfl, -⟩ := hs.it.sl.gen
  obtain ⟨ea, ec, rfl, -⟩ := hs.ed.sl.gen
  have hN := fun W (hm : Mod Nowhere w W) => rWeight_ok (hs.fresh hm).it (by have := hs.items_len; omega) (by rw [hs.its]; exact itemsOf_short hs.iok)
  rw [hs.its, wtI_itemsOf] at hN
  generalize wt s.f = nd at *
  generalize s.act = a
  have hm : Mod Nowhere w (w.alloc (.cells #[.int .i64 R, .slice ia xs.length ic, .bool a, .slice ea es.length ec] 54)) := (Mod.refl _ w).alloc _
  have hN1 := hN _ hm
  replace hs := Lib.hid hs
  replace hN1 := Lib.hid hN1
  replace hm := Lib.hid hm
  clear hN
  go_enter Tryz.func95, Tryz.ntmps95
  go_wp2_with fail
  refine hN1.out.mono ?_
  rintro e w2 ⟨rfl, rfl⟩
  go_wp2
  go_ret
  exact ⟨rfl, hm.out⟩
set_option maxRecDepth 100000 in
set_option maxHeartbeats 2000000 in
theorem rView_ok {w : World} {v : Value} {R : Nat} {s : VSt} (h : RRep w v R s) : Calls Tryz.prog 90 #[v] w (ItPost w (itemsOf (sets s.f s.l))) := by
  obtain ⟨iv, ev, xs, es, rfl, hs⟩ := h.ex
  clear h
  obtain ⟨ia, ic, rfl, -⟩ := hs.it.sl.gen
  obtain ⟨ea, ec, rfl, -⟩ := hs.ed.sl.gen
  have hN := fun W (hm : Mod Nowhere w W) => rSeen_ok (hs.fresh hm).it hs.its (hs.fresh hm).ed (by rw [hs.eds]; exact hs.ok) (by have := hs.eds_len; have := hs.len; omega)
  rw [hs.eds] at hN
  generalize s.act = a
  have hm : Mod Nowhere w (w.alloc (.cells #[.int .i64 R, .slice ia xs.length ic, .bool a, .slice ea es.length ec] 54)) := (Mod.refl _ w).alloc _
  have hN1 := hN _ hm
  replace hs := Lib.hid hs
  replace hN1 := Lib.hid hN1
  replace hm := Lib.hid hm
  clear hN
  go_enter Tryz.func90, Tryz.ntmps90
  go_wp2_with fail
  refine hN1.out.mono ?_
  rintro e w2 hp
  obtain ⟨a2, n2, c2, rfl⟩ := hp.slice
  have hp2 := hp.from hm.out
  replace hp2 := Lib.hid hp2
  clear hp
  go_wp2
  go_ret
  exact hp2.out
set_option maxRecDepth 100000 in
set_option maxHeartbeats 2000000 in
theorem rGet_ok {w : World} {v : Value} {R : Nat} {s : VSt} (h : RRep w v R s) (nd : Int) : Calls Tryz.prog 41 #[v, .int .i64 nd] w (FindPost13 w (at_ (sets s.f s.l) nd)) := by
  have hV := fun W (hm : Mod Nowhere w W) => rView_ok (h.fresh hm)
  obtain ⟨iv, ev, xs, es, rfl, hs⟩ := h.ex
  clear h
  obtain ⟨ia, ic, rfl, -⟩ := hs.it.sl.gen
  obtain ⟨ea, ec, rfl, -⟩ := hs.ed.sl.gen
  have hik : IOk (sets s.f s.l) := hs.iok.sets _ hs.ok
  generalize s.act = a at *
  have hm : Mod Nowhere w (w.alloc (.cells #[.int .i64 R, .slice ia xs.length ic, .bool a, .slice ea es.length ec] 54)) := (Mod.refl _ w).alloc _
  have hV1 := hV _ hm
  replace hs := Lib.hid hs
  replace hV1 := Lib.hid hV1
  replace hm := Lib.hid hm
  replace hik := Lib.hid hik
  clear hV
  go_enter Tryz.func41, Tryz.ntmps41
  go_wp2_with fail
  refine hV1.out.mono ?_
  rintro e w2 ⟨v2, ys, rfl, hi2, hy2, hm2⟩
  have hF := rFind_ok hi2 (by rw [← its_len, hy2]; have := itemsOf_len (sets s.f s.l); omega) (by rw [hy2]; exact itemsOf_short hik.out) nd
  rw [hy2, find_itemsOf hik.out.supp, show (if 0 ≤ nd then sets s.f s.l nd.toNat else none) = at_ (sets s.f s.l) nd from rfl] at hF
  obtain ⟨o, ho⟩ : ∃ o, at_ (sets s.f s.l) nd = o := ⟨_, rfl⟩
  rw [ho] at hF
  replace ho := Lib.hid ho
  obtain ⟨va, vc, rfl, -⟩ := hi2.sl.gen
  have hm02 := hm.out.trans hm2
  replace hF := Lib.hid hF
  replace hm02 := Lib.hid hm02
  clear hi2 hy2 hm2 hV1
  go_wp2_with fail
  refine hF.out.mono ?_
  rintro e w3 ⟨u, rfl, hd, hm3⟩
  have hfin : FindPost13 w (at_ (sets s.f s.l) nd) (.returned (.tuple #[u, .bool o.isSome])) w3 := by rw [ho.out]; exact ⟨u, rfl, hd, hm02.out.trans hm3⟩
  obtain ⟨ua, uc, rfl, -⟩ := Sl.len hd
  replace hfin := Lib.hid hfin
  clear hd hm3 hF
  go_wp2
  go_ret2
  exact hfin.out
end Go.Proofs.YtikkodanpbmmkaaGreat
