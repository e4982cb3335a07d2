/-
  What the calls of a vault do, in plain numbers.
-/
import Derived.Test.YtikkodanpbmmkaaGreatG15
set_option linter.unusedVariables false
set_option linter.unusedSimpArgs false
namespace Go.Proofs.YtikkodanpbmmkaaGreat
open Go.RowKit
open Jn Vn

/-- What a number has. -/
def at_ (f : Items) (id : Int) : Option (List Nat) := if 0 ≤ id then f id.toNat else none
theorem sum_filter (g : Nat → Nat) (p : Nat → Bool) : ∀ l : List Nat, ((l.filter p).map g).sum = (l.map fun k => if p k then g k else 0).sum
  | [] => rfl
  | k :: l => by
    have ih := sum_filter g p l
    rw [List.filter_cons, List.map_cons, List.sum_cons]
    cases hp : p k with
    | true => rw [if_pos rfl, List.map_cons, List.sum_cons, ih, if_pos rfl]
    | false => rw [if_neg (by decide), ih, if_neg (by decide), Nat.zero_add]
theorem sum_mono (g h : Nat → Nat) (hgh : ∀ k, g k ≤ h k) : ∀ l : List Nat, (l.map g).sum ≤ (l.map h).sum
  | [] => Nat.le_refl _
  | k :: l => by
    have := sum_mono g h hgh l
    have := hgh k
    simp only [List.map_cons, List.sum_cons]
    omega
theorem wt_mono {f g : Items} (h : ∀ k, f k = g k ∨ f k = none) : wt f ≤ wt g := by
  unfold wt dom
  rw [sum_filter, sum_filter]
  refine sum_mono _ _ (fun k => ?_) _
  rcases h k with e | e
  · rw [e]; exact Nat.le_refl _
  · rw [e]; simp
theorem wt_drop (f : Items) (id : Nat) : wt (set1 f (id, none)) ≤ wt f := wt_mono fun k => by
  unfold set1
  by_cases e : k = id
  · exact .inr (by simp [e])
  · exact .inl (by simp [e])
/-- What a change makes. -/
def vChange (Z : Nat) (s : VSt) (r : Rec) : VSt × Nat :=
  if s.act = true ∧ 4096 < Vn.need (s.l ++ [r]) then (s, 11)
  else if r.2.isSome = true ∧ Z / 2 < wt (sets s.f (s.l ++ [r])) then (s, 10)
  else if s.act = true then ({ s with l := s.l ++ [r] }, 0) else ({ s with f := sets s.f (s.l ++ [r]) }, 0)
/-- The calls, in plain numbers. -/
def vPut (Z : Nat) (s : VSt) (id : Int) (d : List Nat) : VSt × Nat := if validB id d.length = true then vChange Z s (id.toNat, some d) else (s, 1)
def vBegin (s : VSt) : VSt × Nat := if s.act = true then (s, 14) else ({ s with act := true, l := [] }, 0)
def vCommit (Z : Nat) (s : VSt) : VSt × Nat := if s.act = true then (if Z / 2 < wt (sets s.f s.l) then (s, 10) else ({ f := sets s.f s.l, act := false, l := [] }, 0)) else (s, 14)
def vAbort (s : VSt) : VSt × Nat := if s.act = true then ({ s with act := false, l := [] }, 0) else (s, 14)
theorem validB_ok {id : Int} {d : List Nat} (h : validB id d.length = true) (hb : Bytes d) : ROk (id.toNat, some d) ∧ ((id.toNat : Nat) : Int) = id := by
  unfold validB at h
  simp only [Bool.and_eq_true, decide_eq_true_eq] at h
  exact ⟨⟨by show 1 ≤ id.toNat; omega, by show id.toNat ≤ 4096; omega, h.2, hb⟩, by omega⟩
def vDel (Z : Nat) (s : VSt) (id : Int) : VSt × Nat := if validB id 0 = true then (if (at_ (sets s.f s.l) id).isSome = true then vChange Z s (id.toNat, none) else (s, 12)) else (s, 1)
theorem validB_none {id : Int} (h : validB id 0 = true) : ROk (id.toNat, none) ∧ ((id.toNat : Nat) : Int) = id ∧ 1 ≤ id ∧ id ≤ 4096 := by
  unfold validB at h
  simp only [Bool.and_eq_true, decide_eq_true_eq] at h
  exact ⟨⟨by show 1 ≤ id.toNat; omega, by show id.toNat ≤ 4096; omega, Nat.zero_le _, bytes_nil⟩, by omega, h.1.1, h.1.2⟩
theorem sum_le_len : ∀ (l : List Rec), (∀ r ∈ l, (r.2.getD []).length ≤ 2048) → (l.map fun r => 8 + (r.2.getD []).length).sum ≤ 2056 * l.length
  | [], _ => by simp
  | r :: l, h => by
    have h1 := h r (by simp)
    have h2 := sum_le_len l fun x hx => h x (by simp [hx])
    simp only [List.map_cons, List.sum_cons, List.length_cons]
    omega
theorem need_le {l : List Rec} (h : ∀ r ∈ l, ROk r) : Vn.need l ≤ 8423432 := by
  have h1 := sum_le_len (recsOf (lastOf l)) fun r hr => (last_ok h r hr).len
  have h2 : (recsOf (lastOf l)).length ≤ 4097 := Nat.le_trans (List.length_filterMap_le _ _) (dom_len _)
  unfold Vn.need
  omega
/-! ### All calls of a vault -/
def vNow (Z : Nat) (s : VSt) (id : Int) (d : List Nat) : VSt × Nat :=
  if validB id d.length = true then
    if (s.l.any fun r => decide (((r.1 : Nat) : Int) = id)) = true then (s, 14)
    else if Z / 2 < wt (set1 s.f (id.toNat, some d)) ∨ Z / 2 < wt (sets (set1 s.f (id.toNat, some d)) s.l) then (s, 10)
    else ({ s with f := set1 s.f (id.toNat, some d) }, 0)
  else (s, 1)
def vBack (s : VSt) (k : Int) : VSt × Nat := if s.act = true then (if k < 0 ∨ (s.l.length : Int) < k then (s, 2) else ({ s with l := s.l.take k.toNat }, 0)) else (s, 14)
def vDo (Z : Nat) (s : VSt) (op id : Int) (d : List Nat) : VSt × Nat :=
  if op = 0 then vPut Z s id d else if op = 1 then vDel Z s id else if op = 2 then vNow Z s id d else if op = 3 then vBegin s else if op = 4 then vCommit Z s else if op = 5 then vAbort s else vBack s id
theorem set1_swap (f : Items) {r x : Rec} (h : x.1 ≠ r.1) : set1 (set1 f x) r = set1 (set1 f r) x := by
  funext k
  unfold set1
  by_cases h1 : k = r.1
  · by_cases h2 : k = x.1
    · exact absurd (h2.symm.trans h1) h
    · simp [h1, Ne.symm h]
  · simp [h1]
theorem sets_swap (f : Items) (r : Rec) (l : List Rec) (h : ∀ x ∈ l, x.1 ≠ r.1) : set1 (sets f l) r = sets (set1 f r) l := by
  induction l using snoc_ind with
  | h0 => rfl
  | h1 l x ih => rw [sets_snoc, sets_snoc, set1_swap _ (h x (by simp)), ih fun y hy => h y (by simp [hy])]
theorem vChange_len (Z : Nat) (s : VSt) (r : Rec) : (vChange Z s r).1.l.length ≤ s.l.length + 1 := by
  unfold vChange
  split
  · simp
  · split
    · simp
    · split <;> simp
theorem vDo_len (Z : Nat) (s : VSt) (op id : Int) (d : List Nat) : (vDo Z s op id d).1.l.length ≤ s.l.length + 1 := by
  unfold vDo
  split
  · unfold vPut; split
    · exact vChange_len _ _ _
    · simp
  split
  · unfold vDel; split
    · split
      · exact vChange_len _ _ _
      · simp
    · simp
  split
  · unfold vNow
    split
    · split
      · simp
      · split <;> simp
    · simp
  split
  · unfold vBegin; split <;> simp
  split
  · unfold vCommit; split
    · split <;> simp
    · simp
  split
  · unfold vAbort; split <;> simp
  · unfold vBack; split
    · split
      · simp
      · simp [List.length_take]; omega
    · simp
end Go.Proofs.YtikkodanpbmmkaaGreat
