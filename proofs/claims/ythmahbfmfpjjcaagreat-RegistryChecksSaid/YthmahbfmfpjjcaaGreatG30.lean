/-
  What the calls of a vault do, in plain numbers.
-/
import Derived.Test.YthmahbfmfpjjcaaGreatG15
set_option linter.unusedVariables false
set_option linter.unusedSimpArgs false
namespace Go.Proofs.YthmahbfmfpjjcaaGreat
open Go.RowKit
open Jn Vn

/-- What a number has. -/
def at_ (f : Items) (id : Int) : Option (List Nat) := if 0 ≤ id then f id.toNat else none
theorem sum_filter (g : Nat → Nat) (p : Nat → Bool) : ∀ l : List Nat, ((l.filter p).map g).sum = (l.map fun k => if p k then g k else 0).sum
  | [] => rfl
  | k :: l => by
    have ih := sum_filter g p l
    rw [List.filter_cons, List.map_cons, List.sum_cons]
    cases hp : p k with
    | true => rw [if_pos rfl, List.map_cons, List.sum_cons, ih, if_pos rfl]
    | false => rw [if_neg (by decide), ih, if_neg (by decide), Nat.zero_add]
theorem sum_mono (g h : Nat → Nat) (hgh : ∀ k, g k ≤ h k) : ∀ l : List Nat, (l.map g).sum ≤ (l.map h).sum
  | [] => Nat.le_refl _
  | k :: l => by
    have := sum_mono g h hgh l
    have := hgh k
    simp only [List.map_cons, List.sum_cons]
    omega
theorem wt_mono {f g : Items} (h : ∀ k, f k = g k ∨ f k = none) : wt f ≤ wt g := by
  unfold wt dom
  rw [sum_filter, sum_filter]
  refine sum_mono _ _ (fun k => ?_) _
  rcases h k with e | e
  · rw [e]; exact Nat.le_refl _
  · rw [e]; simp
theorem wt_drop (f : Items) (id : Nat) : wt (set1 f (id, none)) ≤ wt f := wt_mono fun k => by
  unfold set1
  by_cases e : k = id
  · exact .inr (by simp [e])
  · exact .inl (by simp [e])
/-- What a change makes. -/
def vChange (Z : Nat) (s : VSt) (r : Rec) : VSt × Nat :=
  if s.act = true ∧ 4096 < Vn.need (s.l ++ [r]) then (s, 11)
  else if r.2.isSome = true ∧ Z / 2 < wt (sets s.f (s.l ++ [r])) then (s, 10)
  else if s.act = true then ({ s with l := s.l ++ [r] }, 0) else ({ s with f := sets s.f (s.l ++ [r]) }, 0)
/-- The calls, in plain numbers. -/
def vPut (Z : Nat) (s : VSt) (id : Int) (d : List Nat) : VSt × Nat := if validB id d.length = true then vChange Z s (id.toNat, some d) else (s, 1)
def vBegin (s : VSt) : VSt × Nat := if s.act = true then (s, 14) else ({ s with act := true, l := [] }, 0)
def vCommit (Z : Nat) (s : VSt) : VSt × Nat := if s.act = true then (if Z / 2 < wt (sets s.f s.l) then (s, 10) else ({ f := sets s.f s.l, act := false, l := [] }, 0)) else (s, 14)
def vAbort (s : VSt) : VSt × Nat := if s.act = true then ({ s with act := false, l := [] }, 0) else (s, 14)
theorem validB_ok {id : Int} {d : List Nat} (h : validB id d.length = true) (hb : Bytes d) : ROk (id.toNat, some d) ∧ ((id.toNat : Nat) : Int) = id := by
  unfold validB at h
  simp only [Bool.and_eq_true, decide_eq_true_eq] at h
  exact ⟨⟨by show 1 ≤ id.toNat; omega, by show id.toNat ≤ 4096; omega, h.2, hb⟩, by omega⟩
def vDel (Z : Nat) (s : VSt) (id : Int) : VSt × Nat := if validB id 0 = true then (if (at_ (sets s.f s.l) id).isSome = true then vChange Z s (id.toNat, none) else (s, 12)) else (s, 1)
theorem validB_none {id : Int} (h : validB id 0 = true) : ROk (id.toNat, none) ∧ ((id.toNat : Nat) : Int) = id ∧ 1 ≤ id ∧ id ≤ 4096 := by
  unfold validB at h
  simp only [Bool.and_eq_true, decide_eq_true_eq] at h
  exact ⟨⟨by show 1 ≤ id.toNat; omega, by show id.toNat ≤ 4096; omega, Nat.zero_le _, bytes_nil⟩, by omega, h.1.1, h.1.2⟩
theorem sum_le_len : ∀ (l : List Rec), (∀ r ∈ l, (r.2.getD []).length ≤ 2048) → (l.map fun r => 8 + (r.2.getD []).length).sum ≤ 2056 * l.length
  | [], _ => by simp
  | r :: l, h => by
    have h1 := h r (by simp)
    have h2 := sum_le_len l fun x hx => h x (by simp [hx])
    simp only [List.map_cons, List.sum_cons, List.length_cons]
    omega
theorem need_le {l : List Rec} (h : ∀ r ∈ l, ROk r) : Vn.need l ≤ 8423432 := by
  have h1 := sum_le_len (recsOf (lastOf l)) fun r hr => (last_ok h r hr).len
  have h2 : (recsOf (lastOf l)).length ≤ 4097 := Nat.le_trans (List.length_filterMap_le _ _) (dom_len _)
  unfold Vn.need
  omega
/-! ### All calls of a vault -/
def vNow (Z : Nat) (s : VSt) (id : Int) (d : List Nat) : VSt × Nat :=
  if validB id d.length = true then
    if (s.l.any fun r => decide (((r.1 : Nat) : Int) = id)) = true then (s, 14)
    else if Z / 2 < wt (set1 s.f (id.toNat, some d)) ∨ Z / 2 < wt (sets (set1 s.f (id.toNat, some d)) s.l) then (s, 10)
    else ({ s with f := set1 s.f (id.toNat, some d) }, 0)
  else (s, 1)
def vBack (s : VSt) (k : Int) : VSt × Nat := if s.act = true then (if k < 0 ∨ (s.l.length : Int) < k then (s, 2) else ({ s with l := s.l.take k.toNat }, 0)) else (s, 14)
def vDo (Z : Nat) (s : VSt) (op id : Int) (d : List Nat) : VSt × Nat :=
  if op = 0 then vPut Z s id d else if op = 1 then vDel Z s id else if op = 2 then vNow Z s id d else if op = 3 then vBegin s else if op = 4 then vCommit Z s else if op = 5 then vAbort s else vBack s id
theorem set1_swap (f : Items) {r x : Rec} (h : x.1 ≠ r.1) : set1 (set1 f x) r = set1 (set1 f r) x := by
  funext k
  unfold set1
  by_cases h1 : k = r.1
  · by_cases h2 : k = x.1
    · exact absurd (h2.symm.trans h1) h
    · simp [h1, Ne.symm h]
  · simp [h1]
theorem sets_swap (f : Items) (r : Rec) (l : List Rec) (h : ∀ x ∈ l, x.1 ≠ r.1) : set1 (sets f l) r = sets (set1 f r) l := by
  induction l using snoc_ind with
  | h0 => rfl
  | h1 l x ih => rw [sets_snoc, sets_snoc, set1_swap _ (h x (by simp)), ih fun y hy => h y (by simp [hy])]
theorem vChange_len (Z : Nat) (s : VSt) (r : Rec) : (vChange Z s r).1.l.length ≤ s.l.length + 1 := by
  unfold vChange
  split
  · simp
  · split
    · simp
    · split <;> simp
theorem vDo_len (Z : Nat) (s : VSt) (op id : Int) (d : List Nat) : (vDo Z s op id d).1.l.length ≤ s.l.length + 1 := by
  unfold vDo
  split
  · unfold vPut; split
    · exact vChange_len _ _ _
    · simp
  split
  · unfold vDel; split
    · split
      · exact vChange_len _ _ _
      · simp
    · simp
  split
  · unfold vNow
    split
    · split
      · simp
      · split <;> simp
    · simp
  split
  · unfold vBegin; split <;> simp
  split
  · unfold vCommit; split
    · split <;> simp
    · simp
  split
  · unfold vAbort; split <;> simp
  · unfold vBack; split
    · split
      · simp
      · simp [List.length_take]; omega
    · simp
end Go.Proofs.YthmahbfmfpjjcaaGreat
/-
  The PINs, in plain numbers: definitions as items of a vault, and what the calls do.
-/
namespace Go.Proofs.YthmahbfmfpjjcaaGreat
namespace Vn
open Jn

/-- What a transaction sees. -/
def view (s : VSt) : Items := sets s.f s.l
structure PinD where
  id : Nat
  value : List Nat
  limit : Nat
  lo : Nat
  hi : Nat
  code : List Nat
  cl : Nat
/-- The item of a definition, and back. -/
def pinB (d : PinD) : List Nat := [d.limit, d.lo, d.hi, d.cl, d.value.length] ++ (d.value ++ d.code)
def unB (id : Nat) (b : List Nat) : PinD :=
  { id := id, limit := b.getD 0 0, lo := b.getD 1 0, hi := b.getD 2 0, cl := b.getD 3 0, value := (b.drop 5).take (b.getD 4 0), code := (b.drop 5).drop (b.getD 4 0) }
theorem unB_pinB (d : PinD) : unB d.id (pinB d) = d := by
  obtain ⟨id, value, limit, lo, hi, code, cl⟩ := d
  simp [unB, pinB]
theorem pinB_len (d : PinD) : (pinB d).length = 5 + (d.value.length + d.code.length) := by simp [pinB]; omega
structure POk (d : PinD) : Prop where
  i1 : 1 ≤ d.id
  i8 : d.id ≤ 8
  l1 : 1 ≤ d.limit
  l15 : d.limit ≤ 15
  lo : 1 ≤ d.lo
  hi : d.hi ≤ 16
  v1 : d.lo ≤ d.value.length
  v2 : d.value.length ≤ d.hi
  c : (d.code = [] ∧ d.cl = 0) ∨ (1 ≤ d.code.length ∧ d.code.length ≤ 16 ∧ 1 ≤ d.cl ∧ d.cl ≤ 15)
  bv : Bytes d.value
  bc : Bytes d.code
theorem POk.code16 {d : PinD} (h : POk d) : d.code.length ≤ 16 := by
  rcases h.c with ⟨e, -⟩ | ⟨-, e, -, -⟩
  · rw [e]; simp
  · exact e
theorem POk.cl15 {d : PinD} (h : POk d) : d.cl ≤ 15 := by
  rcases h.c with ⟨-, e⟩ | ⟨-, -, -, e⟩
  · omega
  · exact e
theorem POk.short {d : PinD} (h : POk d) : (pinB d).length ≤ 37 := by
  have := h.code16; have := h.v2; have := h.hi
  rw [pinB_len]; omega
theorem POk.bytes {d : PinD} (h : POk d) : Bytes (pinB d) := by
  have := h.l15; have := h.hi; have := h.v1; have := h.v2; have := h.cl15
  unfold pinB
  refine bytes_append (fun k => ?_) (bytes_append h.bv h.bc)
  match k with
  | 0 => simp; omega
  | 1 => simp; omega
  | 2 => simp; omega
  | 3 => simp; omega
  | 4 => simp; omega
  | k + 5 => simp
def pget (F : Items) (id : Nat) : Option PinD :=
  if 1 ≤ id ∧ id ≤ 8 then (F (16 + id)).bind fun b => if 5 ≤ b.length then some (unB id b) else none else none
def ptry (F : Items) (id : Nat) : Nat × Nat := match F (24 + id) with
  | some b => if b.length = 2 then (b.getD 0 0, b.getD 1 0) else (0, 0)
  | none => (0, 0)
/-- The vault has nothing but PINs. -/
structure PInvF (F : Items) : Prop where
  pin : ∀ k b, F k = some b → (∃ d, POk d ∧ k = 16 + d.id ∧ b = pinB d) ∨ (∃ id t u, 1 ≤ id ∧ id ≤ 8 ∧ k = 24 + id ∧ b = [t, u] ∧ t ≤ 15 ∧ u ≤ 15)
theorem PInvF.none : PInvF none_ := ⟨fun k b h => by cases h⟩
theorem PInvF.get {F : Items} (h : PInvF F) {id : Nat} {d : PinD} (hd : pget F id = some d) : POk d ∧ d.id = id ∧ F (16 + id) = some (pinB d) := by
  unfold pget at hd
  split at hd
  · rename_i hi
    cases hb : F (16 + id) with
    | none => rw [hb] at hd; cases hd
    | some b =>
      rw [hb] at hd
      rcases h.pin _ _ hb with ⟨d', h1, h2, h3⟩ | ⟨j, t, u, h1, h2, h3, -⟩
      · have e : d'.id = id := by omega
        have hl : 5 ≤ b.length := by rw [h3, pinB_len]; omega
        simp only [Option.bind_some, hl, if_true, Option.some.injEq] at hd
        rw [h3, ← e, unB_pinB] at hd
        subst hd
        exact ⟨h1, e, by rw [h3]⟩
      · omega
  · cases hd
theorem pget_of {F : Items} {d : PinD} (hd : POk d) (h : F (16 + d.id) = some (pinB d)) : pget F d.id = some d := by
  unfold pget
  rw [if_pos ⟨hd.i1, hd.i8⟩, h]
  have hl : 5 ≤ (pinB d).length := by rw [pinB_len]; omega
  simp only [Option.bind_some, hl, if_true, unB_pinB]
theorem ptry_of {F : Items} {id t u : Nat} (h : F (24 + id) = some [t, u]) : ptry F id = (t, u) := by
  unfold ptry; rw [h]; rfl
theorem PInvF.tries {F : Items} (h : PInvF F) {id : Nat} (h1 : 1 ≤ id) (h8 : id ≤ 8) : (ptry F id).1 ≤ 15 ∧ (ptry F id).2 ≤ 15 := by
  cases hb : F (24 + id) with
  | none => unfold ptry; rw [hb]; simp
  | some b =>
    rcases h.pin _ _ hb with ⟨d', g1, g2, -⟩ | ⟨j, t, u, -, -, -, g4, g5, g6⟩
    · have := g1.i8; omega
    · rw [ptry_of (by rw [hb, g4])]; exact ⟨g5, g6⟩
/-! ### What the calls do -/
def vAtomic (Z : Nat) (s : VSt) (f : VSt → VSt × Nat) : VSt × Nat :=
  if s.act = true then (if (f s).2 = 0 then f s else ((vBack (f s).1 s.l.length).1, (f s).2))
  else if (f { s with act := true, l := [] }).2 = 0 then
    (if (vCommit Z (f { s with act := true, l := [] }).1).2 = 0 then vCommit Z (f { s with act := true, l := [] }).1
    else ((vAbort (vCommit Z (f { s with act := true, l := [] }).1).1).1, (vCommit Z (f { s with act := true, l := [] }).1).2))
  else ((vAbort (f { s with act := true, l := [] }).1).1, (f { s with act := true, l := [] }).2)
def pPutIn (Z : Nat) (d : PinD) (t u : Nat) (s : VSt) : VSt × Nat :=
  if (vPut Z s (16 + d.id : Nat) (pinB d)).2 = 0 then vPut Z (vPut Z s (16 + d.id : Nat) (pinB d)).1 (24 + d.id : Nat) [t, u] else vPut Z s (16 + d.id : Nat) (pinB d)
def pPut (Z : Nat) (s : VSt) (d : PinD) (t u : Nat) : VSt × Nat := vAtomic Z s (pPutIn Z d t u)
def pDelIn (Z : Nat) (id : Nat) (s : VSt) : VSt × Nat :=
  if (vDel Z s (16 + id : Nat)).2 = 0 then vDel Z (vDel Z s (16 + id : Nat)).1 (24 + id : Nat) else vDel Z s (16 + id : Nat)
def pDel (Z : Nat) (s : VSt) (id : Nat) : VSt × Nat := if (pget (view s) id).isSome = true then vAtomic Z s (pDelIn Z id) else (s, 12)
def pCreate (Z : Nat) (s : VSt) (d : PinD) (ok : Bool) : VSt × Nat :=
  if ok = true then (if (pget (view s) d.id).isSome = true then (s, 13) else pPut Z s d d.limit d.cl) else (s, 1)
/-- The counters of a PIN are set at once: those of the value, or of the unblocking code. -/
def pNow (Z : Nat) (s : VSt) (id : Nat) (ub : Bool) (other n : Nat) : VSt × Nat := vNow Z s (24 + id : Nat) (if ub = true then [other, n] else [n, other])
def pSel (ub : Bool) (p : Nat × Nat) : Nat × Nat := if ub = true then (p.2, p.1) else p
def pVal (d : PinD) (ub : Bool) : List Nat := if ub = true then d.code else d.value
def pLim (d : PinD) (ub : Bool) : Nat := if ub = true then d.cl else d.limit
/-- What a guess leaves: the state, what is left, the error; and the states between. -/
structure Guess where
  s : VSt
  left : Nat
  e : Nat
  mid : List Items
def pGuard (Z : Nat) (s : VSt) (d : PinD) (ub : Bool) (g : List Nat) : Guess :=
  let t := (pSel ub (ptry (view s) d.id)).1
  let o := (pSel ub (ptry (view s) d.id)).2
  if t = 0 then
    if s.act = true then
      (let q := pNow Z s d.id ub o 0
      if q.2 = 14 then ⟨q.1, 0, 14, [s.f, q.1.f]⟩ else ⟨q.1, 0, 18, [s.f, q.1.f]⟩)
    else ⟨s, 0, 18, []⟩
  else
    let q := pNow Z s d.id ub o (t - 1)
    if q.2 = 0 then
      if g = pVal d ub then
        (let r := pNow Z q.1 d.id ub o (pLim d ub)
        if r.2 = 0 then ⟨r.1, pLim d ub, 0, [s.f, q.1.f, r.1.f]⟩ else ⟨r.1, 0, r.2, [s.f, q.1.f, r.1.f]⟩)
      else ⟨q.1, t - 1, 17, [s.f, q.1.f]⟩
    else ⟨q.1, 0, q.2, [s.f, q.1.f]⟩
end Vn
end Go.Proofs.YthmahbfmfpjjcaaGreat
/-
  The PINs, in plain numbers: where the vault has nothing but PINs, there is room for all changes.
-/
namespace Go.Proofs.YthmahbfmfpjjcaaGreat
namespace Vn
open Jn

/-- A change that the PINs make. -/
inductive PRec : Rec → Prop
  | pin (d : PinD) (h : POk d) : PRec (16 + d.id, some (pinB d))
  | cnt (id t u : Nat) (h1 : 1 ≤ id) (h8 : id ≤ 8) (ht : t ≤ 15) (hu : u ≤ 15) : PRec (24 + id, some [t, u])
  | del (k : Nat) (h1 : 17 ≤ k) (h2 : k ≤ 32) : PRec (k, none)
theorem PRec.range {r : Rec} (h : PRec r) : 17 ≤ r.1 ∧ r.1 ≤ 32 := by
  cases h with
  | pin d h => have := h.i1; have := h.i8; exact ⟨by show 17 ≤ 16 + d.id; omega, by show 16 + d.id ≤ 32; omega⟩
  | cnt id t u h1 h8 ht hu => exact ⟨by show 17 ≤ 24 + id; omega, by show 24 + id ≤ 32; omega⟩
  | del k h1 h2 => exact ⟨h1, h2⟩
theorem PRec.short {r : Rec} (h : PRec r) : (r.2.getD []).length ≤ 37 := by
  cases h with
  | pin d h => exact h.short
  | cnt id t u h1 h8 ht hu => show 2 ≤ 37; omega
  | del k h1 h2 => show 0 ≤ 37; omega
theorem PRec.ok {r : Rec} (h : PRec r) : ROk r := by
  refine ⟨by have := h.range; omega, by have := h.range; omega, by have := h.short; omega, ?_⟩
  cases h with
  | pin d h => exact h.bytes
  | cnt id t u h1 h8 ht hu =>
    intro k
    match k with
    | 0 => show t < 256; omega
    | 1 => show u < 256; omega
    | k + 2 => show (0 : Nat) < 256; omega
  | del k h1 h2 => exact fun k => by simp
theorem PInvF.set {F : Items} (h : PInvF F) {r : Rec} (hr : PRec r) : PInvF (set1 F r) := by
  refine ⟨fun k b hk => ?_⟩
  unfold set1 at hk
  split at hk
  · rename_i e
    subst e
    cases hr with
    | pin d hd =>
      have hk : some (pinB d) = some b := hk
      cases hk
      exact .inl ⟨d, hd, rfl, rfl⟩
    | cnt id t u h1 h8 ht hu =>
      have hk : some [t, u] = some b := hk
      cases hk
      exact .inr ⟨id, t, u, h1, h8, rfl, rfl, ht, hu⟩
    | del k h1 h2 => cases hk
  · exact h.pin k b hk
theorem PInvF.sets {F : Items} (h : PInvF F) : ∀ (l : List Rec), (∀ r ∈ l, PRec r) → PInvF (sets F l) := by
  intro l
  induction l using snoc_ind with
  | h0 => intro _; exact h
  | h1 l r ih =>
    intro hl
    rw [sets_snoc]
    exact (ih fun x hx => hl x (by simp [hx])).set (hl r (by simp))
theorem PInvF.item {F : Items} (h : PInvF F) {k : Nat} {b : List Nat} (hk : F k = some b) : 17 ≤ k ∧ k ≤ 32 ∧ b.length ≤ 37 := by
  rcases h.pin k b hk with ⟨d, h1, h2, h3⟩ | ⟨id, t, u, h1, h8, h2, h3, -⟩
  · have := h1.i1; have := h1.i8; have := h1.short
    rw [← h3] at this
    omega
  · rw [h3]
    exact ⟨by omega, by omega, by show 2 ≤ 37; omega⟩
theorem sum_le_mul (g : Nat → Nat) (c : Nat) : ∀ ks : List Nat, (∀ k ∈ ks, g k ≤ c) → (ks.map g).sum ≤ c * ks.length
  | [], _ => Nat.le_refl _
  | k :: ks, h => by
    have h1 := h k (by simp)
    have h2 := sum_le_mul g c ks fun x hx => h x (by simp [hx])
    rw [List.map_cons, List.sum_cons, List.length_cons, Nat.mul_succ]
    omega
theorem nodup_le33 {ss : List Nat} (hn : ss.Nodup) (h : ∀ k ∈ ss, k < 33) : ss.length ≤ 33 := by
  have h1 := hn.length_le_of_subset (l₂ := List.range 33) fun x hx => List.mem_range.2 (h x hx)
  simpa using h1
theorem PInvF.wt {F : Items} (h : PInvF F) : wt F ≤ 1800 := by
  have h1 : ∀ k ∈ dom F, 16 + ((F k).getD []).length ≤ 53 := fun k hk => by
    obtain ⟨b, hb⟩ := Option.isSome_iff_exists.1 (mem_dom.1 hk).2
    have := h.item hb
    rw [hb]
    show 16 + b.length ≤ 53
    omega
  have h2 := nodup_le33 (dom_nodup F) fun k hk => by
    obtain ⟨b, hb⟩ := Option.isSome_iff_exists.1 (mem_dom.1 hk).2
    have := h.item hb
    omega
  have h3 := sum_le_mul (fun k => 16 + ((F k).getD []).length) 53 (dom F) h1
  have : Vn.wt F = ((dom F).map fun k => 16 + ((F k).getD []).length).sum := rfl
  omega
theorem need_pins {l : List Rec} (h : ∀ r ∈ l, PRec r) : need l ≤ 1500 := by
  have h2 := nodup_le33 (dom_nodup (lastOf l)) fun k hk => by
    obtain ⟨r, hr⟩ := Option.isSome_iff_exists.1 (mem_dom.1 hk).2
    obtain ⟨e, hm⟩ := lastOf_id hr
    have := (h r hm).range
    omega
  have h3 : ∀ l' : List Rec, (∀ r ∈ l', (r.2.getD []).length ≤ 37) → (l'.map fun r => 8 + (r.2.getD []).length).sum ≤ 45 * l'.length := by
    intro l'
    induction l' with
    | nil => intro _; exact Nat.le_refl _
    | cons r l' ih =>
      intro hl
      have a := hl r (by simp)
      have b := ih fun x hx => hl x (by simp [hx])
      rw [List.map_cons, List.sum_cons, List.length_cons]
      omega
  have h4 := h3 (recsOf (lastOf l)) fun r hr => by
    obtain ⟨k, _, hk⟩ := List.mem_filterMap.1 hr
    exact (h r (lastOf_id hk).2).short
  have h5 : (recsOf (lastOf l)).length ≤ (dom (lastOf l)).length := List.length_filterMap_le _ _
  unfold need
  omega
/-- The vault's state, where there is nothing but PINs. -/
structure PS (s : VSt) : Prop where
  f : PInvF s.f
  l : ∀ r ∈ s.l, PRec r
  idle : s.act = false → s.l = []
theorem PS.view {s : VSt} (h : PS s) : PInvF (view s) := h.f.sets _ h.l
/-- A change is made: in the transaction, or at once. -/
def pApp (s : VSt) (r : Rec) : VSt := if s.act = true then { s with l := s.l ++ [r] } else { s with f := set1 s.f r }
theorem PS.app {s : VSt} (h : PS s) {r : Rec} (hr : PRec r) : PS (pApp s r) := by
  unfold pApp
  split
  · rename_i ha
    refine ⟨h.f, fun x hx => ?_, fun e => ?_⟩
    · rcases List.mem_append.1 hx with hx | hx
      · exact h.l x hx
      · rw [List.mem_singleton.1 hx]; exact hr
    · have e : s.act = false := e
      rw [ha] at e; cases e
  · exact ⟨h.f.set hr, h.l, h.idle⟩
theorem view_app {s : VSt} (h : PS s) (r : Rec) : view (pApp s r) = set1 (view s) r := by
  unfold pApp view
  split
  · exact sets_snoc _ _ _
  · rename_i ha
    have hl : s.l = [] := h.idle (by simpa using ha)
    show sets (set1 s.f r) s.l = set1 (sets s.f s.l) r
    rw [hl]; rfl
theorem vChange_pin {Z : Nat} {s : VSt} {r : Rec} (h : PS s) (hr : PRec r) (hZ : 1800 ≤ Z / 2) : vChange Z s r = (pApp s r, 0) := by
  have hl : ∀ x ∈ s.l ++ [r], PRec x := fun x hx => by
    rcases List.mem_append.1 hx with hx | hx
    · exact h.l x hx
    · rw [List.mem_singleton.1 hx]; exact hr
  have h1 := need_pins hl
  have h2 := (h.f.sets _ hl).wt
  unfold vChange pApp
  rw [if_neg (by omega), if_neg (by omega)]
  split
  · rfl
  · rename_i ha
    have hl : s.l = [] := h.idle (by simpa using ha)
    rw [hl]; rfl
theorem vPut_pin {Z : Nat} {s : VSt} {k : Nat} {b : List Nat} (h : PS s) (hr : PRec (k, some b)) (hZ : 1800 ≤ Z / 2) : vPut Z s (k : Nat) b = (pApp s (k, some b), 0) := by
  have h1 := hr.range
  have h2 := hr.short
  have hv : validB (k : Int) b.length = true := by
    unfold validB
    simp only [Bool.and_eq_true, decide_eq_true_eq]
    have h1 : 17 ≤ k ∧ k ≤ 32 := h1
    have h2 : b.length ≤ 37 := h2
    omega
  unfold vPut
  rw [if_pos hv, Int.toNat_natCast]
  exact vChange_pin h hr hZ
theorem vDel_pin {Z : Nat} {s : VSt} {k : Nat} (h : PS s) (h1 : 17 ≤ k) (h2 : k ≤ 32) (hs : (view s k).isSome = true) (hZ : 1800 ≤ Z / 2) : vDel Z s (k : Nat) = (pApp s (k, none), 0) := by
  have hv : validB (k : Int) 0 = true := by
    unfold validB
    simp only [Bool.and_eq_true, decide_eq_true_eq]
    omega
  have ha : (at_ (sets s.f s.l) (k : Int)).isSome = true := by
    unfold at_
    rw [if_pos (by omega), Int.toNat_natCast]
    exact hs
  unfold vDel
  rw [if_pos hv, if_pos ha, Int.toNat_natCast]
  exact vChange_pin h (.del k h1 h2) hZ
/-- The counters, at once. -/
theorem vNow_pin {Z : Nat} {s : VSt} {id t u : Nat} (h : PS s) (h1 : 1 ≤ id) (h8 : id ≤ 8) (ht : t ≤ 15) (hu : u ≤ 15) (hZ : 1800 ≤ Z / 2) :
    vNow Z s (24 + id : Nat) [t, u] = if (s.l.any fun r => decide (r.1 = 24 + id)) = true then (s, 14) else ({ s with f := set1 s.f (24 + id, some [t, u]) }, 0) := by
  have hv : validB ((24 + id : Nat) : Int) [t, u].length = true := by
    unfold validB
    simp only [Bool.and_eq_true, decide_eq_true_eq, List.length_cons, List.length_nil]
    omega
  have hr : PRec (24 + id, some [t, u]) := .cnt id t u h1 h8 ht hu
  have hw1 := (h.f.set hr).wt
  have hw2 := ((h.f.set hr).sets _ h.l).wt
  have he : (s.l.any fun r => decide (((r.1 : Nat) : Int) = ((24 + id : Nat) : Int))) = s.l.any fun r => decide (r.1 = 24 + id) := by
    congr 1; funext r; congr 1; exact propext (by omega)
  unfold vNow
  rw [if_pos hv, he, Int.toNat_natCast]
  split
  · rfl
  · rw [if_neg (by omega)]
end Vn
end Go.Proofs.YthmahbfmfpjjcaaGreat
/-
  The PINs, in plain numbers: what each call leaves where the vault has nothing but PINs.
-/
namespace Go.Proofs.YthmahbfmfpjjcaaGreat
namespace Vn
open Jn

/-- The transaction has changed the counters of a PIN. -/
def touch (s : VSt) (id : Nat) : Bool := s.l.any fun r => decide (r.1 = 24 + id)
/-- The counters of a PIN are stored at once. -/
def cntS (s : VSt) (id : Nat) (b : List Nat) : VSt := { s with f := set1 s.f (24 + id, some b) }
theorem touch_no {s : VSt} {id : Nat} (h : touch s id = false) : ∀ x ∈ s.l, x.1 ≠ 24 + id := by
  intro x hx e
  unfold touch at h
  rw [List.any_eq_false] at h
  exact h x hx (by simpa using e)
theorem view_cnt {s : VSt} {id : Nat} {b : List Nat} (h : touch s id = false) : view (cntS s id b) = set1 (view s) (24 + id, some b) := by
  unfold view cntS
  exact (sets_swap s.f (24 + id, some b) s.l (touch_no h)).symm
theorem PS.cnt {s : VSt} (h : PS s) {id t u : Nat} (h1 : 1 ≤ id) (h8 : id ≤ 8) (ht : t ≤ 15) (hu : u ≤ 15) : PS (cntS s id [t, u]) := ⟨h.f.set (.cnt id t u h1 h8 ht hu), h.l, h.idle⟩
def two (ub : Bool) (o n : Nat) : List Nat := if ub = true then [o, n] else [n, o]
theorem PS.cnt2 {s : VSt} (h : PS s) {id o n : Nat} (h1 : 1 ≤ id) (h8 : id ≤ 8) (ho : o ≤ 15) (hn : n ≤ 15) (ub : Bool) : PS (cntS s id (two ub o n)) := by
  cases ub
  · exact h.cnt h1 h8 hn ho
  · exact h.cnt h1 h8 ho hn
theorem pNow_is {Z : Nat} {s : VSt} (h : PS s) {id o n : Nat} (h1 : 1 ≤ id) (h8 : id ≤ 8) (ho : o ≤ 15) (hn : n ≤ 15) (hZ : 1800 ≤ Z / 2) (ub : Bool) :
    pNow Z s id ub o n = if touch s id = true then (s, 14) else (cntS s id (two ub o n), 0) := by
  cases ub
  · exact vNow_pin h h1 h8 hn ho hZ
  · exact vNow_pin h h1 h8 ho hn hZ
theorem pNow_ps {Z : Nat} {s : VSt} (h : PS s) {id o n : Nat} (h1 : 1 ≤ id) (h8 : id ≤ 8) (ho : o ≤ 15) (hn : n ≤ 15) (hZ : 1800 ≤ Z / 2) (ub : Bool) :
    PS (pNow Z s id ub o n).1 ∧ (pNow Z s id ub o n).1.l = s.l ∧ (pNow Z s id ub o n).1.act = s.act := by
  rw [pNow_is h h1 h8 ho hn hZ]
  split
  · exact ⟨h, rfl, rfl⟩
  · exact ⟨h.cnt2 h1 h8 ho hn ub, rfl, rfl⟩
theorem pSel_le {ub : Bool} {p : Nat × Nat} (h : p.1 ≤ 15 ∧ p.2 ≤ 15) : (pSel ub p).1 ≤ 15 ∧ (pSel ub p).2 ≤ 15 := by
  cases ub
  · exact h
  · exact ⟨h.2, h.1⟩
theorem pLim_le {d : PinD} (hd : POk d) (ub : Bool) : pLim d ub ≤ 15 := by
  cases ub
  · exact hd.l15
  · exact hd.cl15
theorem pGuard_ps {Z : Nat} {s : VSt} (h : PS s) {d : PinD} (hd : POk d) (hZ : 1800 ≤ Z / 2) (ub : Bool) (g : List Nat) :
    PS (pGuard Z s d ub g).s ∧ (pGuard Z s d ub g).s.l = s.l ∧ (pGuard Z s d ub g).s.act = s.act := by
  have ht := pSel_le (ub := ub) (h.view.tries hd.i1 hd.i8)
  have hl := pLim_le hd ub
  unfold pGuard
  obtain ⟨t, et⟩ : ∃ t, (pSel ub (ptry (view s) d.id)).1 = t := ⟨_, rfl⟩
  obtain ⟨o, eo⟩ : ∃ o, (pSel ub (ptry (view s) d.id)).2 = o := ⟨_, rfl⟩
  rw [et, eo] at ht ⊢
  dsimp only
  have h0 := pNow_ps (Z := Z) h hd.i1 hd.i8 ht.2 (show 0 ≤ 15 by omega) hZ ub
  have h1 := pNow_ps (Z := Z) h hd.i1 hd.i8 ht.2 (show t - 1 ≤ 15 by omega) hZ ub
  split
  · split
    · split
      · exact h0
      · exact h0
    · exact ⟨h, rfl, rfl⟩
  · split
    · split
      · have h2 := pNow_ps (Z := Z) h1.1 hd.i1 hd.i8 ht.2 hl hZ ub
        have h3 : PS (pNow Z (pNow Z s d.id ub o (t - 1)).1 d.id ub o (pLim d ub)).1 ∧ (pNow Z (pNow Z s d.id ub o (t - 1)).1 d.id ub o (pLim d ub)).1.l = s.l ∧ (pNow Z (pNow Z s d.id ub o (t - 1)).1 d.id ub o (pLim d ub)).1.act = s.act := ⟨h2.1, h2.2.1.trans h1.2.1, h2.2.2.trans h1.2.2⟩
        split
        · exact h3
        · exact h3
      · exact h1
    · exact h1
/-! ### Several changes together -/
theorem vAtomic_is {Z : Nat} {s : VSt} {f : VSt → VSt × Nat} {r1 r2 : Rec} (h : PS s) (hr1 : PRec r1) (hr2 : PRec r2) (hZ : 1800 ≤ Z / 2)
    (hf : ∀ s', PS s' → view s' = view s → f s' = (pApp (pApp s' r1) r2, 0)) : vAtomic Z s f = (pApp (pApp s r1) r2, 0) := by
  unfold vAtomic
  by_cases ha : s.act = true
  · rw [if_pos ha, hf s h rfl, if_pos rfl]
  · have ha' : s.act = false := by simpa using ha
    have hl := h.idle ha'
    have hs : PS { s with act := true, l := [] } := ⟨h.f, fun r hr => (List.not_mem_nil hr).elim, fun e => by cases e⟩
    have hv : view { s with act := true, l := [] } = view s := by unfold view; rw [hl]
    have e1 : (pApp (pApp { s with act := true, l := [] } r1) r2) = { s with act := true, l := [r1, r2] } := rfl
    have hw := (h.f.sets [r1, r2] (by
      intro r hr
      simp only [List.mem_cons, List.not_mem_nil, or_false] at hr
      rcases hr with rfl | rfl
      · exact hr1
      · exact hr2)).wt
    have e2 : pApp (pApp s r1) r2 = { f := sets s.f [r1, r2], act := false, l := [] } := by
      unfold pApp
      rw [if_neg ha]
      obtain ⟨f0, a0, l0⟩ := s
      have ha' : a0 = false := ha'
      have hl : l0 = [] := hl
      subst ha'
      subst hl
      rfl
    have e3 : vCommit Z { s with act := true, l := [r1, r2] } = ({ f := sets s.f [r1, r2], act := false, l := [] }, 0) := by
      unfold vCommit
      rw [if_pos rfl, if_neg (by show ¬ Z / 2 < wt (sets s.f [r1, r2]); omega)]
    rw [if_neg ha, hf _ hs hv, e1, if_pos rfl, e3, if_pos rfl, e2]
/-- A PIN is stored, with its counters. -/
def putS (s : VSt) (d : PinD) (t u : Nat) : VSt := pApp (pApp s (16 + d.id, some (pinB d))) (24 + d.id, some [t, u])
/-- A PIN is deleted. -/
def delS (s : VSt) (id : Nat) : VSt := pApp (pApp s (16 + id, none)) (24 + id, none)
theorem pPut_is {Z : Nat} {s : VSt} (h : PS s) {d : PinD} (hd : POk d) {t u : Nat} (ht : t ≤ 15) (hu : u ≤ 15) (hZ : 1800 ≤ Z / 2) : pPut Z s d t u = (putS s d t u, 0) := by
  have p1 : PRec (16 + d.id, some (pinB d)) := .pin d hd
  have p2 : PRec (24 + d.id, some [t, u]) := .cnt d.id t u hd.i1 hd.i8 ht hu
  refine vAtomic_is h p1 p2 hZ fun s' hs' _ => ?_
  unfold pPutIn
  rw [vPut_pin hs' p1 hZ, if_pos rfl, vPut_pin (hs'.app p1) p2 hZ]
/-- The items of a definition and of its counters stand in pairs. -/
def Pairs (F : Items) : Prop := ∀ id, 1 ≤ id → id ≤ 8 → (F (16 + id)).isSome = (F (24 + id)).isSome
theorem Pairs.none : Pairs none_ := fun _ _ _ => rfl
theorem Pairs.set2 {F : Items} (h : Pairs F) {id : Nat} (h1 : 1 ≤ id) (h8 : id ≤ 8) {a b : Option (List Nat)} (hab : a.isSome = b.isSome) : Pairs (set1 (set1 F (16 + id, a)) (24 + id, b)) := by
  intro k k1 k8
  unfold set1
  dsimp only
  by_cases e : k = id
  · subst e
    rw [if_neg (by omega), if_pos rfl, if_pos rfl]; exact hab
  · rw [if_neg (by omega), if_neg (by omega), if_neg (by omega), if_neg (by omega)]; exact h k k1 k8
theorem pget_some {F : Items} (h : PInvF F) {id : Nat} (hs : (pget F id).isSome = true) : (F (16 + id)).isSome = true ∧ 1 ≤ id ∧ id ≤ 8 := by
  obtain ⟨d, hd⟩ := Option.isSome_iff_exists.1 hs
  obtain ⟨h1, h2, h3⟩ := h.get hd
  exact ⟨by rw [h3]; rfl, by rw [← h2]; exact h1.i1, by rw [← h2]; exact h1.i8⟩
theorem pDel_is {Z : Nat} {s : VSt} (h : PS s) (hp : Pairs (view s)) (id : Nat) (hZ : 1800 ≤ Z / 2) : pDel Z s id = if (pget (view s) id).isSome = true then (delS s id, 0) else (s, 12) := by
  unfold pDel
  split
  · rename_i hs
    obtain ⟨g1, g2, g3⟩ := pget_some h.view hs
    have p1 : PRec (16 + id, none) := .del _ (by omega) (by omega)
    have p2 : PRec (24 + id, none) := .del _ (by omega) (by omega)
    refine vAtomic_is h p1 p2 hZ fun s' hs' hv => ?_
    have e1 : vDel Z s' (16 + id : Nat) = (pApp s' (16 + id, none), 0) := vDel_pin hs' (by omega) (by omega) (by rw [hv]; exact g1) hZ
    have e2 : vDel Z (pApp s' (16 + id, none)) (24 + id : Nat) = (pApp (pApp s' (16 + id, none)) (24 + id, none), 0) := by
      refine vDel_pin (hs'.app p1) (by omega) (by omega) ?_ hZ
      rw [view_app hs', hv]
      unfold set1
      dsimp only
      rw [if_neg (by omega), ← hp id g2 g3]; exact g1
    unfold pDelIn
    rw [e1, if_pos rfl, e2]
  · rfl
/-- The state between the calls. -/
structure PSP (s : VSt) : Prop where
  ps : PS s
  pv : Pairs (view s)
  pf : Pairs s.f
  tl : ∀ id, 1 ≤ id → id ≤ 8 → (∃ r ∈ s.l, r.1 = 16 + id) → touch s id = true
/-- Between transactions. -/
def idleS (f : Items) : VSt := { f := f, act := false, l := [] }
theorem view_idle (f : Items) : view (idleS f) = f := rfl
theorem PSP.idle0 {f : Items} (h : PInvF f) (hp : Pairs f) : PSP (idleS f) := ⟨⟨h, fun _ hr => (List.not_mem_nil hr).elim, fun _ => rfl⟩, hp, hp, fun _ _ _ ⟨_, hr, _⟩ => (List.not_mem_nil hr).elim⟩
theorem pApp_act (s : VSt) (r : Rec) : (pApp s r).act = s.act := by unfold pApp; split <;> rfl
theorem PSP.app2 {s : VSt} (h : PSP s) {id : Nat} (h1 : 1 ≤ id) (h8 : id ≤ 8) {a b : Option (List Nat)} (hab : a.isSome = b.isSome) (ha : PRec (16 + id, a)) (hb : PRec (24 + id, b)) : PSP (pApp (pApp s (16 + id, a)) (24 + id, b)) := by
  have hps := (h.ps.app ha).app hb
  refine ⟨hps, ?_, ?_, ?_⟩
  · rw [view_app (h.ps.app ha), view_app h.ps]
    exact h.pv.set2 h1 h8 hab
  · by_cases hact : s.act = true
    · have e : (pApp (pApp s (16 + id, a)) (24 + id, b)).f = s.f := by unfold pApp; simp [hact]
      rw [e]; exact h.pf
    · have e : (pApp (pApp s (16 + id, a)) (24 + id, b)).f = set1 (set1 s.f (16 + id, a)) (24 + id, b) := by unfold pApp; simp [hact]
      rw [e]; exact h.pf.set2 h1 h8 hab
  · intro k k1 k8 ⟨r, hr, er⟩
    by_cases hact : s.act = true
    · have e : (pApp (pApp s (16 + id, a)) (24 + id, b)).l = s.l ++ [(16 + id, a)] ++ [(24 + id, b)] := by unfold pApp; simp [hact]
      unfold touch
      rw [e] at hr ⊢
      simp only [List.mem_append, List.mem_singleton] at hr
      rcases hr with (hr | hr) | hr
      · have := h.tl k k1 k8 ⟨r, hr, er⟩
        unfold touch at this
        rw [List.any_append, List.any_append, this]; rfl
      · rw [hr] at er
        have er : 16 + id = 16 + k := er
        obtain rfl : id = k := by omega
        rw [List.any_append]
        simp
      · rw [hr] at er
        have er : 24 + id = 16 + k := er
        omega
    · have e : (pApp (pApp s (16 + id, a)) (24 + id, b)).l = s.l := by unfold pApp; simp [hact]
      rw [e, h.ps.idle (by simpa using hact)] at hr
      exact (List.not_mem_nil hr).elim
theorem PSP.put {s : VSt} (h : PSP s) {d : PinD} (hd : POk d) {t u : Nat} (ht : t ≤ 15) (hu : u ≤ 15) : PSP (putS s d t u) := h.app2 hd.i1 hd.i8 rfl (.pin d hd) (.cnt d.id t u hd.i1 hd.i8 ht hu)
theorem PSP.del {s : VSt} (h : PSP s) {id : Nat} (h1 : 1 ≤ id) (h8 : id ≤ 8) : PSP (delS s id) := h.app2 h1 h8 rfl (.del _ (by omega) (by omega)) (.del _ (by omega) (by omega))
theorem sets_notin (f : Items) (l : List Rec) (k : Nat) (h : ∀ r ∈ l, r.1 ≠ k) : sets f l k = f k := by
  induction l using snoc_ind with
  | h0 => rfl
  | h1 l r ih =>
    rw [sets_snoc]
    unfold set1
    rw [if_neg (fun e => h r (by simp) e.symm)]
    exact ih fun x hx => h x (by simp [hx])
theorem PSP.free {s : VSt} (h : PSP s) {id : Nat} (h1 : 1 ≤ id) (h8 : id ≤ 8) (ht : touch s id = false) : view s (16 + id) = s.f (16 + id) ∧ view s (24 + id) = s.f (24 + id) :=
  ⟨sets_notin _ _ _ (fun r hr e => by rw [h.tl id h1 h8 ⟨r, hr, e⟩] at ht; cases ht), sets_notin _ _ _ (touch_no ht)⟩
theorem PSP.cnt {s : VSt} (h : PSP s) {id t u : Nat} (h1 : 1 ≤ id) (h8 : id ≤ 8) (ht : t ≤ 15) (hu : u ≤ 15) (hto : touch s id = false) (hs : (view s (16 + id)).isSome = true) : PSP (cntS s id [t, u]) := by
  have hpair : ∀ F : Items, Pairs F → (F (16 + id)).isSome = true → Pairs (set1 F (24 + id, some [t, u])) := by
    intro F hF hs k k1 k8
    unfold set1
    dsimp only
    by_cases e : k = id
    · subst e
      rw [if_neg (by omega), if_pos rfl]; exact hs
    · rw [if_neg (by omega), if_neg (by omega)]; exact hF k k1 k8
  refine ⟨h.ps.cnt h1 h8 ht hu, ?_, ?_, h.tl⟩
  · rw [view_cnt hto]; exact hpair _ h.pv hs
  · exact hpair _ h.pf (by rw [← (h.free h1 h8 hto).1]; exact hs)
theorem PSP.begin {s : VSt} (h : PSP s) (ha : s.act = false) : PSP { s with act := true, l := [] } :=
  ⟨⟨h.ps.f, fun _ hr => (List.not_mem_nil hr).elim, fun e => by cases e⟩, h.pf, h.pf, fun _ _ _ ⟨_, hr, _⟩ => (List.not_mem_nil hr).elim⟩
theorem PSP.commit {s : VSt} (h : PSP s) : PSP (idleS (view s)) := .idle0 h.ps.view h.pv
theorem PSP.abort {s : VSt} (h : PSP s) : PSP (idleS s.f) := .idle0 h.ps.f h.pf
theorem vBegin_pin {s : VSt} : vBegin s = if s.act = true then (s, 14) else ({ s with act := true, l := [] }, 0) := rfl
theorem vCommit_pin {Z : Nat} {s : VSt} (h : PS s) (hZ : 1800 ≤ Z / 2) : vCommit Z s = if s.act = true then (idleS (view s), 0) else (s, 14) := by
  unfold vCommit
  split
  · rw [if_neg (by have := h.view.wt; show ¬ Z / 2 < wt (view s); omega)]; rfl
  · rfl
theorem vAbort_pin {s : VSt} : vAbort s = if s.act = true then (idleS s.f, 0) else (s, 14) := rfl
/-! ### What is seen -/
theorem pget_set {F : Items} {d : PinD} (hd : POk d) (b : Option (List Nat)) (k : Nat) : pget (set1 (set1 F (16 + d.id, some (pinB d))) (24 + d.id, b)) k = if k = d.id then some d else pget F k := by
  by_cases e : k = d.id
  · subst e
    rw [if_pos rfl]
    refine pget_of hd ?_
    unfold set1
    dsimp only
    rw [if_neg (by omega), if_pos rfl]
  · rw [if_neg e]
    unfold pget
    by_cases hk : 1 ≤ k ∧ k ≤ 8
    · have : set1 (set1 F (16 + d.id, some (pinB d))) (24 + d.id, b) (16 + k) = F (16 + k) := by
        have := hd.i1
        unfold set1
        dsimp only
        rw [if_neg (by omega), if_neg (by omega)]
      rw [if_pos hk, if_pos hk, this]
    · rw [if_neg hk, if_neg hk]
theorem pget_del {F : Items} {id : Nat} (h1 : 1 ≤ id) (h8 : id ≤ 8) (k : Nat) : pget (set1 (set1 F (16 + id, none)) (24 + id, none)) k = if k = id then none else pget F k := by
  unfold pget
  by_cases hk : 1 ≤ k ∧ k ≤ 8
  · rw [if_pos hk, if_pos hk]
    unfold set1
    dsimp only
    by_cases e : k = id
    · subst e
      rw [if_neg (by omega), if_pos rfl, if_pos rfl]; rfl
    · rw [if_neg (by omega), if_neg (by omega), if_neg e]
  · rw [if_neg hk, if_neg hk]
    split <;> rfl
theorem pget_cnt {F : Items} {id : Nat} (h1 : 1 ≤ id) (h8 : id ≤ 8) (b : Option (List Nat)) (k : Nat) : pget (set1 F (24 + id, b)) k = pget F k := by
  unfold pget
  by_cases hk : 1 ≤ k ∧ k ≤ 8
  · rw [if_pos hk, if_pos hk]
    unfold set1
    dsimp only
    rw [if_neg (by omega)]
  · rw [if_neg hk, if_neg hk]
theorem ptry_set {F : Items} {id : Nat} {t u : Nat} (k : Nat) : ptry (set1 F (24 + id, some [t, u])) k = if k = id then (t, u) else ptry F k := by
  by_cases e : k = id
  · subst e
    rw [if_pos rfl]
    refine ptry_of ?_
    unfold set1
    rw [if_pos rfl]
  · rw [if_neg e]
    unfold ptry set1
    dsimp only
    rw [if_neg (by omega)]
theorem ptry_pin {F : Items} {id : Nat} (h1 : 1 ≤ id) (h8 : id ≤ 8) (b : Option (List Nat)) {k : Nat} (k1 : 1 ≤ k) : ptry (set1 F (16 + id, b)) k = ptry F k := by
  unfold ptry set1
  dsimp only
  rw [if_neg (by omega)]
end Vn
end Go.Proofs.YthmahbfmfpjjcaaGreat
/-
  The PINs, in plain numbers: what a guess leaves.
-/
namespace Go.Proofs.YthmahbfmfpjjcaaGreat
namespace Vn
open Jn

theorem cntS_cntS (s : VSt) (id : Nat) (a b : List Nat) : cntS (cntS s id a) id b = cntS s id b := by
  unfold cntS
  dsimp only
  congr 1
  funext k
  unfold set1
  dsimp only
  split <;> rfl
theorem touch_cnt (s : VSt) (id k : Nat) (b : List Nat) : touch (cntS s id b) k = touch s k := rfl
/-- What a guess leaves where the transaction has not changed the counters. -/
def freeG (s : VSt) (d : PinD) (ub : Bool) (g : List Nat) : Guess :=
  if (pSel ub (ptry (view s) d.id)).1 = 0 then
    if s.act = true then ⟨cntS s d.id (two ub (pSel ub (ptry (view s) d.id)).2 0), 0, 18, [s.f, (cntS s d.id (two ub (pSel ub (ptry (view s) d.id)).2 0)).f]⟩ else ⟨s, 0, 18, []⟩
  else if g = pVal d ub then
    ⟨cntS s d.id (two ub (pSel ub (ptry (view s) d.id)).2 (pLim d ub)), pLim d ub, 0, [s.f, (cntS s d.id (two ub (pSel ub (ptry (view s) d.id)).2 ((pSel ub (ptry (view s) d.id)).1 - 1))).f, (cntS s d.id (two ub (pSel ub (ptry (view s) d.id)).2 (pLim d ub))).f]⟩
  else ⟨cntS s d.id (two ub (pSel ub (ptry (view s) d.id)).2 ((pSel ub (ptry (view s) d.id)).1 - 1)), (pSel ub (ptry (view s) d.id)).1 - 1, 17, [s.f, (cntS s d.id (two ub (pSel ub (ptry (view s) d.id)).2 ((pSel ub (ptry (view s) d.id)).1 - 1))).f]⟩
theorem pGuard_free {Z : Nat} {s : VSt} (h : PS s) {d : PinD} (hd : POk d) (hZ : 1800 ≤ Z / 2) (ht : touch s d.id = false) (ub : Bool) (g : List Nat) : pGuard Z s d ub g = freeG s d ub g := by
  have hp := pSel_le (ub := ub) (h.view.tries hd.i1 hd.i8)
  have hl := pLim_le hd ub
  unfold pGuard freeG
  obtain ⟨t, et⟩ : ∃ t, (pSel ub (ptry (view s) d.id)).1 = t := ⟨_, rfl⟩
  obtain ⟨o, eo⟩ : ∃ o, (pSel ub (ptry (view s) d.id)).2 = o := ⟨_, rfl⟩
  rw [et, eo] at hp ⊢
  dsimp only
  have e0 := pNow_is (Z := Z) h hd.i1 hd.i8 hp.2 (show 0 ≤ 15 by omega) hZ ub
  have e1 := pNow_is (Z := Z) h hd.i1 hd.i8 hp.2 (show t - 1 ≤ 15 by omega) hZ ub
  have e2 := pNow_is (Z := Z) (h.cnt2 hd.i1 hd.i8 hp.2 (show t - 1 ≤ 15 by omega) ub) hd.i1 hd.i8 hp.2 hl hZ ub
  rw [touch_cnt, if_neg (by rw [ht]; decide), cntS_cntS] at e2
  rw [if_neg (by rw [ht]; decide)] at e0 e1
  rw [e0, e1]
  dsimp only
  rw [e2]
  split
  · split
    · rw [if_neg (by decide)]
    · rfl
  · rw [if_pos rfl]
    split
    · rw [if_pos rfl]
    · rfl
/-- .. and where it has. -/
theorem pGuard_held {Z : Nat} {s : VSt} (h : PS s) {d : PinD} (hd : POk d) (hZ : 1800 ≤ Z / 2) (ht : touch s d.id = true) (ub : Bool) (g : List Nat) : pGuard Z s d ub g = ⟨s, 0, 14, [s.f, s.f]⟩ := by
  have hp := pSel_le (ub := ub) (h.view.tries hd.i1 hd.i8)
  have ha : s.act = true := by
    cases ha : s.act with
    | true => rfl
    | false =>
      have := h.idle ha
      unfold touch at ht
      rw [this] at ht
      cases ht
  unfold pGuard
  obtain ⟨t, et⟩ : ∃ t, (pSel ub (ptry (view s) d.id)).1 = t := ⟨_, rfl⟩
  obtain ⟨o, eo⟩ : ∃ o, (pSel ub (ptry (view s) d.id)).2 = o := ⟨_, rfl⟩
  rw [et, eo] at hp ⊢
  dsimp only
  have e0 := pNow_is (Z := Z) h hd.i1 hd.i8 hp.2 (show 0 ≤ 15 by omega) hZ ub
  have e1 := pNow_is (Z := Z) h hd.i1 hd.i8 hp.2 (show t - 1 ≤ 15 by omega) hZ ub
  rw [if_pos ht] at e0 e1
  rw [e0, e1]
  dsimp only
  by_cases h0 : t = 0
  · rw [if_pos h0, if_pos ha, if_pos rfl]
  · rw [if_neg h0, if_neg (by decide)]
theorem view_put {s : VSt} (h : PS s) {d : PinD} (hd : POk d) {t u : Nat} : view (putS s d t u) = set1 (set1 (view s) (16 + d.id, some (pinB d))) (24 + d.id, some [t, u]) := by
  unfold putS
  rw [view_app (h.app (.pin d hd)), view_app h]
theorem view_del {s : VSt} (h : PS s) {id : Nat} (h1 : 1 ≤ id) (h8 : id ≤ 8) : view (delS s id) = set1 (set1 (view s) (16 + id, none)) (24 + id, none) := by
  unfold delS
  rw [view_app (h.app (.del _ (by omega) (by omega))), view_app h]
theorem pget_put {s : VSt} (h : PS s) {d : PinD} (hd : POk d) {t u : Nat} (k : Nat) : pget (view (putS s d t u)) k = if k = d.id then some d else pget (view s) k := by
  rw [view_put h hd, pget_set hd]
theorem ptry_put {s : VSt} (h : PS s) {d : PinD} (hd : POk d) {t u : Nat} {k : Nat} (k1 : 1 ≤ k) : ptry (view (putS s d t u)) k = if k = d.id then (t, u) else ptry (view s) k := by
  rw [view_put h hd, ptry_set]
  split
  · rfl
  · exact ptry_pin hd.i1 hd.i8 _ k1
theorem pget_delS {s : VSt} (h : PS s) {id : Nat} (h1 : 1 ≤ id) (h8 : id ≤ 8) (k : Nat) : pget (view (delS s id)) k = if k = id then none else pget (view s) k := by
  rw [view_del h h1 h8, pget_del h1 h8]
theorem ptry_delS {s : VSt} (h : PS s) {id : Nat} (h1 : 1 ≤ id) (h8 : id ≤ 8) {k : Nat} (k1 : 1 ≤ k) (hk : k ≠ id) : ptry (view (delS s id)) k = ptry (view s) k := by
  rw [view_del h h1 h8]
  unfold ptry set1
  dsimp only
  rw [if_neg (by omega), if_neg (by omega)]
theorem pget_cntS {s : VSt} {id : Nat} (h1 : 1 ≤ id) (h8 : id ≤ 8) (ht : touch s id = false) (b : List Nat) (k : Nat) : pget (view (cntS s id b)) k = pget (view s) k := by
  rw [view_cnt ht, pget_cnt h1 h8]
theorem ptry_cntS {s : VSt} {id : Nat} (ht : touch s id = false) (t u k : Nat) : ptry (view (cntS s id [t, u])) k = if k = id then (t, u) else ptry (view s) k := by
  rw [view_cnt ht, ptry_set]
end Vn
end Go.Proofs.YthmahbfmfpjjcaaGreat
