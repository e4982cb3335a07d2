/-
  What the calls of a vault do, in plain numbers.
-/
import Derived.Test.YtoehlaeaafalmaaGreatCG15
set_option linter.unusedVariables false
set_option linter.unusedSimpArgs false
namespace Go.Proofs.YtoehlaeaafalmaaGreat
open Go.RowKit
open Jn Vn
def at_ (f:Items) (id:Int):Option (List Nat):=if 0≤id then f id.toNat else none
theorem XM (g:Nat→Nat) (p:Nat→Bool):∀ l:List Nat,((l.filter p).map g).sum = (l.map fun k=>if p k then g k else 0).sum
 | []=>rfl
 | k :: l=>by
  have ih:=XM g p l;rw [List.filter_cons,List.map_cons,List.sum_cons]
  cases hp:p k with
  | true=>rw [if_pos rfl,List.map_cons,List.sum_cons,ih,if_pos rfl]
  | false=>rw [if_neg (by decide),ih,if_neg (by decide),Nat.zero_add]
theorem Za4 (g h:Nat→Nat) (hgh:∀ k,g k≤h k):∀ l:List Nat,(l.map g).sum≤(l.map h).sum
 | []=>Nat.le_refl _
 | k :: l=>by
  have:=Za4 g h hgh l;have:=hgh k;simp only [List.map_cons,List.sum_cons];omega
theorem Ze4 {f g:Items} (h:∀ k,f k = g k ∨ f k = none):wt f≤wt g:=by
 unfold wt dom;rw [XM,XM];refine Za4 _ _ (fun k=>?_) _;rcases h k with e | e
 ·rw [e];exact Nat.le_refl _
 ·rw [e];simp
theorem Ze5 (f:Items) (id:Nat):wt (set1 f (id,none))≤wt f:=Ze4 fun k=>by
 unfold set1;by_cases e:k = id
 ·exact .inr (by simp [e])
 ·exact .inl (by simp [e])
def vChange (Z:Nat) (s:VSt) (r:Rec):VSt × Nat :=
 if s.act = true∧4096 < Vn.need (s.l ++ [r]) then (s,11)
 else if r.2.isSome = true∧Z / 2 < wt (sets s.f (s.l ++ [r])) then (s,10)
 else if s.act = true then ({ s with l:=s.l ++ [r] },0) else ({ s with f:=sets s.f (s.l ++ [r]) },0)
def vPut (Z:Nat) (s:VSt) (id:Int) (d:List Nat):VSt × Nat:=if validB id d.length = true then vChange Z s (id.toNat,some d) else (s,1)
def vBegin (s:VSt):VSt × Nat:=if s.act = true then (s,14) else ({ s with act:=true,l:=[] },0)
def vCommit (Z:Nat) (s:VSt):VSt × Nat:=if s.act = true then (if Z / 2 < wt (sets s.f s.l) then (s,10) else ({ f:=sets s.f s.l,act:=false,l:=[] },0)) else (s,14)
def vAbort (s:VSt):VSt × Nat:=if s.act = true then ({ s with act:=false,l:=[] },0) else (s,14)
theorem Za5 {id:Int} {d:List Nat} (h:validB id d.length = true) (hb:Bytes d):ROk (id.toNat,some d)∧((id.toNat:Nat):Int) = id:=by
 unfold validB at h;simp only [Bool.and_eq_true,decide_eq_true_eq] at h;exact ⟨⟨by show 1≤id.toNat;omega,by show id.toNat≤4096;omega,h.2,hb⟩,by omega⟩
def vDel (Z:Nat) (s:VSt) (id:Int):VSt × Nat:=if validB id 0 = true then (if (at_ (sets s.f s.l) id).isSome = true then vChange Z s (id.toNat,none) else (s,12)) else (s,1)
theorem Ze6 {id:Int} (h:validB id 0 = true):ROk (id.toNat,none)∧((id.toNat:Nat):Int) = id∧1≤id∧id≤4096:=by
 unfold validB at h;simp only [Bool.and_eq_true,decide_eq_true_eq] at h;exact ⟨⟨by show 1≤id.toNat;omega,by show id.toNat≤4096;omega,Nat.zero_le _,ZaE⟩,by omega,h.1.1,h.1.2⟩
def vNow (Z:Nat) (s:VSt) (id:Int) (d:List Nat):VSt × Nat :=
 if validB id d.length = true then
  if (s.l.any fun r=>decide (((r.1:Nat):Int) = id)) = true then (s,14)
  else if Z / 2 < wt (set1 s.f (id.toNat,some d)) ∨ Z / 2 < wt (sets (set1 s.f (id.toNat,some d)) s.l) then (s,10)
  else ({ s with f:=set1 s.f (id.toNat,some d) },0)
 else (s,1)
theorem Ze7 (f:Items) {r x:Rec} (h:x.1 ≠ r.1):set1 (set1 f x) r = set1 (set1 f r) x:=by
 funext k
 unfold set1;by_cases h1:k = r.1
 ·by_cases h2:k = x.1
  ·exact absurd (h2.symm.trans h1) h
  ·simp [h1,Ne.symm h]
 ·simp [h1]
theorem Za6 (f:Items) (r:Rec) (l:List Rec) (h:∀ x ∈ l,x.1 ≠ r.1):set1 (sets f l) r = sets (set1 f r) l:=by
 induction l using Yk with
 | h0=>rfl
 | h1 l x ih=>rw [ZI,ZI,Ze7 _ (h x (by simp)),ih fun y hy=>h y (by simp [hy])]
end Go.Proofs.YtoehlaeaafalmaaGreat
/-
 The PINs, in plain numbers: definitions as items of a vault, and what the calls do.
-/
namespace Go.Proofs.YtoehlaeaafalmaaGreat
namespace Vn
open Jn
def view (s:VSt):Items:=sets s.f s.l
end Vn
end Go.Proofs.YtoehlaeaafalmaaGreat
/-
 The PINs, in plain numbers: where the vault has nothing but PINs, there is room for all changes.
-/
namespace Go.Proofs.YtoehlaeaafalmaaGreat
namespace Vn
open Jn
end Vn
end Go.Proofs.YtoehlaeaafalmaaGreat
/-
 The PINs, in plain numbers: what each call leaves where the vault has nothing but PINs.
-/
namespace Go.Proofs.YtoehlaeaafalmaaGreat
namespace Vn
open Jn
def two (ub:Bool) (o n:Nat):List Nat:=if ub = true then [o,n] else [n,o]
def idleS (f:Items):VSt:={ f:=f,act:=false,l:=[] }
theorem view_idle (f:Items):view (idleS f) = f:=rfl
end Vn
end Go.Proofs.YtoehlaeaafalmaaGreat
/-
 The PINs, in plain numbers: what a guess leaves.
-/
namespace Go.Proofs.YtoehlaeaafalmaaGreat
namespace Vn
open Jn
end Vn
end Go.Proofs.YtoehlaeaafalmaaGreat
