/-
  The registry, in plain numbers: entries and their bytes; the order of identifiers.
-/
import Derived.Test.YtanioleniadhoaaGreatAG10
set_option linter.unusedVariables false
set_option linter.unusedSimpArgs false
namespace Go.Proofs.YtanioleniadhoaaGreat
open Go.RowKit
namespace Vn
end Vn
open Jn Vn
namespace Rg
structure En where
 kind:Nat
 st:Nat
 bf:Nat
 pr:Nat
 pk:Nat
 ob:Nat
 aid:List Nat
 dom:List Nat
deriving DecidableEq
def enB (e:En):List Nat:=[e.kind,e.st,e.bf,e.pr,e.pk,e.ob / 256,e.ob % 256,e.aid.length] ++ (e.aid ++ e.dom)
structure EOk (e:En):Prop where
 k1:1≤e.kind
 k3:e.kind≤3
 a5:5≤e.aid.length
 a16:e.aid.length≤16
 d5:5≤e.dom.length
 d16:e.dom.length≤16
 sp:e.kind = 3→e.st = 1
 sn:e.kind ≠ 3→2≤e.st∧e.st≤5
 bl:e.st = 5→2≤e.bf∧e.bf≤4
 bn:e.st ≠ 5→e.bf = 0
 p31:e.pr≤31
 pp:e.kind = 3→e.pr = 0
 nd:e.kind = 1→e.pk = 0
 nn:e.kind ≠ 1→1≤e.pk∧e.pk≤16
 oa:e.kind = 2→1≤e.ob∧e.ob≤512
 on:e.kind ≠ 2→e.ob = 0
 ne:e.kind ≠ 1→e.aid ≠ e.dom
 ba:Bytes e.aid
 bd:Bytes e.dom
theorem enB_len (e:En):(enB e).length = 8 + (e.aid.length + e.dom.length):=by simp [enB];omega
theorem EOk.len {e:En} (h:EOk e):(enB e).length≤40:=by have:=h.a16;have:=h.d16;rw [enB_len];omega
def cmpB:List Nat→List Nat→Int
 | [],[]=>0
 | [],_ :: _=>-1
 | _ :: _,[]=>1
 | a :: xs,b :: ys=>if a < b then -1 else if b < a then 1 else cmpB xs ys
theorem cmpB_self:∀ a,cmpB a a = 0
 | []=>rfl
 | a :: xs=>by unfold cmpB;rw [if_neg (by omega),if_neg (by omega)];exact cmpB_self xs
theorem cmpB_eq:∀ {a b:List Nat},cmpB a b = 0→a = b
 | [],[],_=>rfl
 | [],_ :: _,h=>by cases h
 | _ :: _,[],h=>by cases h
 | a :: xs,b :: ys,h=>by
  unfold cmpB at h
  split at h
  ·cases h
  ·split at h
   ·cases h
   ·rw [cmpB_eq h,show a = b by omega]
end Rg
end Go.Proofs.YtanioleniadhoaaGreat
/-
 The order of identifiers, step by step.
-/
namespace Go.Proofs.YtanioleniadhoaaGreat
open Go.RowKit
open Jn Vn
namespace Rg
theorem cmpB_step:∀ (k:Nat) (a b:List Nat),k≤a.length→k≤b.length→a.take k = b.take k→cmpB a b = cmpB (a.drop k) (b.drop k)
 | 0,a,b,_,_,_=>rfl
 | k + 1,[],b,h,_,_=>by simp at h
 | k + 1,x :: xs,[],_,h,_=>by simp at h
 | k + 1,x :: xs,y :: ys,h1,h2,h=>by
  simp only [List.take_succ_cons,List.cons.injEq] at h;obtain ⟨rfl,h⟩:=h;have e:cmpB (x :: xs) (x :: ys) = if x < x then -1 else if x < x then 1 else cmpB xs ys:=rfl;rw [e,if_neg (Nat.lt_irrefl _),if_neg (Nat.lt_irrefl _)];exact cmpB_step k xs ys (by simpa using h1) (by simpa using h2) h
theorem drop_get {a:List Nat} {k:Nat} (h:k < a.length):a.drop k = a.getD k 0 :: a.drop (k + 1):=by
 rw [List.drop_eq_getElem_cons h,gd0,List.getElem?_eq_getElem h];rfl
theorem cmpB_at {a b:List Nat} {k:Nat} (h1:k < a.length) (h2:k < b.length) (h:a.take k = b.take k) :
  cmpB a b = if a.getD k 0 < b.getD k 0 then -1 else if b.getD k 0 < a.getD k 0 then 1 else cmpB (a.drop (k + 1)) (b.drop (k + 1)):=by
 rw [cmpB_step k a b (by omega) (by omega) h,drop_get h1,drop_get h2]
 rfl
theorem cmpB_lt {a b:List Nat} {k:Nat} (h1:k < a.length) (h2:k < b.length) (h:a.take k = b.take k) (hl:a.getD k 0 < b.getD k 0):cmpB a b = -1:=by
 rw [cmpB_at h1 h2 h,if_pos hl]
theorem cmpB_gt {a b:List Nat} {k:Nat} (h1:k < a.length) (h2:k < b.length) (h:a.take k = b.take k) (hl:b.getD k 0 < a.getD k 0):cmpB a b = 1:=by
 rw [cmpB_at h1 h2 h,if_neg (by omega),if_pos hl]
theorem cmpB_end {a b:List Nat} {k:Nat} (h1:k≤a.length) (h2:k≤b.length) (h:a.take k = b.take k) (he:¬ (k < a.length∧k < b.length)) :
  cmpB a b = if a.length < b.length then -1 else if b.length < a.length then 1 else 0:=by
 rw [cmpB_step k a b h1 h2 h];by_cases ha:k < a.length
 ·have:k = b.length:=by omega
  have h3:b.drop k = []:=List.drop_eq_nil_of_le (by omega);rw [if_neg (by omega),if_pos (by omega),drop_get ha,h3]
  rfl
 ·by_cases hb:k < b.length
  ·have h3:a.drop k = []:=List.drop_eq_nil_of_le (by omega);rw [if_pos (by omega),drop_get hb,h3]
   rfl
  ·have h3:a.drop k = []:=List.drop_eq_nil_of_le (by omega);have h4:b.drop k = []:=List.drop_eq_nil_of_le (by omega);rw [if_neg (by omega),if_neg (by omega),h3,h4]
   rfl
end Rg
end Go.Proofs.YtanioleniadhoaaGreat
