/-
  The registry, in plain numbers: entries and their bytes; the order of identifiers.
-/
import Derived.Test.YthmahbfmfpjjcaaGreatQG10
set_option linter.unusedVariables false
set_option linter.unusedSimpArgs false
namespace Go.Proofs.YthmahbfmfpjjcaaGreat
open Go.RowKit
namespace Vn
end Vn
open Jn Vn
namespace Rg
structure En where
 kind:Nat
 st:Nat
 bf:Nat
 pr:Nat
 pk:Nat
 ob:Nat
 aid:List Nat
 dom:List Nat
deriving DecidableEq
def enB (e:En):List Nat:=[e.kind,e.st,e.bf,e.pr,e.pk,e.ob / 256,e.ob % 256,e.aid.length] ++ (e.aid ++ e.dom)
def zeroE:En:=⟨0,0,0,0,0,0,[],[]⟩
def unE (b:List Nat):En :=
 if b.length < 8 ∨ b.length < 8 + b.getD 7 0 then zeroE
 else ⟨b.getD 0 0,b.getD 1 0,b.getD 2 0,b.getD 3 0,b.getD 4 0,b.getD 5 0 * 256 + b.getD 6 0,(b.drop 8).take (b.getD 7 0),(b.drop 8).drop (b.getD 7 0)⟩
theorem Xy (e:En):unE (enB e) = e:=by
 obtain ⟨kind,st,bf,pr,pk,ob,aid,dom⟩:=e;have hl:(enB ⟨kind,st,bf,pr,pk,ob,aid,dom⟩).length = 8 + (aid.length + dom.length):=by simp [enB];omega
 have h7:(enB ⟨kind,st,bf,pr,pk,ob,aid,dom⟩).getD 7 0 = aid.length:=rfl;unfold unE;rw [if_neg (by rw [hl,h7];omega),h7];have hd:(enB ⟨kind,st,bf,pr,pk,ob,aid,dom⟩).drop 8 = aid ++ dom:=rfl;have ho:ob / 256 * 256 + ob % 256 = ob:=by omega
 rw [hd,List.take_left' rfl,List.drop_left' rfl]
 show En.mk kind st bf pr pk (ob / 256 * 256 + ob % 256) aid dom = _
 rw [ho]
structure EOk (e:En):Prop where
 k1:1≤e.kind
 k3:e.kind≤3
 a5:5≤e.aid.length
 a16:e.aid.length≤16
 d5:5≤e.dom.length
 d16:e.dom.length≤16
 sp:e.kind = 3→e.st = 1
 sn:e.kind ≠ 3→2≤e.st∧e.st≤5
 bl:e.st = 5→2≤e.bf∧e.bf≤4
 bn:e.st ≠ 5→e.bf = 0
 p31:e.pr≤31
 pp:e.kind = 3→e.pr = 0
 nd:e.kind = 1→e.pk = 0
 nn:e.kind ≠ 1→1≤e.pk∧e.pk≤16
 oa:e.kind = 2→1≤e.ob∧e.ob≤512
 on:e.kind ≠ 2→e.ob = 0
 ne:e.kind ≠ 1→e.aid ≠ e.dom
 ba:Bytes e.aid
 bd:Bytes e.dom
theorem ZaM (e:En):(enB e).length = 8 + (e.aid.length + e.dom.length):=by simp [enB];omega
theorem EOk.len {e:En} (h:EOk e):(enB e).length≤40:=by have:=h.a16;have:=h.d16;rw [ZaM];omega
theorem EOk.st5 {e:En} (h:EOk e):e.st≤5:=by
 by_cases hk:e.kind = 3
 ·rw [h.sp hk];omega
 ·exact (h.sn hk).2
theorem EOk.bf4 {e:En} (h:EOk e):e.bf≤4:=by
 by_cases hk:e.st = 5
 ·exact (h.bl hk).2
 ·rw [h.bn hk];omega
theorem EOk.pk16 {e:En} (h:EOk e):e.pk≤16:=by
 by_cases hk:e.kind = 1
 ·rw [h.nd hk];omega
 ·exact (h.nn hk).2
theorem EOk.ob512 {e:En} (h:EOk e):e.ob≤512:=by
 by_cases hk:e.kind = 2
 ·exact (h.oa hk).2
 ·rw [h.on hk];omega
def cmpB:List Nat→List Nat→Int
 | [],[]=>0
 | [],_ :: _=>-1
 | _ :: _,[]=>1
 | a :: xs,b :: ys=>if a < b then -1 else if b < a then 1 else cmpB xs ys
theorem Xz:∀ a,cmpB a a = 0
 | []=>rfl
 | a :: xs=>by unfold cmpB;rw [if_neg (by omega),if_neg (by omega)];exact Xz xs
theorem XA:∀ {a b:List Nat},cmpB a b = 0→a = b
 | [],[],_=>rfl
 | [],_ :: _,h=>by cases h
 | _ :: _,[],h=>by cases h
 | a :: xs,b :: ys,h=>by
  unfold cmpB at h
  split at h
  ·cases h
  ·split at h
   ·cases h
   ·rw [XA h,show a = b by omega]
theorem ZaN:∀ a b:List Nat,cmpB b a = - cmpB a b
 | [],[]=>rfl
 | [],_ :: _=>rfl
 | _ :: _,[]=>rfl
 | a :: xs,b :: ys=>by
  unfold cmpB;by_cases h1:a < b
  ·rw [if_pos h1,if_neg (by omega),if_pos h1];rfl
  ·by_cases h2:b < a
   ·rw [if_pos h2,if_neg h1,if_pos h2]
   ·rw [if_neg h2,if_neg h1,if_neg h1,if_neg h2];exact ZaN xs ys
theorem YG:∀ a b:List Nat,cmpB a b = -1 ∨ cmpB a b = 0 ∨ cmpB a b = 1
 | [],[]=>.inr (.inl rfl)
 | [],_ :: _=>.inl rfl
 | _ :: _,[]=>.inr (.inr rfl)
 | a :: xs,b :: ys=>by
  unfold cmpB
  split
  ·exact .inl rfl
  ·split
   ·exact .inr (.inr rfl)
   ·exact YG xs ys
def ltB (a b:List Nat):Bool:=decide (cmpB a b < 0)
theorem XC:∀ {a b c:List Nat},ltB a b = true→ltB b c = true→ltB a c = true:=by
 have key:∀ a b c:List Nat,cmpB a b = -1→cmpB b c = -1→cmpB a c = -1:=by
  intro a
  induction a with
  | nil =>
   intro b c h1 h2
   cases b with
   | nil=>cases h1
   | cons b ys =>
    cases c with
    | nil=>cases h2
    | cons c zs=>rfl
  | cons a xs ih =>
   intro b c h1 h2
   cases b with
   | nil=>cases h1
   | cons b ys =>
    cases c with
    | nil=>cases h2
    | cons c zs =>
     unfold cmpB at h1 h2 ⊢;by_cases e1:a < b
     ·by_cases e2:b < c
      ·rw [if_pos (show a < c by omega)]
      ·rw [if_neg e2] at h2;by_cases e3:c < b
       ·rw [if_pos e3] at h2;cases h2
       ·rw [if_pos (show a < c by omega)]
     ·rw [if_neg e1] at h1;by_cases e3:b < a
      ·rw [if_pos e3] at h1;cases h1
      ·rw [if_neg e3] at h1;by_cases e2:b < c
       ·rw [if_pos (show a < c by omega)]
       ·rw [if_neg e2] at h2;by_cases e4:c < b
        ·rw [if_pos e4] at h2;cases h2
        ·rw [if_neg e4] at h2;rw [if_neg (show ¬ a < c by omega),if_neg (show ¬ c < a by omega)];exact ih ys zs h1 h2
 intro a b c h1 h2;unfold ltB at *;simp only [decide_eq_true_eq] at *;have h3:cmpB a b = -1:=by rcases YG a b with e | e | e <;> omega
 have h4:cmpB b c = -1:=by rcases YG b c with e | e | e <;> omega
 have:=key a b c h3 h4;omega
theorem ZS (a:List Nat):ltB a a = false:=by unfold ltB;rw [Xz];rfl
theorem ZaO (a b:List Nat):ltB a b = true ∨ a = b ∨ ltB b a = true:=by
 unfold ltB;rw [ZaN a b];simp only [decide_eq_true_eq];rcases YG a b with e | e | e
 ·left;omega
 ·right;left;exact XA e
 ·right;right;omega
end Rg
end Go.Proofs.YthmahbfmfpjjcaaGreat
/-
 The registry, in plain numbers: the reference's calls on a list of entries, and what holds of the list.
-/
namespace Go.Proofs.YthmahbfmfpjjcaaGreat
open Go.RowKit
open Jn Vn
namespace Rg
def isIss (e:En):Bool:=decide (e.kind = 1) && decide (e.aid = e.dom)
def isImp (e:En):Bool:=decide (e.pr % 2 = 1)
def isSel (e:En):Bool:=decide (e.kind ≠ 3) && (decide (e.st = 3) || decide (e.st = 4))
def isPak (n:Nat) (e:En):Bool:=decide (e.kind = 3) && decide (e.pk = n)
def isAid (a:List Nat) (e:En):Bool:=decide (e.aid = a)
def isDom (a:List Nat) (e:En):Bool:=decide (e.aid = a) && decide (e.kind = 1)
def dep (on e:En):Bool:=!decide (e.aid = on.aid) && (decide (e.dom = on.aid) || (decide (e.kind = 2) && decide (on.kind = 3) && decide (e.pk = on.pk)))
def ins (e:En) (l:List En):List En:=l.takeWhile (fun x=>ltB x.aid e.aid) ++ e :: l.dropWhile (fun x=>ltB x.aid e.aid)
def rFind (l:List En) (a:List Nat):Option En:=l.find? (isAid a)
def rAdd (l:List En) (e:En):List En × Nat :=
 if l.any (isAid e.aid) = true then (l,13)
 else if isIss e = false∧l.any (isDom e.dom) = false then (l,12)
 else if isIss e = true∧0 < l.length then (l,14)
 else if e.kind = 2∧l.any (isPak e.pk) = false then (l,12)
 else if e.kind = 3∧l.any (isPak e.pk) = true then (l,13)
 else if isImp e = true∧l.any isImp = true then (l,14)
 else if 32≤l.length then (l,10)
 else (ins e l,0)
def rRemove (l:List En) (a:List Nat):List En × Nat:=match rFind l a with
 | none=>(l,12)
 | some e=>if isIss e = true then (l,14) else if l.any (dep e) = true then (l,15) else (l.filter (fun x=>!isAid a x),0)
def repl (l:List En) (e:En):List En:=l.map fun x=>if x.aid = e.aid then e else x
def rChange (l:List En) (a:List Nat) (f:En→En × Nat):List En × Nat:=match rFind l a with
 | none=>(l,12)
 | some e=>if (f e).2 = 0 then (repl l (f e).1,0) else (l,(f e).2)
structure RInv (l:List En):Prop where
 ok:∀ e ∈ l,EOk e
 srt:l.Pairwise fun a b=>ltB a.aid b.aid = true
 dom:∀ e ∈ l,∃ d ∈ l,d.aid = e.dom∧d.kind = 1
 iss:l ≠ []→∃ d ∈ l,isIss d = true
 is1:∀ a ∈ l,∀ b ∈ l,isIss a = true→isIss b = true→a = b
 imp:∀ a ∈ l,∀ b ∈ l,isImp a = true→isImp b = true→a = b
 pak:∀ e ∈ l,e.kind ≠ 1→∃ d ∈ l,isPak e.pk d = true
 pk1:∀ a ∈ l,∀ b ∈ l,a.kind = 3→b.kind = 3→a.pk = b.pk→a = b
 len:l.length≤32
theorem RInv.nil:RInv []:=⟨fun _ h=>by simp at h,.nil,fun _ h=>by simp at h,fun h=>absurd rfl h,fun _ h=>by simp at h,fun _ h=>by simp at h,fun _ h=>by simp at h,fun _ h=>by simp at h,by simp⟩
theorem ZG {l:List En} (h:l.Pairwise fun a b=>ltB a.aid b.aid = true):∀ {a b:En},a ∈ l→b ∈ l→a.aid = b.aid→a = b:=by
 induction l with
 | nil=>intro a b ha;simp at ha
 | cons x xs ih =>
  intro a b ha hb e;rw [List.pairwise_cons] at h;rcases List.mem_cons.1 ha with rfl | ha'
  ·rcases List.mem_cons.1 hb with rfl | hb
   ·rfl
   ·have:=h.1 b hb;rw [e,ZS] at this;cases this
  ·rcases List.mem_cons.1 hb with rfl | hb
   ·have:=h.1 a ha';rw [e,ZS] at this;cases this
   ·exact ih h.2 ha' hb e
theorem XD (e:En) (l:List En):(ins e l).Perm (e :: l):=by
 unfold ins;refine List.perm_middle.trans ?_;rw [List.takeWhile_append_dropWhile]
theorem Ze {e x:En} {l:List En}:x ∈ ins e l ↔ x = e ∨ x ∈ l:=by
 rw [(XD e l).mem_iff,List.mem_cons]
theorem ZaP {e:En}:∀ {l:List En},l.Pairwise (fun a b=>ltB a.aid b.aid = true)→(∀ x ∈ l,x.aid ≠ e.aid)→(ins e l).Pairwise fun a b=>ltB a.aid b.aid = true
 | [],_,_=>by unfold ins;simp
 | x :: xs,h,hn=>by
  have h':=List.pairwise_cons.1 h;unfold ins
  cases hx:ltB x.aid e.aid with
  | true =>
   rw [List.takeWhile_cons_of_pos (by simpa using hx),List.dropWhile_cons_of_pos (by simpa using hx),List.cons_append,List.pairwise_cons];refine ⟨fun y hy=>?_,ZaP h'.2 fun y hy=>hn y (List.mem_cons_of_mem _ hy)⟩;rcases Ze.1 hy with rfl | hy
   ·exact hx
   ·exact h'.1 y hy
  | false =>
   rw [List.takeWhile_cons_of_neg (by simp [hx]),List.dropWhile_cons_of_neg (by simp [hx]),List.nil_append,List.pairwise_cons]
   have hex:ltB e.aid x.aid = true:=by
    rcases ZaO e.aid x.aid with h1 | h1 | h1
    ·exact h1
    ·exact absurd h1.symm (hn x (List.mem_cons_self ..))
    ·rw [hx] at h1;cases h1
   refine ⟨fun y hy=>?_,h⟩;rcases List.mem_cons.1 hy with rfl | hy
   ·exact hex
   ·exact XC hex (h'.1 y hy)
theorem YH {l:List En} {p:En→Bool} (h:l.any p = false):∀ x ∈ l,p x = false:=fun x hx=>by
 rw [List.any_eq_false] at h;simpa using h x hx
theorem ZaQ {l:List En} (h:RInv l) {e:En} (he:EOk e):RInv (rAdd l e).1:=by
 unfold rAdd;by_cases c1:l.any (isAid e.aid) = true
 ·rw [if_pos c1];exact h
 rw [if_neg c1];by_cases c2:isIss e = false∧l.any (isDom e.dom) = false
 ·rw [if_pos c2];exact h
 rw [if_neg c2];by_cases c3:isIss e = true∧0 < l.length
 ·rw [if_pos c3];exact h
 rw [if_neg c3];by_cases c4:e.kind = 2∧l.any (isPak e.pk) = false
 ·rw [if_pos c4];exact h
 rw [if_neg c4];by_cases c5:e.kind = 3∧l.any (isPak e.pk) = true
 ·rw [if_pos c5];exact h
 rw [if_neg c5];by_cases c6:isImp e = true∧l.any isImp = true
 ·rw [if_pos c6];exact h
 rw [if_neg c6];by_cases c7:32≤l.length
 ·rw [if_pos c7];exact h
 rw [if_neg c7]
 have n1:∀ x ∈ l,x.aid ≠ e.aid:=fun x hx=>by
  have:=YH (by simpa using c1) x hx;unfold isAid at this;simpa using this
 have dome:∃ d ∈ ins e l,d.aid = e.dom∧d.kind = 1:=by
  by_cases hi:isIss e = true
  ·unfold isIss at hi;simp only [Bool.and_eq_true,decide_eq_true_eq] at hi;exact ⟨e,Ze.2 (.inl rfl),hi.2,hi.1⟩
  ·have:l.any (isDom e.dom) = true:=by
    cases hd:l.any (isDom e.dom) with
    | true=>rfl
    | false=>exact absurd ⟨by simpa using hi,hd⟩ c2
   rw [List.any_eq_true] at this;obtain ⟨d,hd,hp⟩:=this;unfold isDom at hp;simp only [Bool.and_eq_true,decide_eq_true_eq] at hp;exact ⟨d,Ze.2 (.inr hd),hp.1,hp.2⟩
 have isse:isIss e = true→l = []:=fun hi=>by
  cases l with
  | nil=>rfl
  | cons x xs=>exact absurd ⟨hi,by simp⟩ c3
 refine ⟨fun x hx=>?_,ZaP h.srt n1,fun x hx=>?_,fun _=>?_,fun a ha b hb ia ib=>?_,fun a ha b hb ia ib=>?_,fun x hx hk=>?_,fun a ha b hb ka kb ep=>?_,?_⟩
 ·rcases Ze.1 hx with rfl | hx
  ·exact he
  ·exact h.ok x hx
 ·rcases Ze.1 hx with rfl | hx
  ·exact dome
  ·obtain ⟨d,hd,h1⟩:=h.dom x hx;exact ⟨d,Ze.2 (.inr hd),h1⟩
 ·by_cases hl:l = []
  ·by_cases hi:isIss e = true
   ·exact ⟨e,Ze.2 (.inl rfl),hi⟩
   ·subst hl;exact absurd ⟨by simpa using hi,rfl⟩ c2
  ·obtain ⟨d,hd,h1⟩:=h.iss hl;exact ⟨d,Ze.2 (.inr hd),h1⟩
 ·rcases Ze.1 ha with rfl | ha'
  ·rcases Ze.1 hb with rfl | hb
   ·rfl
   ·rw [isse ia] at hb;simp at hb
  ·rcases Ze.1 hb with rfl | hb
   ·rw [isse ib] at ha';simp at ha'
   ·exact h.is1 a ha' b hb ia ib
 ·have noi:isImp e = true→∀ x ∈ l,isImp x = false:=fun hi=>YH (by
   cases hd:l.any isImp with
   | false=>rfl
   | true=>exact absurd ⟨hi,hd⟩ c6)
  rcases Ze.1 ha with rfl | ha'
  ·rcases Ze.1 hb with rfl | hb
   ·rfl
   ·have:=noi ia b hb;rw [ib] at this;cases this
  ·rcases Ze.1 hb with rfl | hb
   ·have:=noi ib a ha';rw [ia] at this;cases this
   ·exact h.imp a ha' b hb ia ib
 ·rcases Ze.1 hx with rfl | hx
  ·by_cases k2:x.kind = 2
   ·have:l.any (isPak x.pk) = true:=by
     cases hd:l.any (isPak x.pk) with
     | true=>rfl
     | false=>exact absurd ⟨k2,hd⟩ c4
    rw [List.any_eq_true] at this;obtain ⟨d,hd,hp⟩:=this;exact ⟨d,Ze.2 (.inr hd),hp⟩
   ·have k1:=he.k1;have k3:=he.k3;refine ⟨x,Ze.2 (.inl rfl),?_⟩;unfold isPak;simp only [Bool.and_eq_true,decide_eq_true_eq,and_true];omega
  ·obtain ⟨d,hd,h1⟩:=h.pak x hx hk;exact ⟨d,Ze.2 (.inr hd),h1⟩
 ·have nop:e.kind = 3→∀ x ∈ l,isPak e.pk x = false:=fun hi=>YH (by
   cases hd:l.any (isPak e.pk) with
   | false=>rfl
   | true=>exact absurd ⟨hi,hd⟩ c5)
  rcases Ze.1 ha with rfl | ha'
  ·rcases Ze.1 hb with rfl | hb
   ·rfl
   ·have:=nop ka b hb;unfold isPak at this;simp [kb,ep] at this
  ·rcases Ze.1 hb with rfl | hb
   ·have:=nop kb a ha';unfold isPak at this;simp [ka,ep] at this
   ·exact h.pk1 a ha' b hb ka kb ep
 ·have:=(XD e l).length_eq;rw [List.length_cons] at this
  show (ins e l).length≤32
  omega
end Rg
end Go.Proofs.YthmahbfmfpjjcaaGreat
/-
 The registry, in plain numbers: entries with any numbers, and which of them are valid.
-/
namespace Go.Proofs.YthmahbfmfpjjcaaGreat
open Go.RowKit
open Jn Vn
namespace Rg
structure REn where
 kind:Int
 st:Int
 bf:Int
 pr:Int
 pk:Int
 ob:Int
 aid:List Nat
 dom:List Nat
deriving DecidableEq
def En.raw (e:En):REn:=⟨e.kind,e.st,e.bf,e.pr,e.pk,e.ob,e.aid,e.dom⟩
def REn.en (e:REn):En:=⟨e.kind.toNat,e.st.toNat,e.bf.toNat,e.pr.toNat,e.pk.toNat,e.ob.toNat,e.aid,e.dom⟩
def isId (a:List Nat):Bool:=decide (5≤a.length) && decide (a.length≤16)
def wthB (n a b:Int):Bool:=decide (a≤n) && decide (n≤b)
def numB (n:Int) (used:Bool) (most:Int):Bool:=if used = true then wthB n 1 most else decide (n = 0)
def pValid (e:REn):Bool :=
 if (decide (e.kind ≠ 3) && decide (e.kind ≠ 2) && decide (e.kind ≠ 1)) = true ∨ isId e.aid = false ∨ isId e.dom = false then false
 else if (e.kind = 3∧e.st ≠ 1) ∨ (e.kind ≠ 3∧wthB e.st 2 5 = false) then false
 else if (e.st = 5∧wthB e.bf 2 4 = false) ∨ (e.st ≠ 5∧e.bf ≠ 0) then false
 else if wthB e.pr 0 31 = false ∨ (e.kind = 3∧e.pr ≠ 0) then false
 else numB e.pk (decide (e.kind ≠ 1)) 16 && numB e.ob (decide (e.kind = 2)) 512 && (decide (e.kind = 1) || !decide (e.dom = e.aid))
def rValid (e:REn):Bool :=
 if isId e.aid = false ∨ isId e.dom = false ∨ e.kind < 1 ∨ 3 < e.kind then false
 else if (e.kind = 3∧e.st ≠ 1) ∨ (e.kind ≠ 3∧(e.st < 2 ∨ 5 < e.st)) then false
 else if (e.st = 5∧(e.bf < 2 ∨ 4 < e.bf)) ∨ (e.st ≠ 5∧e.bf ≠ 0) then false
 else if e.pr < 0 ∨ 31 < e.pr ∨ (e.kind = 3∧e.pr ≠ 0) then false
 else if (e.kind = 1∧e.pk ≠ 0) ∨ (e.kind ≠ 1∧(e.pk < 1 ∨ 16 < e.pk)) then false
 else if (e.kind = 2∧(e.ob < 1 ∨ 512 < e.ob)) ∨ (e.kind ≠ 2∧e.ob ≠ 0) then false
 else !(decide (e.kind ≠ 1) && decide (e.aid = e.dom))
structure ROk (e:REn):Prop where
 k1:1≤e.kind
 k3:e.kind≤3
 a5:5≤e.aid.length
 a16:e.aid.length≤16
 d5:5≤e.dom.length
 d16:e.dom.length≤16
 sp:e.kind = 3→e.st = 1
 sn:e.kind ≠ 3→2≤e.st∧e.st≤5
 bl:e.st = 5→2≤e.bf∧e.bf≤4
 bn:e.st ≠ 5→e.bf = 0
 p0:0≤e.pr
 p31:e.pr≤31
 pp:e.kind = 3→e.pr = 0
 nd:e.kind = 1→e.pk = 0
 nn:e.kind ≠ 1→1≤e.pk∧e.pk≤16
 oa:e.kind = 2→1≤e.ob∧e.ob≤512
 on:e.kind ≠ 2→e.ob = 0
 ne:e.kind ≠ 1→e.aid ≠ e.dom
theorem ZT {a:List Nat}:isId a = true ↔ 5≤a.length∧a.length≤16:=by unfold isId;simp
theorem ZaR {n m:Int} {p:Prop} [Decidable p]:numB n (decide p) m = true ↔ (p→1≤n∧n≤m)∧(¬ p→n = 0):=by
 unfold numB wthB;by_cases hp:p
 ·rw [if_pos (decide_eq_true hp)];simp [hp]
 ·rw [if_neg (by simp [hp])];simp [hp]
theorem Yg (e:REn):pValid e = true ↔ ROk e:=by
 unfold pValid
 constructor
 ·intro h
  split at h
  ·cases h
  rename_i c1
  split at h
  ·cases h
  rename_i c2
  split at h
  ·cases h
  rename_i c3
  split at h
  ·cases h
  rename_i c4
  simp only [not_or,Bool.not_eq_false,ZT] at c1;obtain ⟨c1,c5,c6⟩:=c1;simp only [wthB,ZaR,Bool.and_eq_true,Bool.and_eq_false_iff,decide_eq_true_eq,decide_eq_false_iff_not,Bool.or_eq_true,Bool.not_eq_true'] at h c1 c2 c3 c4;refine ⟨?_,?_,c5.1,c5.2,c6.1,c6.2,?_,?_,?_,?_,?_,?_,?_,?_,?_,?_,?_,?_⟩
  ·omega
  ·omega
  ·omega
  ·omega
  ·omega
  ·omega
  ·omega
  ·omega
  ·omega
  ·omega
  ·omega
  ·omega
  ·omega
  ·intro k q;rcases h.2 with h2 | h2
   ·exact k h2
   ·exact h2 q.symm
 ·intro h;have ha:isId e.aid = true:=ZT.2 ⟨h.a5,h.a16⟩;have hd:isId e.dom = true:=ZT.2 ⟨h.d5,h.d16⟩;have:=h.k1;have:=h.k3;have:=h.sp;have:=h.sn;have:=h.bl;have:=h.bn;have:=h.p0;have:=h.p31;have:=h.pp;have:=h.nd;have:=h.nn;have:=h.oa;have:=h.on;rw [if_neg,if_neg,if_neg,if_neg]
  ·simp only [ZaR,Bool.and_eq_true,decide_eq_true_eq,Bool.or_eq_true,Bool.not_eq_true',decide_eq_false_iff_not];refine ⟨⟨by omega,by omega⟩,?_⟩
   ·by_cases k:e.kind = 1
    ·exact .inl k
    ·exact .inr fun q=>h.ne k q.symm
  ·simp only [wthB,Bool.and_eq_false_iff,decide_eq_false_iff_not];omega
  ·simp only [wthB,Bool.and_eq_false_iff,decide_eq_false_iff_not];omega
  ·simp only [wthB,Bool.and_eq_false_iff,decide_eq_false_iff_not];omega
  ·rw [ha,hd];simp only [Bool.and_eq_true,decide_eq_true_eq];intro q;rcases q with q | q | q
   ·omega
   ·cases q
   ·cases q
theorem ZB (e:REn):rValid e = true ↔ ROk e:=by
 unfold rValid
 constructor
 ·intro h
  split at h
  ·cases h
  rename_i c1
  split at h
  ·cases h
  rename_i c2
  split at h
  ·cases h
  rename_i c3
  split at h
  ·cases h
  rename_i c4
  split at h
  ·cases h
  rename_i c5
  split at h
  ·cases h
  rename_i c6
  simp only [not_or,Bool.not_eq_false,ZT] at c1;obtain ⟨c7,c8,c9,c10⟩:=c1;refine ⟨?_,?_,c7.1,c7.2,c8.1,c8.2,?_,?_,?_,?_,?_,?_,?_,?_,?_,?_,?_,?_⟩
  all_goals first
   | omega
   | (intro k q;rw [q] at h;simp at h;exact k h)
 ·intro h;have ha:isId e.aid = true:=ZT.2 ⟨h.a5,h.a16⟩;have hd:isId e.dom = true:=ZT.2 ⟨h.d5,h.d16⟩;have:=h.k1;have:=h.k3;have:=h.sp;have:=h.sn;have:=h.bl;have:=h.bn;have:=h.p0;have:=h.p31;have:=h.pp;have:=h.nd;have:=h.nn;have:=h.oa;have:=h.on;rw [if_neg,if_neg,if_neg,if_neg,if_neg,if_neg]
  ·simp only [Bool.not_eq_true',Bool.and_eq_false_iff,decide_eq_false_iff_not];by_cases k:e.kind = 1
   ·exact .inl fun q=>q k
   ·exact .inr (h.ne k)
  all_goals first
   | omega
   | (rw [ha,hd];intro q;rcases q with q | q | q | q <;> first | cases q | omega)
theorem ZeZ (e:REn):pValid e = rValid e:=by
 rw [Bool.eq_iff_iff,Yg,ZB]
theorem ROk.en {e:REn} (h:ROk e) (ba:Bytes e.aid) (bd:Bytes e.dom):EOk e.en∧e.en.raw = e:=by
 have:=h.k1;have:=h.k3;have:=h.sp;have:=h.sn;have:=h.bl;have:=h.bn;have:=h.p0;have:=h.p31;have:=h.pp;have:=h.nd;have:=h.nn;have:=h.oa;have:=h.on;have e1:0≤e.st:=by by_cases k:e.kind = 3 <;> omega
 have e2:0≤e.bf:=by by_cases k:e.st = 5 <;> omega
 have e3:0≤e.pk:=by by_cases k:e.kind = 1 <;> omega
 have e4:0≤e.ob:=by by_cases k:e.kind = 2 <;> omega
 obtain ⟨kind,st,bf,pr,pk,ob,aid,dom⟩:=e;dsimp only at *
 constructor
 ·unfold REn.en
  exact { k1 := by show 1 ≤ kind.toNat; omega, k3 := by show kind.toNat ≤ 3; omega, a5 := h.a5, a16 := h.a16, d5 := h.d5, d16 := h.d16
          sp:=fun k=>by have k:kind.toNat = 3:=k;show st.toNat = 1;omega
          sn:=fun k=>by have k:kind.toNat ≠ 3:=k;show 2≤st.toNat∧st.toNat≤5;omega
          bl:=fun k=>by have k:st.toNat = 5:=k;show 2≤bf.toNat∧bf.toNat≤4;omega
          bn:=fun k=>by have k:st.toNat ≠ 5:=k;show bf.toNat = 0;omega
          p31:=by show pr.toNat≤31;omega
          pp:=fun k=>by have k:kind.toNat = 3:=k;show pr.toNat = 0;omega
          nd:=fun k=>by have k:kind.toNat = 1:=k;show pk.toNat = 0;omega
          nn:=fun k=>by have k:kind.toNat ≠ 1:=k;show 1≤pk.toNat∧pk.toNat≤16;omega
          oa:=fun k=>by have k:kind.toNat = 2:=k;show 1≤ob.toNat∧ob.toNat≤512;omega
          on:=fun k=>by have k:kind.toNat ≠ 2:=k;show ob.toNat = 0;omega
          ne:=fun k=>h.ne (by have k:kind.toNat ≠ 1:=k;show kind ≠ 1;omega),ba:=ba,bd:=bd }
 ·unfold REn.en En.raw;dsimp only
  congr 1 <;> omega
theorem EOk.rok {e:En} (h:EOk e):ROk e.raw:=by
 have:=h.k1;have:=h.k3;have:=h.sp;have:=h.sn;have:=h.bl;have:=h.bn;have:=h.p31;have:=h.pp;have:=h.nd;have:=h.nn;have:=h.oa;have:=h.on;unfold En.raw
 exact { k1 := by show (1 : Int) ≤ e.kind; omega, k3 := by show (e.kind : Int) ≤ 3; omega, a5 := h.a5, a16 := h.a16, d5 := h.d5, d16 := h.d16
         sp:=fun k=>by have k:(e.kind:Int) = 3:=k;show (e.st:Int) = 1;omega
         sn:=fun k=>by have k:(e.kind:Int) ≠ 3:=k;show 2≤(e.st:Int)∧(e.st:Int)≤5;omega
         bl:=fun k=>by have k:(e.st:Int) = 5:=k;show 2≤(e.bf:Int)∧(e.bf:Int)≤4;omega
         bn:=fun k=>by have k:(e.st:Int) ≠ 5:=k;show (e.bf:Int) = 0;omega
         p0:=by show 0≤(e.pr:Int);omega
         p31:=by show (e.pr:Int)≤31;omega
         pp:=fun k=>by have k:(e.kind:Int) = 3:=k;show (e.pr:Int) = 0;omega
         nd:=fun k=>by have k:(e.kind:Int) = 1:=k;show (e.pk:Int) = 0;omega
         nn:=fun k=>by have k:(e.kind:Int) ≠ 1:=k;show 1≤(e.pk:Int)∧(e.pk:Int)≤16;omega
         oa:=fun k=>by have k:(e.kind:Int) = 2:=k;show 1≤(e.ob:Int)∧(e.ob:Int)≤512;omega
         on:=fun k=>by have k:(e.kind:Int) ≠ 2:=k;show (e.ob:Int) = 0;omega
         ne:=fun k=>h.ne (by have k:(e.kind:Int) ≠ 1:=k;show e.kind ≠ 1;omega) }
def sameP (a b:REn):Bool:=decide (a.aid = b.aid) && decide (a.dom = b.dom) && decide (a.kind = b.kind) && decide (a.st = b.st) && decide (a.bf = b.bf) && decide (a.pr = b.pr) && decide (a.pk = b.pk) && decide (a.ob = b.ob)
def sameR (a b:REn):Bool:=decide (a.aid = b.aid) && decide (a.kind = b.kind) && decide (a.st = b.st) && decide (a.bf = b.bf) && decide (a.pr = b.pr) && decide (a.dom = b.dom) && decide (a.pk = b.pk) && decide (a.ob = b.ob)
theorem Ze0 (a b:REn):sameP a b = decide (a = b):=by
 obtain ⟨k,s,f,p,n,o,i,d⟩:=a;obtain ⟨k',s',f',p',n',o',i',d'⟩:=b;unfold sameP;rw [Bool.eq_iff_iff];simp only [Bool.and_eq_true,decide_eq_true_eq,REn.mk.injEq]
 constructor
 ·rintro ⟨⟨⟨⟨⟨⟨⟨h1,h2⟩,h3⟩,h4⟩,h5⟩,h6⟩,h7⟩,h8⟩;exact ⟨h3,h4,h5,h6,h7,h8,h1,h2⟩
 ·rintro ⟨h3,h4,h5,h6,h7,h8,h1,h2⟩;exact ⟨⟨⟨⟨⟨⟨⟨h1,h2⟩,h3⟩,h4⟩,h5⟩,h6⟩,h7⟩,h8⟩
theorem Ze1 (a b:REn):sameP a b = sameR a b:=by
 unfold sameP sameR;rw [Bool.eq_iff_iff];simp only [Bool.and_eq_true,decide_eq_true_eq]
 constructor
 ·rintro ⟨⟨⟨⟨⟨⟨⟨h1,h2⟩,h3⟩,h4⟩,h5⟩,h6⟩,h7⟩,h8⟩;exact ⟨⟨⟨⟨⟨⟨⟨h1,h3⟩,h4⟩,h5⟩,h6⟩,h2⟩,h7⟩,h8⟩
 ·rintro ⟨⟨⟨⟨⟨⟨⟨h1,h3⟩,h4⟩,h5⟩,h6⟩,h2⟩,h7⟩,h8⟩;exact ⟨⟨⟨⟨⟨⟨⟨h1,h2⟩,h3⟩,h4⟩,h5⟩,h6⟩,h7⟩,h8⟩
theorem Ze2 {a b:En} (h:a.raw = b.raw):a = b:=by
 obtain ⟨k,s,f,p,n,o,i,d⟩:=a;obtain ⟨k',s',f',p',n',o',i',d'⟩:=b;unfold En.raw at h;simp only [REn.mk.injEq] at h;obtain ⟨h1,h2,h3,h4,h5,h6,h7,h8⟩:=h
 congr 1 <;> omega
end Rg
end Go.Proofs.YthmahbfmfpjjcaaGreat
/-
 The order of identifiers, step by step.
-/
namespace Go.Proofs.YthmahbfmfpjjcaaGreat
open Go.RowKit
open Jn Vn
namespace Rg
theorem XE:∀ (k:Nat) (a b:List Nat),k≤a.length→k≤b.length→a.take k = b.take k→cmpB a b = cmpB (a.drop k) (b.drop k)
 | 0,a,b,_,_,_=>rfl
 | k + 1,[],b,h,_,_=>by simp at h
 | k + 1,x :: xs,[],_,h,_=>by simp at h
 | k + 1,x :: xs,y :: ys,h1,h2,h=>by
  simp only [List.take_succ_cons,List.cons.injEq] at h;obtain ⟨rfl,h⟩:=h;have e:cmpB (x :: xs) (x :: ys) = if x < x then -1 else if x < x then 1 else cmpB xs ys:=rfl;rw [e,if_neg (Nat.lt_irrefl _),if_neg (Nat.lt_irrefl _)];exact XE k xs ys (by simpa using h1) (by simpa using h2) h
theorem YI {a:List Nat} {k:Nat} (h:k < a.length):a.drop k = a.getD k 0 :: a.drop (k + 1):=by
 rw [List.drop_eq_getElem_cons h,gd0,List.getElem?_eq_getElem h];rfl
theorem ZaS {a b:List Nat} {k:Nat} (h1:k < a.length) (h2:k < b.length) (h:a.take k = b.take k) :
  cmpB a b = if a.getD k 0 < b.getD k 0 then -1 else if b.getD k 0 < a.getD k 0 then 1 else cmpB (a.drop (k + 1)) (b.drop (k + 1)):=by
 rw [XE k a b (by omega) (by omega) h,YI h1,YI h2]
 rfl
theorem Ze3 {a b:List Nat} {k:Nat} (h1:k < a.length) (h2:k < b.length) (h:a.take k = b.take k) (hl:a.getD k 0 < b.getD k 0):cmpB a b = -1:=by
 rw [ZaS h1 h2 h,if_pos hl]
theorem Ze4 {a b:List Nat} {k:Nat} (h1:k < a.length) (h2:k < b.length) (h:a.take k = b.take k) (hl:b.getD k 0 < a.getD k 0):cmpB a b = 1:=by
 rw [ZaS h1 h2 h,if_neg (by omega),if_pos hl]
theorem Ze5 {a b:List Nat} {k:Nat} (h1:k≤a.length) (h2:k≤b.length) (h:a.take k = b.take k) (he:¬ (k < a.length∧k < b.length)) :
  cmpB a b = if a.length < b.length then -1 else if b.length < a.length then 1 else 0:=by
 rw [XE k a b h1 h2 h];by_cases ha:k < a.length
 ·have:k = b.length:=by omega
  have h3:b.drop k = []:=List.drop_eq_nil_of_le (by omega);rw [if_neg (by omega),if_pos (by omega),YI ha,h3]
  rfl
 ·by_cases hb:k < b.length
  ·have h3:a.drop k = []:=List.drop_eq_nil_of_le (by omega);rw [if_pos (by omega),YI hb,h3]
   rfl
  ·have h3:a.drop k = []:=List.drop_eq_nil_of_le (by omega);have h4:b.drop k = []:=List.drop_eq_nil_of_le (by omega);rw [if_neg (by omega),if_neg (by omega),h3,h4]
   rfl
end Rg
end Go.Proofs.YthmahbfmfpjjcaaGreat
/-
 The registry, in plain numbers: what holds of the list stays so: Remove, SetState, Lock, Move.
-/
namespace Go.Proofs.YthmahbfmfpjjcaaGreat
open Go.RowKit
open Jn Vn
namespace Rg
theorem Yh {l:List En} {a:List Nat} {e:En} (h:rFind l a = some e):e ∈ l∧e.aid = a:=by
 unfold rFind at h;refine ⟨List.mem_of_find?_eq_some h,?_⟩;have:=List.find?_some h;unfold isAid at this;simpa using this
theorem ZaT {l:List En} (h:RInv l) (a:List Nat):RInv (rRemove l a).1:=by
 unfold rRemove
 cases hf:rFind l a with
 | none=>exact h
 | some e =>
  obtain ⟨he,ha⟩:=Yh hf;dsimp only;by_cases c1:isIss e = true
  ·rw [if_pos c1];exact h
  rw [if_neg c1];by_cases c2:l.any (dep e) = true
  ·rw [if_pos c2];exact h
  rw [if_neg c2]
  have hm:∀ {x},x ∈ l.filter (fun x=>!isAid a x) ↔ x ∈ l∧x.aid ≠ a:=fun {x}=>by
   rw [List.mem_filter];unfold isAid;simp
  have nd:∀ x ∈ l,dep e x = false:=YH (by simpa using c2);refine ⟨fun x hx=>h.ok x (hm.1 hx).1,h.srt.sublist List.filter_sublist,fun x hx=>?_,fun hne=>?_,fun x hx y hy=>h.is1 x (hm.1 hx).1 y (hm.1 hy).1,fun x hx y hy=>h.imp x (hm.1 hx).1 y (hm.1 hy).1,fun x hx hk=>?_,fun x hx y hy=>h.pk1 x (hm.1 hx).1 y (hm.1 hy).1,Nat.le_trans (List.length_filter_le _ _) h.len⟩
  ·obtain ⟨x1,x2⟩:=hm.1 hx;obtain ⟨d,hd,d1,d2⟩:=h.dom x x1;refine ⟨d,hm.2 ⟨hd,fun e1=>?_⟩,d1,d2⟩;have:=nd x x1;unfold dep at this;rw [← d1,e1,ha] at this;simp [x2] at this
  ·have hl:l ≠ []:=fun e0=>hne (by rw [e0];rfl);obtain ⟨d,hd,hi⟩:=h.iss hl;refine ⟨d,hm.2 ⟨hd,fun e1=>?_⟩,hi⟩;have:=ZG h.srt hd he (e1.trans ha.symm);rw [this] at hi;exact c1 hi
  ·obtain ⟨x1,x2⟩:=hm.1 hx;by_cases k3:x.kind = 3
   ·exact ⟨x,hx,by unfold isPak;simp [k3]⟩
   ·obtain ⟨d,hd,hp⟩:=h.pak x x1 hk;refine ⟨d,hm.2 ⟨hd,fun e1=>?_⟩,hp⟩;have hde:=ZG h.srt hd he (e1.trans ha.symm);rw [hde] at hp;unfold isPak at hp;simp only [Bool.and_eq_true,decide_eq_true_eq] at hp;have k2:x.kind = 2:=by have:=(h.ok x x1).k1;have:=(h.ok x x1).k3;omega
    have:=nd x x1;unfold dep at this;rw [ha] at this;simp [x2,k2,hp.1,hp.2] at this
theorem Ze6 {l:List En} (h:RInv l) {e e':En} (he:e ∈ l) (h1:EOk e') (ea:e'.aid = e.aid) (ek:e'.kind = e.kind) (ep:e'.pk = e.pk) (er:e'.pr = e.pr) (ed:e'.dom = e.dom ∨ (e.kind ≠ 1∧∃ d ∈ l,d.aid = e'.dom∧d.kind = 1)):RInv (repl l e'):=by
 have hx:∀ x ∈ l,x.aid = e'.aid→x = e:=fun x hx e0=>ZG h.srt hx he (e0.trans ea);have fa:∀ x,(if x.aid = e'.aid then e' else x).aid = x.aid:=fun x=>by split <;> simp_all
 have fk:∀ x ∈ l,(if x.aid = e'.aid then e' else x).kind = x.kind:=fun x m=>by
  split
  ·rename_i e0;rw [hx x m e0,ek]
  ·rfl
 have fp:∀ x ∈ l,(if x.aid = e'.aid then e' else x).pk = x.pk:=fun x m=>by
  split
  ·rename_i e0;rw [hx x m e0,ep]
  ·rfl
 have fr:∀ x ∈ l,(if x.aid = e'.aid then e' else x).pr = x.pr:=fun x m=>by
  split
  ·rename_i e0;rw [hx x m e0,er]
  ·rfl
 have fi:∀ x ∈ l,isIss (if x.aid = e'.aid then e' else x) = isIss x:=fun x m=>by
  split
  ·rename_i e0
   rw [hx x m e0];unfold isIss;rw [ek,ea];rcases ed with e1 | ⟨e1,-⟩
   ·rw [e1]
   ·simp [e1]
  ·rfl
 have fm:∀ x ∈ l,isImp (if x.aid = e'.aid then e' else x) = isImp x:=fun x m=>by unfold isImp;rw [fr x m]
 have mm:∀ {y},y ∈ repl l e' ↔ ∃ x ∈ l,(if x.aid = e'.aid then e' else x) = y:=fun {y}=>by unfold repl;exact List.mem_map
 refine ⟨fun y hy=>?_,?_,fun y hy=>?_,fun hne=>?_,fun y hy z hz iy iz=>?_,fun y hy z hz iy iz=>?_,fun y hy hk=>?_,fun y hy z hz ky kz pp=>?_,by unfold repl;rw [List.length_map];exact h.len⟩
 ·obtain ⟨x,m,rfl⟩:=mm.1 hy
  split
  ·exact h1
  ·exact h.ok x m
 ·unfold repl;rw [List.pairwise_map];exact h.srt.imp fun {a b} hab=>by rw [fa,fa];exact hab
 ·obtain ⟨x,m,rfl⟩:=mm.1 hy
  have key:∃ d ∈ l,d.aid = (if x.aid = e'.aid then e' else x).dom∧d.kind = 1:=by
   split
   ·rcases ed with e1 | ⟨-,hd⟩
    ·rw [e1];exact h.dom e he
    ·exact hd
   ·exact h.dom x m
  obtain ⟨d,hd,d1,d2⟩:=key;exact ⟨_,mm.2 ⟨d,hd,rfl⟩,by rw [fa];exact d1,by rw [fk d hd];exact d2⟩
 ·have hl:l ≠ []:=fun e0=>by rw [e0] at he;simp at he
  obtain ⟨d,hd,hi⟩:=h.iss hl;exact ⟨_,mm.2 ⟨d,hd,rfl⟩,by rw [fi d hd];exact hi⟩
 ·obtain ⟨x,m,rfl⟩:=mm.1 hy;obtain ⟨u,n,rfl⟩:=mm.1 hz;rw [fi x m] at iy;rw [fi u n] at iz;rw [h.is1 x m u n iy iz]
 ·obtain ⟨x,m,rfl⟩:=mm.1 hy;obtain ⟨u,n,rfl⟩:=mm.1 hz;rw [fm x m] at iy;rw [fm u n] at iz;rw [h.imp x m u n iy iz]
 ·obtain ⟨x,m,rfl⟩:=mm.1 hy;rw [fk x m] at hk;obtain ⟨d,hd,hp⟩:=h.pak x m hk;refine ⟨_,mm.2 ⟨d,hd,rfl⟩,?_⟩;unfold isPak at hp ⊢;rw [fk d hd,fp d hd,fp x m];exact hp
 ·obtain ⟨x,m,rfl⟩:=mm.1 hy;obtain ⟨u,n,rfl⟩:=mm.1 hz;rw [fk x m] at ky;rw [fk u n] at kz;rw [fp x m,fp u n] at pp;rw [h.pk1 x m u n ky kz pp]
def appB (kind f t:Nat):Bool :=
 (decide (kind = 2) || decide (kind = 1)) && (decide (2≤f) && decide (f≤5)) && (decide (2≤t) && decide (t≤5)) && ((decide (f = 5) != decide (t = 5)) || (decide (f = 2) && decide (t = 3)) || (decide (f = 3) && decide (t = 4)))
def fState (t:Nat) (e:En):En × Nat:=if e.st = 5 ∨ t = 5 ∨ appB e.kind e.st t = false then (e,14) else ({ e with st:=t },0)
def fLock (b:Bool) (e:En):En × Nat :=
 if e.kind = 3 then (e,22)
 else if isIss e = true ∨ b = decide (e.st = 5) then (e,14)
 else if b = true then ({ e with st:=5,bf:=e.st },0)
 else ({ e with st:=e.bf,bf:=0 },0)
def fMove (l:List En) (tg:List Nat) (e:En):En × Nat :=
 if e.kind = 1 then (e,22) else if l.any (isDom tg) = false then (e,12) else ({ e with dom:=tg },0)
theorem XG {l:List En} (h:RInv l) (a:List Nat) (f:En→En × Nat) (hf:∀ e ∈ l,(f e).2 = 0→EOk (f e).1∧(f e).1.aid = e.aid∧(f e).1.kind = e.kind∧(f e).1.pk = e.pk∧(f e).1.pr = e.pr∧((f e).1.dom = e.dom ∨ (e.kind ≠ 1∧∃ d ∈ l,d.aid = (f e).1.dom∧d.kind = 1))):RInv (rChange l a f).1:=by
 unfold rChange
 cases hq:rFind l a with
 | none=>exact h
 | some e =>
  obtain ⟨he,-⟩:=Yh hq;dsimp only
  split
  ·rename_i h0
   obtain ⟨g1,g2,g3,g4,g5,g6⟩:=hf e he h0;exact Ze6 h he g1 g2 g3 g4 g5 g6
  ·exact h
theorem ZaU {l:List En} (h:RInv l) (a:List Nat) (t:Nat):RInv (rChange l a (fState t)).1:=by
 refine XG h a _ fun e he h0=>?_;unfold fState at h0 ⊢
 split at h0
 ·cases h0
 rename_i hn
 rw [if_neg hn];have ok:=h.ok e he;have hb:=ok.bn (fun e5=>hn (.inl e5))
 have h2:e.kind ≠ 3∧2≤t∧t≤5:=by
  have:appB e.kind e.st t = true:=by
   cases ha:appB e.kind e.st t with
   | true=>rfl
   | false=>exact absurd (.inr (.inr ha)) hn
  unfold appB at this;simp only [Bool.and_eq_true,Bool.or_eq_true,decide_eq_true_eq] at this;omega
 have h5:t ≠ 5:=fun e5=>hn (.inr (.inl e5));exact ⟨{ ok with sp:=fun k=>absurd k h2.1,sn:=fun _=>⟨h2.2.1,h2.2.2⟩,bl:=fun e5=>absurd e5 h5,bn:=fun _=>hb },rfl,rfl,rfl,rfl,.inl rfl⟩
theorem XH {l:List En} (h:RInv l) (a:List Nat) (b:Bool):RInv (rChange l a (fLock b)).1:=by
 refine XG h a _ fun e he h0=>?_;unfold fLock at h0 ⊢;have ok:=h.ok e he;by_cases c1:e.kind = 3
 ·rw [if_pos c1] at h0;cases h0
 rw [if_neg c1] at h0 ⊢;by_cases c2:isIss e = true ∨ b = decide (e.st = 5)
 ·rw [if_pos c2] at h0;cases h0
 rw [if_neg c2] at h0 ⊢;have hs:=ok.sn c1
 cases b with
 | true =>
  rw [if_pos rfl];have h5:e.st ≠ 5:=fun e5=>c2 (.inr (by simp [e5]));exact ⟨{ ok with sp:=fun k=>absurd k c1,sn:=fun _=>⟨(by show 2≤5;omega),(by show 5≤5;omega)⟩,bl:=fun _=>⟨hs.1,by show e.st≤4;omega⟩,bn:=fun n=>absurd rfl n },rfl,rfl,rfl,rfl,.inl rfl⟩
 | false =>
  rw [if_neg (by decide)]
  have h5:e.st = 5:=by
   cases hd:decide (e.st = 5) with
   | true=>simpa using hd
   | false=>exact absurd (.inr hd.symm) c2
  have hb:=ok.bl h5;exact ⟨{ ok with sp:=fun k=>absurd k c1,sn:=fun _=>⟨hb.1,by show e.bf≤5;omega⟩,bl:=fun e5=>by have e5:e.bf = 5:=e5;omega,bn:=fun _=>rfl },rfl,rfl,rfl,rfl,.inl rfl⟩
theorem ZaV {l:List En} (h:RInv l) (a tg:List Nat):RInv (rChange l a (fMove l tg)).1:=by
 refine XG h a _ fun e he h0=>?_;unfold fMove at h0 ⊢;have ok:=h.ok e he;by_cases c1:e.kind = 1
 ·rw [if_pos c1] at h0;cases h0
 rw [if_neg c1] at h0 ⊢;by_cases c2:l.any (isDom tg) = false
 ·rw [if_pos c2] at h0;cases h0
 rw [if_neg c2];have:l.any (isDom tg) = true:=by simpa using c2
 rw [List.any_eq_true] at this;obtain ⟨d,hd,hp⟩:=this;unfold isDom at hp;simp only [Bool.and_eq_true,decide_eq_true_eq] at hp;have okd:=h.ok d hd;rw [← hp.1]
 exact ⟨{ ok with d5:=okd.a5,d16:=okd.a16,ne:=fun _ e0=>c1 (by
   have e0:e.aid = d.aid:=e0
   rw [ZG h.srt he hd e0];exact hp.2),bd:=okd.ba },rfl,rfl,rfl,rfl,.inr ⟨c1,d,hd,rfl,hp.2⟩⟩
theorem ZaW (t:Nat) (e:En):(fState t e).1.aid = e.aid:=by unfold fState;split <;> rfl
theorem ZaX (b:Bool) (e:En):(fLock b e).1.aid = e.aid:=by
 unfold fLock
 split
 ·rfl
 split
 ·rfl
 split <;> rfl
theorem ZaY (l:List En) (tg:List Nat) (e:En):(fMove l tg e).1.aid = e.aid:=by
 unfold fMove
 split
 ·rfl
 split <;> rfl
theorem ZaZ {t:Nat} {en:En} (h:en.st = 5 ∨ t = 5 ∨ appB en.kind en.st t = false):fState t en = (en,14):=by unfold fState;rw [if_pos h]
theorem Za0 {t:Nat} {en:En} (h1:en.st ≠ 5) (h2:t ≠ 5) (h3:appB en.kind en.st t = true):fState t en = ({ en with st:=t },0):=by
 unfold fState;rw [if_neg];rintro (h | h | h)
 ·exact h1 h
 ·exact h2 h
 ·rw [h3] at h;cases h
end Rg
end Go.Proofs.YthmahbfmfpjjcaaGreat
/-
 The registry, in plain numbers: slots, and the list that belongs to them.
-/
namespace Go.Proofs.YthmahbfmfpjjcaaGreat
open Go.RowKit
open Jn Vn
namespace Rg
def upd (G:Nat→Option En) (k:Nat) (o:Option En):Nat→Option En:=fun j=>if j = k then o else G j
def ents (G:Nat→Option En):List En:=(List.range 32).filterMap G
theorem Ze7 {k:Nat} (hk:k < 32):(List.range 32).Perm (k :: (List.range 32).erase k):=List.perm_cons_erase (List.mem_range.2 hk)
theorem Za1 {f g:Nat→Option En}:∀ {l:List Nat},(∀ x ∈ l,f x = g x)→l.filterMap f = l.filterMap g
 | [],_=>rfl
 | x :: xs,h=>by
  rw [List.filterMap_cons,List.filterMap_cons,h x (List.mem_cons_self ..),Za1 fun y hy=>h y (List.mem_cons_of_mem _ hy)]
theorem Ze8 (G:Nat→Option En) (k:Nat) (o:Option En):((List.range 32).erase k).filterMap (upd G k o) = ((List.range 32).erase k).filterMap G:=by
 refine Za1 fun j hj=>?_
 have hne:j ≠ k:=fun e=>by
  rw [e] at hj;exact absurd hj (List.Nodup.not_mem_erase List.nodup_range)
 unfold upd;rw [if_neg hne]
theorem ZU (G:Nat→Option En) {k:Nat} (hk:k < 32) (o:Option En):(ents (upd G k o)).Perm (o.toList ++ ((List.range 32).erase k).filterMap G):=by
 unfold ents;refine ((Ze7 hk).filterMap _).trans ?_;rw [List.filterMap_cons,Ze8];have:upd G k o k = o:=by unfold upd;rw [if_pos rfl]
 rw [this]
 cases o with
 | none=>exact .refl _
 | some e=>exact .refl _
theorem XI (G:Nat→Option En) (k:Nat):upd G k (G k) = G:=by
 funext j
 unfold upd
 split
 ·rename_i e;rw [e]
 ·rfl
theorem Za2 {G:Nat→Option En} {k:Nat} (hk:k < 32) (h0:G k = none) (e:En):(ents (upd G k (some e))).Perm (e :: ents G):=by
 have h1:=ZU G hk (some e);have h2:=ZU G hk (G k);rw [XI,h0] at h2;exact h1.trans (h2.symm.cons e)
theorem Ze9 {G:Nat→Option En} {k:Nat} (hk:k < 32) {e:En} (h0:G k = some e):(ents G).Perm (e :: ents (upd G k none)):=by
 have h1:=ZU G hk none;have h2:=ZU G hk (G k);rw [XI,h0] at h2;exact h2.trans (h1.symm.cons e)
theorem Zfa {G:Nat→Option En} {k:Nat} (hk:k < 32) {e:En} (h0:G k = some e) (e':En):∃ r:List En,(ents G).Perm (e :: r)∧(ents (upd G k (some e'))).Perm (e' :: r):=by
 have h1:=ZU G hk (some e');have h2:=ZU G hk (G k);rw [XI,h0] at h2;exact ⟨_,h2,h1⟩
theorem XJ {G:Nat→Option En} {e:En}:e ∈ ents G ↔ ∃ k,k < 32∧G k = some e:=by
 unfold ents;rw [List.mem_filterMap];simp only [List.mem_range]
theorem Za3:∀ (n:Nat) (G:Nat→Option En),(∀ k,k < n→(G k).isSome = true)→((List.range n).filterMap G).length = n
 | 0,_,_=>rfl
 | n + 1,G,h=>by
  rw [List.range_succ,List.filterMap_append,List.length_append,Za3 n G fun k hk=>h k (by omega)];obtain ⟨e,he⟩:=Option.isSome_iff_exists.1 (h n (by omega));simp [he]
theorem Zfb {G:Nat→Option En} (h:(ents G).length < 32):∃ k,k < 32∧G k = none∧∀ j,j < k→(G j).isSome = true:=by
 have hx:∃ k,k < 32∧G k = none:=by
  rcases Classical.em (∃ k,k < 32∧G k = none) with h1 | h1
  ·exact h1
  ·have:=Za3 32 G fun k hk=>by
    cases hg:G k with
    | none=>exact absurd ⟨k,hk,hg⟩ h1
    | some e=>rfl
   unfold ents at h;omega
 obtain ⟨k,hk⟩:=hx
 induction k using Nat.strongRecOn with
 | ind k ih =>
  rcases Classical.em (∃ j,j < k∧G j = none) with ⟨j,hj,hn⟩ | h1
  ·exact ih j hj ⟨by omega,hn⟩
  ·exact ⟨k,hk.1,hk.2,fun j hj=>by
    cases hg:G j with
    | none=>exact absurd ⟨j,hj,hg⟩ h1
    | some e=>rfl⟩
structure SRel (G:Nat→Option En) (l:List En):Prop where
 inv:RInv l
 perm:(ents G).Perm l
 lt:∀ k e,G k = some e→k < 32
theorem SRel.mem {G:Nat→Option En} {l:List En} (h:SRel G l) {k:Nat} {e:En} (hk:G k = some e):e ∈ l:=h.perm.mem_iff.1 (XJ.2 ⟨k,h.lt k e hk,hk⟩)
theorem SRel.slot {G:Nat→Option En} {l:List En} (h:SRel G l) {e:En} (he:e ∈ l):∃ k,k < 32∧G k = some e:=XJ.1 (h.perm.mem_iff.2 he)
theorem Za4:∀ {l r:List En},l.Perm r→l.Pairwise (fun a b=>ltB b.aid a.aid = false)→r.Pairwise (fun a b=>ltB a.aid b.aid = true)→l = r
 | [],r,h,_,_=>by rw [List.nil_perm.1 h]
 | x :: xs,[],h,_,_=>by have:=h.length_eq;simp at this
 | x :: xs,y :: ys,h,h1,h2=>by
  rw [List.pairwise_cons] at h1;have hy:=List.pairwise_cons.1 h2
  have hxy:x = y:=by
   rcases List.mem_cons.1 (h.mem_iff.1 (List.mem_cons_self ..)) with e | e
   ·exact e
   ·rcases List.mem_cons.1 (h.mem_iff.2 (List.mem_cons_self ..)) with e2 | e2
    ·exact e2.symm
    ·have l1:=hy.1 x e;have l2:=h1.1 y e2;rw [l1] at l2;cases l2
  subst hxy;rw [Za4 (List.Perm.cons_inv h) h1.2 hy.2]
theorem SRel.sorted {G:Nat→Option En} {l r:List En} (h:SRel G l) (hp:r.Perm (ents G)) (hs:r.Pairwise fun a b=>ltB b.aid a.aid = false):r = l:=Za4 (hp.trans h.perm) hs h.inv.srt
end Rg
end Go.Proofs.YthmahbfmfpjjcaaGreat
/-
 The registry, in plain numbers: what is found, which entry is selected, and an entry that is locked and unlocked.
-/
namespace Go.Proofs.YthmahbfmfpjjcaaGreat
open Go.RowKit
open Jn Vn
namespace Rg
def isNext (begins:En→Bool) (after:List Nat) (e:En):Bool:=isSel e && begins e && decide (cmpB e.aid after > 0)
def rNext (l:List En) (begins:En→Bool) (after:List Nat):Option En:=l.find? (isNext begins after)
def pDefault (l:List En):Option En:=l.find? fun e=>isImp e && isSel e
def rDefault (l:List En):Option En:=match l.find? isImp with
 | none=>none
 | some e=>if isSel e = true then some e else none
theorem Za5 {l:List En} (h:RInv l):pDefault l = rDefault l:=by
 unfold pDefault rDefault
 cases hi:l.find? isImp with
 | none =>
  rw [List.find?_eq_none] at hi ⊢;intro x hx;have:=hi x hx;simp only [Bool.and_eq_true,not_and];exact fun e=>absurd e this
 | some e =>
  have h1:=List.mem_of_find?_eq_some hi;have h2:=List.find?_some hi;have one:∀ x ∈ l,isImp x = true→x = e:=fun x hx he=>h.imp x hx e h1 he h2;dsimp only;by_cases hs:isSel e = true
  ·rw [if_pos hs]
   cases hf:l.find? (fun e=>isImp e && isSel e) with
   | none =>
    rw [List.find?_eq_none] at hf;exact absurd (by simp [h2,hs]) (hf e h1)
   | some x =>
    have h3:=List.mem_of_find?_eq_some hf;have h4:=List.find?_some hf;simp only [Bool.and_eq_true] at h4;rw [one x h3 h4.1]
  ·rw [if_neg hs,List.find?_eq_none];intro x hx he;simp only [Bool.and_eq_true] at he;rw [one x hx he.1] at he;exact hs he.2
theorem Zfc {l:List En} (h:RInv l) {e:En} (he:e ∈ l):rFind l e.aid = some e:=by
 cases hf:rFind l e.aid with
 | none =>
  unfold rFind at hf;rw [List.find?_eq_none] at hf;exact absurd (by unfold isAid;simp) (hf e he)
 | some x =>
  obtain ⟨h1,h2⟩:=Yh hf;rw [ZG h.srt h1 he h2]
theorem Zfd {l:List En} {a:List Nat} (h:∀ e ∈ l,e.aid ≠ a):rFind l a = none:=by
 unfold rFind;rw [List.find?_eq_none];intro x hx;unfold isAid;simp [h x hx]
theorem Za6 {l:List En} {e':En} (h:∃ x ∈ l,x.aid = e'.aid):e' ∈ repl l e':=by
 obtain ⟨x,hx,e⟩:=h;unfold repl;exact List.mem_map.2 ⟨x,hx,by rw [if_pos e]⟩
end Rg
end Go.Proofs.YthmahbfmfpjjcaaGreat
