/-
  The vault, in plain numbers: items, records, the two banks, and how a change is written.
-/
import Derived.Test.YtanioleniadhoaaGreatAG11
import Derived.Test.YtanioleniadhoaaGreatASq
import Derived.Test.YtanioleniadhoaaGreatALaysC
set_option linter.unusedVariables false
set_option linter.unusedSimpArgs false
set_option maxHeartbeats 1000000
set_option maxRecDepth 100000
namespace Go.Proofs.YtanioleniadhoaaGreat
namespace Vn
open Jn
abbrev Items:=Nat→Option (List Nat)
abbrev Rec:=Nat × Option (List Nat)
def set1 (f:Items) (r:Rec):Items:=fun k=>if k = r.1 then r.2 else f k
def sets (f:Items) (l:List Rec):Items:=l.foldl set1 f
theorem sets_snoc (f:Items) (l:List Rec) (r:Rec):sets f (l ++ [r]) = set1 (sets f l) r:=by simp [sets,List.foldl_append]
theorem sets_append (f:Items) (l l':List Rec):sets f (l ++ l') = sets (sets f l) l':=by simp [sets,List.foldl_append]
def none_:Items:=fun _=>none
def encR (r:Rec):List Nat:=be 2 r.1 ++ (be 2 ((r.2.map List.length).getD 65535) ++ r.2.getD [])
def encRs (l:List Rec):List Nat:=l.flatMap encR
theorem encRs_cons (r:Rec) (l:List Rec):encRs (r :: l) = encR r ++ encRs l:=rfl
theorem encRs_append (l l':List Rec):encRs (l ++ l') = encRs l ++ encRs l':=by simp [encRs]
structure ROk (r:Rec):Prop where
 lo:1≤r.1
 hi:r.1≤4096
 len:(r.2.getD []).length≤2048
 bytes:Bytes (r.2.getD [])
theorem encR_len (r:Rec):(encR r).length = 4 + (r.2.getD []).length:=by simp [encR,be_len];omega
theorem encR_head (r:Rec) (x:List Nat):(encR r ++ x).take 2 = be 2 r.1∧((encR r ++ x).drop 2).take 2 = be 2 ((r.2.map List.length).getD 65535)∧(encR r ++ x).drop 4 = r.2.getD [] ++ x:=by
 have h1:=be_len 2 r.1;have h2:=be_len 2 ((r.2.map List.length).getD 65535);unfold encR;refine ⟨?_,?_,?_⟩
 ·rw [List.append_assoc,List.take_left' h1]
 ·rw [List.append_assoc,List.drop_left' h1,List.append_assoc,List.take_left' h2]
 ·rw [show (4:Nat) = 2 + 2 by rfl,← List.drop_drop,List.append_assoc,List.drop_left' h1,List.append_assoc,List.drop_left' h2]
theorem encR_bytes {r:Rec} (h:ROk r):Bytes (encR r):=bytes_append (be_bytes _ _) (bytes_append (be_bytes _ _) h.bytes)
theorem bytes_nil:Bytes ([]:List Nat):=fun k=>by simp
theorem encRs_bytes:∀ (l:List Rec),(∀ r ∈ l,ROk r)→Bytes (encRs l)
 | [],_=>bytes_nil
 | r :: l,h=>by rw [encRs_cons];exact bytes_append (encR_bytes (h r (by simp))) (encRs_bytes l fun x hx=>h x (by simp [hx]))
def lastOf (l:List Rec) (k:Nat):Option Rec:=l.reverse.find? (fun r=>r.1 == k)
theorem lastOf_snoc (l:List Rec) (r:Rec) (k:Nat):lastOf (l ++ [r]) k = if k = r.1 then some r else lastOf l k:=by
 unfold lastOf;rw [List.reverse_append,List.reverse_singleton,List.singleton_append,List.find?_cons];by_cases e:k = r.1
 ·rw [if_pos e];simp [e]
 ·rw [if_neg e];have:(r.1 == k) = false:=by simp;omega
  rw [this]
theorem lastOf_id {l:List Rec} {k:Nat} {r:Rec} (h:lastOf l k = some r):r.1 = k∧r ∈ l:=by
 unfold lastOf at h;refine ⟨by simpa using List.find?_some h,?_⟩;simpa using List.mem_of_find?_eq_some h
theorem snoc_ind {α:Type} {p:List α→Prop} (h0:p []) (h1:∀ l x,p l→p (l ++ [x])) (l:List α):p l:=by
 rw [← List.reverse_reverse l];generalize l.reverse = r
 induction r with
 | nil=>exact h0
 | cons x r ih=>rw [List.reverse_cons];exact h1 _ _ ih
theorem sets_last (f:Items) (l:List Rec) (k:Nat):sets f l k = ((lastOf l k).map (·.2)).getD (f k):=by
 induction l using snoc_ind with
 | h0=>rfl
 | h1 l r ih =>
  rw [sets_snoc,lastOf_snoc];unfold set1
  split
  ·rfl
  ·exact ih
def dom {α:Type} (g:Nat→Option α):List Nat:=(List.range 4097).filter fun k=>(g k).isSome
theorem mem_dom {α:Type} {g:Nat→Option α} {k:Nat}:k ∈ dom g ↔ k < 4097∧(g k).isSome = true:=by simp [dom]
theorem dom_nodup {α:Type} (g:Nat→Option α):(dom g).Nodup:=List.nodup_range.filter _
theorem dom_sorted {α:Type} (g:Nat→Option α):(dom g).Pairwise (· < ·):=List.pairwise_lt_range.filter _
theorem dom_congr {α β:Type} {g:Nat→Option α} {h:Nat→Option β} (e:∀ k,(g k).isSome = (h k).isSome):dom g = dom h:=by
 unfold dom;congr 1;funext k;exact e k
theorem sorted_dom {α:Type} {g:Nat→Option α} {ss:List Int} (hs:∀ k,(g k).isSome = true→k < 4097) (hn:ss.Nodup) (hm:∀ x:Int,x ∈ ss ↔ ∃ k:Nat,x = k∧(g k).isSome = true) :
  ss.mergeSort (fun x y=>decide (x≤y)) = (dom g).map Int.ofNat:=by
 refine List.Perm.eq_of_pairwise (le:=fun a b:Int=>decide (a≤b) = true) (fun a b _ _ h1 h2=>?_) ?_ ?_ ?_
 ·simp only [decide_eq_true_eq] at h1 h2;omega
 ·exact List.pairwise_mergeSort (fun a b c h1 h2=>by simp only [decide_eq_true_eq] at *;omega) (fun a b=>by simp only [Bool.or_eq_true,decide_eq_true_eq];omega) ss
 ·refine List.pairwise_map.2 ((dom_sorted g).imp fun {a b} h=>?_);simp only [decide_eq_true_eq,Int.ofNat_eq_natCast];omega
 ·refine (List.mergeSort_perm ss _).trans ((List.perm_ext_iff_of_nodup hn ?_).2 fun x=>?_)
  ·exact List.pairwise_map.2 ((dom_nodup g).imp fun {a b} h e=>h (by have e:(a:Int) = b:=e;omega))
  ·rw [hm x,List.mem_map]
   constructor
   ·rintro ⟨k,rfl,hk⟩;exact ⟨k,mem_dom.2 ⟨hs k hk,hk⟩,rfl⟩
   ·rintro ⟨k,hk,rfl⟩;exact ⟨k,rfl,(mem_dom.1 hk).2⟩
def recsOf (g:Nat→Option Rec):List Rec:=(dom g).filterMap g
theorem lastOf_filterMap {g:Nat→Option Rec} (hg:∀ k r,g k = some r→r.1 = k):∀ (ks:List Nat) (k:Nat),lastOf (ks.filterMap g) k = if k ∈ ks then g k else none:=by
 intro ks
 induction ks using snoc_ind with
 | h0=>intro k;rfl
 | h1 ks j ih =>
  intro k;rw [List.filterMap_append]
  cases hj:g j with
  | none =>
   have e:List.filterMap g [j] = []:=by simp [hj]
   rw [e,List.append_nil,ih];by_cases hk:k ∈ ks
   ·simp [hk]
   ·by_cases e2:k = j
    ·subst e2;simp [hj]
    ·simp [hk,e2]
  | some r =>
   have e:List.filterMap g [j] = [r]:=by simp [hj]
   rw [e,lastOf_snoc,hg j r hj,ih];by_cases e2:k = j
   ·subst e2;simp [hj]
   ·simp [e2]
theorem lastOf_recsOf {g:Nat→Option Rec} (hg:∀ k r,g k = some r→r.1 = k) (hs:∀ k,(g k).isSome = true→k < 4097) (k:Nat):lastOf (recsOf g) k = g k:=by
 unfold recsOf;rw [lastOf_filterMap hg]
 split
 ·rfl
 ·rename_i h
  cases hk:g k with
  | none=>rfl
  | some r=>exact (h (mem_dom.2 ⟨hs k (by simp [hk]),by simp [hk]⟩)).elim
theorem sets_recsOf_last (f:Items) (l:List Rec) (h:∀ r ∈ l,ROk r):sets f (recsOf (lastOf l)) = sets f l:=by
 funext k
 rw [sets_last,sets_last,lastOf_recsOf (fun k r h=>(lastOf_id h).1)];intro k hk;obtain ⟨r,hr⟩:=Option.isSome_iff_exists.1 hk;obtain ⟨h1,h2⟩:=lastOf_id hr;have:=(h r h2).hi;omega
def recOf (f:Items) (k:Nat):Option Rec:=(f k).map fun d=>(k,some d)
theorem recOf_some {f:Items} {k:Nat}:(recOf f k).isSome = (f k).isSome:=by simp [recOf]
structure IOk (f:Items):Prop where
 ok:∀ k d,f k = some d→ROk (k,some d)
theorem IOk.supp {f:Items} (h:IOk f) (k:Nat) (hk:(f k).isSome = true):k < 4097:=by
 obtain ⟨d,hd⟩:=Option.isSome_iff_exists.1 hk;have:=(h.ok k d hd).hi;omega
theorem IOk.none:IOk none_:=⟨fun _ _ h=>by cases h⟩
theorem IOk.set1 {f:Items} (h:IOk f) {r:Rec} (hr:ROk r):IOk (set1 f r):=⟨fun k d hd=>by
 unfold Vn.set1 at hd
 split at hd
 ·rename_i e;rw [e,← hd];exact hr
 ·exact h.ok k d hd⟩
theorem IOk.sets {f:Items} (h:IOk f):∀ (l:List Rec),(∀ r ∈ l,ROk r)→IOk (sets f l):=by
 intro l
 induction l using snoc_ind with
 | h0=>intro _;exact h
 | h1 l r ih =>
  intro hl;rw [sets_snoc];exact (ih fun x hx=>hl x (by simp [hx])).set1 (hl r (by simp))
theorem sets_recsOf_items {f:Items} (h:IOk f):sets none_ (recsOf (recOf f)) = f:=by
 funext k
 rw [sets_last,lastOf_recsOf (fun k r h=>?_) (fun k hk=>h.supp k (by rwa [recOf_some] at hk))]
 ·unfold recOf
  cases f k <;> rfl
 ·unfold recOf at h
  cases hk:f k with
  | none=>rw [hk] at h;cases h
  | some d=>rw [hk] at h;cases h;rfl
theorem recsOf_ok {g:Nat→Option Rec} (h:∀ k r,g k = some r→ROk r):∀ r ∈ recsOf g,ROk r:=by
 intro r hr;obtain ⟨k,_,hk⟩:=List.mem_filterMap.1 hr;exact h k r hk
theorem items_ok {f:Items} (h:IOk f):∀ r ∈ recsOf (recOf f),ROk r:=recsOf_ok fun k r hk=>by
 unfold recOf at hk
 cases hf:f k with
 | none=>rw [hf] at hk;cases hk
 | some d=>rw [hf] at hk;cases hk;exact h.ok k d hf
def wt (f:Items):Nat:=((dom f).map fun k=>16 + ((f k).getD []).length).sum
def need (l:List Rec):Nat:=((recsOf (lastOf l)).map fun r=>8 + (r.2.getD []).length).sum
theorem encRs_len (l:List Rec):(encRs l).length = (l.map fun r=>4 + (r.2.getD []).length).sum:=by
 induction l with
 | nil=>rfl
 | cons r l ih=>rw [encRs_cons,List.length_append,encR_len,ih,List.map_cons,List.sum_cons]
theorem filterMap_recOf (f:Items):∀ ks:List Nat,(∀ k ∈ ks,(f k).isSome = true)→ks.filterMap (recOf f) = ks.map fun k=>(k,some ((f k).getD []))
 | [],_=>rfl
 | k :: ks,h=>by
  obtain ⟨d,hd⟩:=Option.isSome_iff_exists.1 (h k (by simp));have e:recOf f k = some (k,some d):=by simp [recOf,hd]
  rw [List.filterMap_cons,e,List.map_cons,filterMap_recOf f ks fun x hx=>h x (by simp [hx]),hd]
  rfl
theorem recsOf_items (f:Items):recsOf (recOf f) = (dom f).map fun k=>(k,some ((f k).getD [])):=by
 unfold recsOf;rw [dom_congr (h:=f) (fun k=>recOf_some)];exact filterMap_recOf f _ fun k hk=>(mem_dom.1 hk).2
theorem sum_le (ks:List Nat) (a:Nat→Nat):(ks.map fun k=>4 + a k).sum + 12 * ks.length = (ks.map fun k=>16 + a k).sum:=by
 induction ks with
 | nil=>rfl
 | cons k ks ih=>simp only [List.map_cons,List.sum_cons,List.length_cons];omega
theorem items_fit {f:Items} {Z:Nat} (hw:wt f≤Z / 2) (hZ:8≤Z):(encRs (recsOf (recOf f))).length≤(Z - 8) / 2:=by
 rw [encRs_len,recsOf_items,List.map_map];have h:=sum_le (dom f) fun k=>((f k).getD []).length;unfold wt at hw;have e:((fun r:Rec=>4 + (r.2.getD []).length) ∘ fun k=>(k,some ((f k).getD []))) = fun k=>4 + ((f k).getD []).length:=by funext k;rfl
 rw [e]
 cases hd:dom f with
 | nil=>simp
 | cons k ks=>rw [hd] at h hw;simp only [List.length_cons] at h;omega
def bs (Z:Nat):Nat:=(Z - 8) / 2
def hdB (bank end_:Nat):List Nat:=[bank] ++ (be 4 end_ ++ List.replicate 3 0)
theorem hdB_len (b e:Nat):(hdB b e).length = 8:=by simp [hdB,be_len]
structure Banks (Z:Nat) (J:Nat→Nat) (f:Items) (bank end_:Nat):Prop where
 one:bank≤1
 head:sp J 0 8 = hdB bank end_
 le:end_≤bs Z
 recs:∃ l,sp J (8 + bank * bs Z) end_ = encRs l∧(∀ r ∈ l,ROk r)∧sets none_ l = f
 wt:wt f≤Z / 2
theorem Banks.iok {Z:Nat} {J:Nat→Nat} {f:Items} {b e:Nat} (h:Banks Z J f b e):IOk f:=by
 obtain ⟨l,_,h2,h3⟩:=h.recs;rw [← h3];exact IOk.none.sets l h2
theorem Banks.congr {Z:Nat} {J K:Nat→Nat} {f:Items} {b e:Nat} (h:Banks Z J f b e) (hZ:8≤Z) (hk:∀ o,o < Z→J o = K o):Banks Z K f b e:=by
 have h1:=h.one;have h2:=h.le
 have hb:b * bs Z + bs Z≤Z - 8:=by
  have:bs Z * 2≤Z - 8:=Nat.div_mul_le_self _ _;rcases (by omega:b = 0 ∨ b = 1) with e | e <;> subst e <;> omega
 refine ⟨h1,?_,h2,?_,h.wt⟩
 ·rw [← h.head];exact (sp_congr fun o _ ho=>hk o (by omega)).symm
 ·obtain ⟨l,a,r⟩:=h.recs;exact ⟨l,by rw [← a];exact (sp_congr fun o _ ho=>hk o (by omega)).symm,r⟩
theorem Banks.fresh {Z:Nat} {J:Nat→Nat} (hJ:∀ o,o < 8→J o = 0):Banks Z J none_ 0 0 :=
 ⟨by omega,by
  unfold sp;have e:(List.range 8).map (fun k=>J (0 + k)) = (List.range 8).map (fun _=>0):=List.map_congr_left fun k hk=>hJ _ (by have:=List.mem_range.1 hk;omega)
  rw [e];rfl,by omega,⟨[],rfl,by simp,rfl⟩,by
  have:dom none_ = []:=by unfold dom none_;simp
  show Vn.wt none_≤Z / 2
  rw [show Vn.wt none_ = 0 by unfold Vn.wt;rw [this];rfl];omega⟩
theorem sp_add (J:Nat→Nat) (o a b:Nat):sp J o (a + b) = sp J o a ++ sp J (o + a) b:=by
 unfold sp;rw [List.range_add,List.map_append,List.map_map]
 congr 1
 refine List.map_congr_left fun k _=>?_
 show J (o + (a + k)) = J (o + a + k)
 rw [Nat.add_assoc]
theorem sp_eq {J:Nat→Nat} {o:Nat} {l:List Nat} (h:∀ i,i < l.length→J (o + i) = l.getD i 0):sp J o l.length = l:=by
 apply List.ext_getElem (by simp [sp])
 intro i h1 h2;have:=h i h2;rw [gd0,List.getElem?_eq_getElem h2] at this;simpa [sp] using this
structure Mk (Z:Nat) (J0 J:Nat→Nat) (bank end_ b0 e0:Nat) (b:List Nat) (k:Nat):Prop where
 head:∀ o,o < 8→J o = J0 o
 used:∀ o,8 + bank * bs Z≤o→o < 8 + bank * bs Z + end_→J o = J0 o
 has:∀ i,i < k→J (8 + b0 * bs Z + e0 + i) = b.getD i 0
structure Free (Z bank end_ b0 e0 n:Nat):Prop where
 one:bank≤1
 one':b0≤1
 le:end_≤bs Z
 fit:e0 + n≤bs Z
 off:(b0 = bank∧e0 = end_) ∨ (b0 ≠ bank∧e0 = 0)
theorem Mk.banks {Z:Nat} {J0 J:Nat→Nat} {f:Items} {bank end_ b0 e0 k:Nat} {b:List Nat} (h:Mk Z J0 J bank end_ b0 e0 b k) (hB:Banks Z J0 f bank end_):Banks Z J f bank end_:=by
 refine ⟨hB.one,?_,hB.le,?_,hB.wt⟩
 ·rw [← hB.head];exact sp_congr fun o _ ho=>h.head o (by omega)
 ·obtain ⟨l,a,r⟩:=hB.recs;exact ⟨l,by rw [← a];exact sp_congr h.used,r⟩
theorem Mk.start (Z:Nat) (J:Nat→Nat) (bank end_ b0 e0:Nat) (b:List Nat):Mk Z J J bank end_ b0 e0 b 0:=⟨fun _ _=>rfl,fun _ _ _=>rfl,fun _ h=>by omega⟩
theorem puts_one (J:Nat→Nat) (o:Nat) (d:List Nat) (x:Nat):puts J [(o,d)] x = if o≤x∧x < o + d.length then d.getD (x - o) 0 else J x:=rfl
theorem bank_far {Z a b:Nat} (ha:a≤1) (hb:b≤1) (h:a ≠ b):a * bs Z + bs Z≤b * bs Z ∨ b * bs Z + bs Z≤a * bs Z:=by
 rcases (by omega:a = 0 ∨ a = 1) with e | e <;> rcases (by omega:b = 0 ∨ b = 1) with e' | e' <;> subst e <;> subst e' <;> omega
theorem Mk.piece {Z:Nat} {J0 J:Nat→Nat} {bank end_ b0 e0 k q:Nat} {b:List Nat} (h:Mk Z J0 J bank end_ b0 e0 b k) (hF:Free Z bank end_ b0 e0 b.length) (hq:k + q≤b.length) :
  Mk Z J0 (puts J [(8 + b0 * bs Z + e0 + k,(b.drop k).take q)]) bank end_ b0 e0 b (k + q):=by
 have hl:((b.drop k).take q).length = q:=by simp;omega
 have hfit:=hF.fit;refine ⟨fun o ho=>?_,fun o h1 h2=>?_,fun i hi=>?_⟩
 ·rw [puts_one,if_neg (by omega)];exact h.head o ho
 ·rw [puts_one,if_neg ?_]
  ·exact h.used o h1 h2
  ·have hle:=hF.le;rcases hF.off with ⟨e1,e2⟩ | ⟨e1,e2⟩
   ·subst e1 e2;omega
   ·rcases bank_far (Z:=Z) hF.one' hF.one e1 with d | d <;> rw [hl] <;> omega
 ·rw [puts_one,hl];by_cases hk:i < k
  ·rw [if_neg (by omega)];exact h.has i hk
  ·rw [if_pos (by omega),show 8 + b0 * bs Z + e0 + i - (8 + b0 * bs Z + e0 + k) = i - k by omega];simp only [gd0,List.getElem?_take,List.getElem?_drop];rw [if_pos (by omega),show k + (i - k) = i by omega]
theorem Mk.done {Z:Nat} {J0 J J':Nat→Nat} {bank end_ b0 e0 k:Nat} {b:List Nat} (h:Mk Z J0 J bank end_ b0 e0 b k) (hF:Free Z bank end_ b0 e0 b.length) (hZ:Z < 4294967296)
  (hJ:∀ o,J' o = if o < 8 then (hdB b0 (e0 + b.length)).getD o 0 else if 8 + b0 * bs Z + e0 + k≤o∧o < 8 + b0 * bs Z + e0 + b.length then b.getD (o - (8 + b0 * bs Z + e0)) 0 else J o)
  {f f':Items} (hB:Banks Z J0 f bank end_) {l':List Rec} (hb:b = encRs l') (hok:∀ r ∈ l',ROk r) (hf:f' = sets (if b0 = bank then f else none_) l') (hw:wt f'≤Z / 2):Banks Z J' f' b0 (e0 + b.length):=by
 have hnew:sp J' (8 + b0 * bs Z + e0) b.length = b:=by
  refine sp_eq fun i hi=>?_;rw [hJ,if_neg (by omega)];by_cases hk:i < k
  ·rw [if_neg (by omega)];exact h.has i hk
  ·rw [if_pos (by omega)];congr 1;omega
 refine ⟨hF.one',?_,hF.fit,?_,hw⟩
 ·have e:=hdB_len b0 (e0 + b.length);have:=sp_eq (J:=J') (o:=0) (l:=hdB b0 (e0 + b.length)) (fun i hi=>by rw [Nat.zero_add,hJ,if_pos (by omega)]);rw [e] at this;exact this
 ·rcases hF.off with ⟨e1,e2⟩ | ⟨e1,e2⟩
  ·subst e1 e2;rw [if_pos rfl] at hf;obtain ⟨l,a,r,s⟩:=hB.recs;refine ⟨l ++ l',?_,fun x hx=>?_,by rw [sets_append,s,hf]⟩
   ·rw [sp_add,hnew,encRs_append,← a,hb]
    congr 1
    refine sp_congr fun o h1 h2=>?_;rw [hJ,if_neg (by omega),if_neg (by omega)];exact h.used o h1 h2
   ·rcases List.mem_append.1 hx with hx | hx
    ·exact r x hx
    ·exact hok x hx
  ·rw [if_neg e1] at hf;subst e2;refine ⟨l',?_,hok,hf.symm⟩;rw [Nat.zero_add,← hb];exact hnew
end Vn
end Go.Proofs.YtanioleniadhoaaGreat
/-
 Maps whose keys are numbers below 4097, as functions: looking up, setting, deleting, and going through them.
-/
namespace Go.Proofs.YtanioleniadhoaaGreat
open Go.RowKit
open Go.Maps (int_keyed keyOf_int_mk)
open Vn
structure NIs (D:DataW Value) (f:Nat→Option Value):Prop where
 is:∀ k,Maps.has D (ik k) = (f k).isSome∧∀ v,f k = some v→∀ z,D.atKey (ik k) z = .held v
 only:∀ kl,Maps.has D kl = true→∃ k,k < 4097∧kl = ik k
structure NMap (w:World) (b:Nat) (f:Nat→Option Value):Prop where
 ex:∃ D:DataW Value,w.ownsMap Tryz.prog 3 tokR b 4097 D∧NIs D f
section
variable {w w' : World} {b n : Nat} {f : Nat → Option Value} {S : Nat → Prop}
theorem ik_inj {a b:Nat} (h:ik a = ik b):a = b:=by
 rcases Nat.decEq a b with e | e
 ·exact (ik_ne e h).elim
 ·exact e
theorem NMap.imap (h:NMap w b f):IMap w b 4097 f:=by
 obtain ⟨D,h1,h2⟩:=h.ex;exact ⟨D,h1,h2.is⟩
theorem NMap.lt (h:NMap w b f):b < w.heap.size:=h.imap.lt
theorem NMap.supp (h:NMap w b f):∀ k,(f k).isSome = true→k < 4097:=by
 obtain ⟨D,_,h2⟩:=h.ex;intro k hk;obtain ⟨j,hj,e⟩:=h2.only (ik k) (by rw [(h2.is k).1];exact hk);rw [ik_inj e];exact hj
theorem NMap.mod (h:NMap w b f) (hm:Mod S w w') (hb:¬ S b):NMap w' b f:=by
 obtain ⟨D,⟨es,clock,h1,h2⟩,h3⟩:=h.ex;exact ⟨D,⟨es,clock,(hm.block b (Array.getElem?_eq_some_iff.1 h1).1 hb).trans h1,h2⟩,h3⟩
theorem NMap.congr {g:Nat→Option Value} (h:NMap w b f) (e:∀ k,f k = g k):NMap w b g:=by
 have:f = g:=funext e;rw [← this];exact h
theorem NMap.made (w:World):NMap (w.alloc (.map #[] 0)) w.heap.size (fun _=>none) :=
 ⟨.map [],(World.ownsMap_made _ _ _ _).mono (Nat.zero_le _),⟨fun k=>⟨rfl,fun v h=>by cases h⟩,fun kl h=>by cases h⟩⟩
theorem nodup_map_le:∀ (l:List Lit),l.Nodup→(∀ x ∈ l,∃ k,k < 4097∧x = ik k)→l.length≤4097:=by
 intro l hn hx
 have h1:l.length≤((List.range 4097).map ik).length:=by
  refine hn.length_le_of_subset fun x hxl=>?_;obtain ⟨k,hk,rfl⟩:=hx x hxl;exact List.mem_map.2 ⟨k,List.mem_range.2 hk,rfl⟩
 simpa using h1
theorem sameKey_self {a:Lit} (h:WideAt.IsKeyLit a):a.sameKey a = true:=WideAt.sameKey_self h
theorem tighten {D:DataW Value} (h:w.ownsMap Tryz.prog 3 tokR b n D) (ho:∀ kl,Maps.has D kl = true→∃ k,k < 4097∧kl = ik k):w.ownsMap Tryz.prog 3 tokR b 4097 D:=by
 obtain ⟨es',hD,hp,hkl⟩:=h.entries ikeyed;obtain ⟨es,clock,hb,F,hs,hD2⟩:=h;refine ⟨es,clock,hb,F,?_,hD2⟩
 have e1:es'.length = es.size:=by
  rw [hD] at hD2
  cases hD2
  exact length_read es
 have h2:(es'.map (·.1)).length≤4097:=by
  refine nodup_map_le _ (List.pairwise_map.2 hp) fun x hx=>?_;obtain ⟨p,hp',rfl⟩:=List.mem_map.1 hx;refine ho _ ?_;subst hD;rw [Maps.has_eq,List.any_eq_true];exact ⟨p,hp',sameKey_self (hkl p hp')⟩
 rw [List.length_map,e1] at h2;exact h2
theorem NMap.look_ok (h:NMap w b f) {t e:TypeId} (ht:Tryz.prog.underlying t = some (.map 3 e)) {z:Value} (hz:(zeroValue e).run Tryz.prog w = .ok z w) {k:Nat} (hk:k < 9223372036854775808) :
  (Instr.lookup t (.map (some b)) (.int .i64 k) true).run Tryz.prog w = .ok (.tuple #[(f k).getD z,.bool (f k).isSome]) w:=h.imap.look_ok ht hz hk
theorem NMap.look (h:NMap w b f) {t e:TypeId} (ht:Tryz.prog.underlying t = some (.map 3 e)) {z:Value} (hz:(zeroValue e).run Tryz.prog w = .ok z w) {k:Nat} (hk:k < 9223372036854775808) :
  (Instr.lookup t (.map (some b)) (.int .i64 k) false).run Tryz.prog w = .ok ((f k).getD z) w:=h.imap.look ht hz hk
theorem NMap.keys {D:DataW Value} (h:w.ownsMap Tryz.prog 3 tokR b n D) (hi:NIs D f) {ss:List Int} (hp:ss.Perm (Go.intKeys D)):ss.mergeSort (fun x y=>decide (x≤y)) = (dom f).map Int.ofNat:=by
 obtain ⟨es,hD,hpw,hkl⟩:=h.entries ikeyed;subst hD
 have hall:∀ p ∈ es,∃ k:Nat,k < 4097∧p.1 = ik k:=fun p hp'=>hi.only _ (by
  rw [Maps.has_eq,List.any_eq_true]
  exact ⟨p,hp',sameKey_self (hkl p hp')⟩)
 have hm:∀ x:Int,x ∈ ss ↔ ∃ k:Nat,x = k∧(f k).isSome = true:=by
  intro x;rw [hp.mem_iff]
  show x ∈ es.map (fun p=>Go.intOf p.1) ↔ _
  rw [List.mem_map]
  constructor
  ·rintro ⟨p,hp',rfl⟩;obtain ⟨k,hk,e⟩:=hall p hp';refine ⟨k,by rw [e];rfl,?_⟩;rw [← (hi.is k).1,Maps.has_eq,List.any_eq_true];exact ⟨p,hp',by rw [e];exact sameKey_self (ik_key k)⟩
  ·rintro ⟨k,rfl,hk⟩;rw [← (hi.is k).1,Maps.has_eq,List.any_eq_true] at hk;obtain ⟨p,hp',e⟩:=hk;obtain ⟨j,hj,e2⟩:=hall p hp';refine ⟨p,hp',?_⟩;rw [e2] at e ⊢
   have:ik j = ik k:=by
    apply Classical.byContradiction
    intro hne;rw [Maps.sameKey_ne hne] at e
    cases e
   rw [ik_inj this];rfl
 refine sorted_dom (fun k hk=>?_) ?_ hm
 ·obtain ⟨j,hj,e⟩:=hi.only (ik k) (by rw [(hi.is k).1];exact hk);rw [ik_inj e];exact hj
 ·rw [hp.nodup_iff]
  show (es.map (fun p=>Go.intOf p.1)).Nodup
  refine List.pairwise_map.2 (hpw.imp_of_mem fun {p q} hp' hq' hne e=>hne ?_);obtain ⟨k,_,e1⟩:=hall p hp';obtain ⟨j,_,e2⟩:=hall q hq';rw [e1,e2] at e ⊢;have:(k:Int) = j:=e;rw [show k = j by omega]
end
theorem wpList_nmap_put {w:World} {ops:Array Oper} {rest:List Oper} {o:Oper} {a:Act} {Q:Exit→Act→World→Prop} (hg:o.guard = none) (m x v:Operand) (t:TypeId) (hop:o.op = Op.mapUpdate t m x v) (e:TypeId) (ht:Tryz.prog.underlying t = some (.map 3 e))
  (b k:Nat) (f:Nat→Option Value) (u:Value) (hm:a.eval m = .map (some b)) (h:NMap w b f) (hx:a.eval x = .int .i64 k) (hv:a.eval v = u) (hk:k < 4097)
  (hK:∀ w',NMap w' b (fun j=>if j = k then some u else f j)→Mod (fun j=>j = b) w w'→wpList Tryz.prog ops Q rest (a.put o.dst undef) w'):wpList Tryz.prog ops Q (o :: rest) a w:=by
 obtain ⟨D,h1,h2⟩:=h.ex;have hkey:keyOf Tryz.prog 3 (.int .i64 (k:Int)) = some (ik k):=keyOf_int_mk Tryz.underlying3 (ik_wf (by omega));refine wpList_mapUpdate_in w hg m x v t hop 3 e ikeyed ht tokR b 4097 D hm h1 (by unfold maxLen;omega) (.int .i64 (k:Int)) u (ik k) hx hv hkey (.held u) [] rfl ?_;intro w' h3 h4;have hD:Maps.IsMap D:=by obtain ⟨es,clock,_,_,_,hD⟩:=h1;exact ⟨_,hD⟩
 have hI:NIs (D.put (ik k) (.held u)) (fun j=>if j = k then some u else f j):=by
  refine ⟨fun j=>?_,fun kl hkl=>?_⟩
  ·by_cases e:j = k
   ·subst e;rw [if_pos rfl];exact ⟨by rw [Maps.has_put_same hD (ik_key _)];rfl,fun v' hv' z=>by cases hv';exact Maps.atKey_put_same hD (ik_key _) _ _⟩
   ·rw [if_neg e];obtain ⟨h5,h6⟩:=h2.is j;exact ⟨by rw [Maps.has_put_other (ik_ne e)];exact h5,fun v' hv' z=>by rw [Maps.atKey_put_other (ik_ne e)];exact h6 v' hv' z⟩
  ·by_cases e:kl = ik k
   ·exact ⟨k,hk,e⟩
   ·rw [Maps.has_put_other e] at hkl;exact h2.only _ hkl
 exact hK w' ⟨_,tighten h3 hI.only,hI⟩ (mod_turned h4)
theorem wpList_nmap_del {w:World} {ops:Array Oper} {rest:List Oper} {o:Oper} {a:Act} {Q:Exit→Act→World→Prop} (hg:o.guard = none) (m x:Operand) (t:TypeId) (hop:o.op = Op.call { callee:=Callee.builtin Builtin.delete,args:=#[m,x],argTypes:=#[t,3] }) (e:TypeId) (ht:Tryz.prog.underlying t = some (.map 3 e))
  (b k:Nat) (f:Nat→Option Value) (hm:a.eval m = .map (some b)) (h:NMap w b f) (hx:a.eval x = .int .i64 k) (hk:k < 4097)
  (hK:∀ w',NMap w' b (fun j=>if j = k then none else f j)→Mod (fun j=>j = b) w w'→wpList Tryz.prog ops Q rest (a.put o.dst (.tuple #[])) w'):wpList Tryz.prog ops Q (o :: rest) a w:=by
 obtain ⟨D,h1,h2⟩:=h.ex;have hkey:keyOf Tryz.prog 3 (.int .i64 (k:Int)) = some (ik k):=keyOf_int_mk Tryz.underlying3 (ik_wf (by omega));refine wpList_delete_own w hg m x t 3 hop e ikeyed ht tokR b 4097 D hm h1 (.int .i64 (k:Int)) (ik k) hx hkey ?_;intro w' h3 h4;refine hK w' ⟨_,h3,⟨fun j=>?_,fun kl hkl=>?_⟩⟩ (mod_turned h4)
 ·by_cases e:j = k
  ·subst e;rw [if_pos rfl];exact ⟨Maps.has_del_same,fun v' hv'=>by cases hv'⟩
  ·rw [if_neg e];obtain ⟨h5,h6⟩:=h2.is j;exact ⟨by rw [Maps.has_del_other (ik_ne e)];exact h5,fun v' hv' z=>by rw [Maps.atKey_del_other (ik_ne e)];exact h6 v' hv' z⟩
 ·by_cases e:kl = ik k
  ·exact ⟨k,hk,e⟩
  ·rw [Maps.has_del_other e] at hkl;exact h2.only _ hkl
structure NRange (w:World) (b r:Nat) (f:Nat→Option Value) (ss:List Nat):Prop where
 ex:∃ (D:DataW Value) (left:Lit→Bool) (cnt:Nat),w.ranges Tryz.prog 3 tokR b r 4097 D left cnt∧NIs D f∧CollectedI D left (ss.map Int.ofNat)
theorem NRange.mod {w w':World} {b r:Nat} {f:Nat→Option Value} {ss:List Nat} {S:Nat→Prop} (h:NRange w b r f ss) (hm:Mod S w w') (h1:¬ S b) (h2:¬ S r):NRange w' b r f ss∧w'.rangeLeft b r = w.rangeLeft b r:=by
 obtain ⟨D,left,cnt,hr,h3⟩:=h.ex;have hb:=hr.owns.lt;have hlt:=hr.lt;have e1:=hm.block b hb h1;have e2:=hm.block r hlt h2;refine ⟨⟨D,left,cnt,?_,h3⟩,?_⟩
 ·obtain ⟨es,clock,since,seen,c0,a1,a2,a3,a4,a5,a6⟩:=hr;exact ⟨es,clock,since,seen,c0,e1.trans a1,a2,a3,a4,e2.trans a5,a6⟩
 ·unfold World.rangeLeft;rw [e1,e2]
theorem grown_mod {w w':World} {r:Nat} (h:w.grownBy w' (some r)):Mod (fun j=>j = r) w w':=(Mod.refl _ w).grown h (fun k hk _=>by cases hk;rfl)
theorem grown_mod0 {w w':World} (h:w.grownBy w' none):Mod Nowhere w w':=(Mod.refl _ w).grown h (fun k hk _=>by cases hk)
theorem wpList_nmap_range {w:World} {ops:Array Oper} {rest:List Oper} {o:Oper} {a:Act} {Q:Exit→Act→World→Prop} (hg:o.guard = none) (m:Operand) (t:TypeId) (hop:o.op = Op.range t m) (e:TypeId) (ht:Tryz.prog.underlying t = some (.map 3 e))
  (b:Nat) (f:Nat→Option Value) (hm:a.eval m = .map (some b)) (h:NMap w b f)
  (hK:∀ w',NRange w' b w.heap.size f []→Mod Nowhere w w'→w'.heap.size = w.heap.size + 1→wpList Tryz.prog ops Q rest (a.put o.dst (.pointer (some ⟨w.heap.size,0,none⟩))) w'):wpList Tryz.prog ops Q (o :: rest) a w:=by
 obtain ⟨D,h1,h2⟩:=h.ex;refine wpList_range_own w hg m t hop 3 e ikeyed ht tokR b 4097 D hm h1 ?_;intro w' h3 h4 h5;exact hK w' ⟨D,_,_,h3,h2,CollectedI.start D⟩ (grown_mod0 h4) h5
theorem wpList_nmap_next {w:World} {ops:Array Oper} {rest:List Oper} {o:Oper} {a:Act} {Q:Exit→Act→World→Prop} (hg:o.guard = none) (it:Operand) (hop:o.op = Op.next it false)
  (b r:Nat) (f:Nat→Option Value) (ss:List Nat) (hit:a.eval it = .pointer (some ⟨r,0,none⟩)) (h:NRange w b r f ss)
  (hDone:ss.Nodup→(∀ k,k ∈ ss ↔ (f k).isSome = true)→wpList Tryz.prog ops Q rest (a.put o.dst (.tuple #[.bool false])) w)
  (hMore:∀ (k:Nat) (v:Value) (w':World),k ∉ ss→k < 4097→f k = some v→NRange w' b r f (ss ++ [k])→w'.rangeLeft b r < w.rangeLeft b r→Mod (fun j=>j = r) w w'→w'.heap.size = w.heap.size→(Instr.entry (.pointer (some ⟨r,0,none⟩))).run Tryz.prog w' = .ok (.tuple #[.int .i64 k,v]) w'→wpList Tryz.prog ops Q rest (a.put o.dst (.tuple #[.bool true,.int .i64 k,v])) w') :
  wpList Tryz.prog ops Q (o :: rest) a w:=by
 obtain ⟨D,left,cnt,h1,h2,h3⟩:=h.ex;refine wpList_next_ranges (α:=Int) (β:=Value) w hg it hop 3 ikeyed tokR Go.encZ id (fun key kl hk=>by obtain ⟨x,hx,_⟩:=Maps.keyOf_i64 Tryz.underlying3 hk;exact ⟨x,hx⟩) (fun v _ _=>⟨v,rfl⟩) b r 4097 D left cnt hit h1 ?_ ?_
 ·intro hc hl;refine hDone ?_ fun k=>?_
  ·exact (List.pairwise_map.1 h3.1).imp fun {a b} hne e=>hne (by rw [e])
  ·have:=h3.2 (k:Int);rw [hl] at this;have e2:Maps.has D (.int .i64 (k:Int)) = (f k).isSome:=(h2.is k).1;rw [e2] at this
   have e1:((k:Int) ∈ ss.map Int.ofNat) ↔ k ∈ ss:=by
    rw [List.mem_map];exact ⟨fun ⟨j,hj,e⟩=>by have e:(j:Int) = k:=e;rwa [← show j = k by omega],fun hk=>⟨k,hk,rfl⟩⟩
   rw [← e1,this];simp
 ·intro x c kl y w' cnt' hkey hlk hv hat hrg hlt hgr hsz hen;obtain ⟨x',ex,rfl,_⟩:=Maps.keyOf_i64 Tryz.underlying3 hkey;obtain rfl:x = x':=Go.encZ_inj ex;have hhas:Maps.has D (.int .i64 x) = true:=Maps.has_true_of_atKey hat;obtain ⟨k,hk,e⟩:=h2.only _ hhas;have ex2:x = (k:Int):=by unfold ik at e;simpa using e
  subst ex2;have hs:(f k).isSome = true:=by rw [← (h2.is k).1];exact hhas
  obtain ⟨v,hfv⟩:=Option.isSome_iff_exists.1 hs
  have hvv:c = v:=by
   have h5:=(h2.is k).2 v hfv (.held v);have h6:D.atKey (ik k) (.held v) = y.1:=hat (.held v);have h7:tokR c = some y:=hv;unfold tokR at h7
   cases h7
   rw [h6] at h5;simpa using h5
  subst hvv
  have hnew:k ∉ ss:=fun hx=>by
   have h8:=((h3.2 (k:Int)).1 (List.mem_map.2 ⟨k,hx,rfl⟩)).2;rw [hlk] at h8;cases h8
  refine hMore k c w' hnew hk hfv ⟨D,_,_,hrg,h2,?_⟩ (by rw [hrg.left_eq,h1.left_eq];exact hlt) (grown_mod hgr) hsz hen;rw [List.map_append];exact h3.step hlk hat
end Go.Proofs.YtanioleniadhoaaGreat
/-
 How a vault lies in Go's memory.
-/
namespace Go.Proofs.YtanioleniadhoaaGreat
open Go.RowKit
open Jn Vn
abbrev Vx:=Value × Rec
def vcCells (x:Vx):List Value:=[.int .i64 x.2.1,x.1,.bool x.2.2.isNone]
def vcsCells (xs:List Vx):List Value:=xs.flatMap vcCells
def recs (xs:List Vx):List Rec:=xs.map (·.2)
structure VcSl (w:World) (v:Value) (xs:List Vx):Prop where
 sl:Sl w v 238 3 xs.length (vcsCells xs)
 data:∀ x ∈ xs,DSl w x.1 (x.2.2.getD [])
structure VMap (w:World) (b:Nat) (f:Items):Prop where
 ex:∃ g:Nat→Option Value,NMap w b g∧∀ k,(f k = none∧g k = none) ∨ ∃ d v,f k = some d∧g k = some v∧DSl w v d
section
variable {S : Nat → Prop} {w w' : World} {v : Value} {d : List Nat} {b : Nat} {f : Items} {xs : List Vx}
theorem VcSl.mod (h:VcSl w v xs) (hm:Mod S w w') (hS:Shun S w 5) (hT:Shun S w 238):VcSl w' v xs:=⟨h.sl.mod hm (h.sl.off hT),fun x hx=>(h.data x hx).mod hm hS⟩
theorem VMap.mod (h:VMap w b f) (hm:Mod S w w') (hb:¬ S b) (hS:Shun S w 5):VMap w' b f:=by
 obtain ⟨g,h1,h2⟩:=h.ex;refine ⟨g,h1.mod hm hb,fun k=>?_⟩;rcases h2 k with h3 | ⟨d,v,e1,e2,h3⟩
 ·exact .inl h3
 ·exact .inr ⟨d,v,e1,e2,h3.mod hm hS⟩
theorem VMap.fresh (h:VMap w b f) (hm:Mod Nowhere w w'):VMap w' b f:=h.mod hm id (Shun.none _ _)
theorem VcSl.fresh (h:VcSl w v xs) (hm:Mod Nowhere w w'):VcSl w' v xs:=h.mod hm (Shun.none _ _) (Shun.none _ _)
theorem VMap.lt (h:VMap w b f):b < w.heap.size:=by obtain ⟨g,h1,_⟩:=h.ex;exact h1.lt
theorem vcsCells_get:∀ (xs:List Vx) (i:Nat) (h:i < xs.length),(vcsCells xs).getD (i * 3) default = .int .i64 xs[i].2.1∧(vcsCells xs).getD (i * 3 + 1) default = xs[i].1∧(vcsCells xs).getD (i * 3 + 2) default = .bool xs[i].2.2.isNone
 | x :: xs,0,_=>by simp [vcsCells,vcCells]
 | x :: xs,i + 1,h=>by
  have:=vcsCells_get xs i (by simpa using h);have e:vcsCells (x :: xs) = .int .i64 x.2.1 :: x.1 :: .bool x.2.2.isNone :: vcsCells xs:=rfl;rw [e,show (i + 1) * 3 = i * 3 + 1 + 1 + 1 by omega,show i * 3 + 1 + 1 + 1 + 1 = (i * 3 + 1) + 1 + 1 + 1 by omega,show i * 3 + 1 + 1 + 1 + 2 = (i * 3 + 2) + 1 + 1 + 1 by omega];simp only [List.getD_cons_succ,List.getElem_cons_succ];exact this
theorem vcsCells_len (xs:List Vx):(vcsCells xs).length = xs.length * 3:=by
 induction xs with
 | nil=>rfl
 | cons x xs ih=>show (vcCells x ++ vcsCells xs).length = _;rw [List.length_append,ih];simp [vcCells];omega
theorem vcsCells_append (xs ys:List Vx):vcsCells (xs ++ ys) = vcsCells xs ++ vcsCells ys:=by simp [vcsCells]
theorem VcSl.at_ (h:VcSl w v xs) {i:Nat} (hi:i < xs.length):∃ b off cap a c,v = .slice (some ⟨b,off,none⟩) xs.length cap∧b < w.heap.size∧xs.length≤cap∧cap≤maxLen∧w.cell? ⟨b,off + i * 3,none⟩ = some (.int .i64 xs[i].2.1)∧w.cell? ⟨b,off + i * 3 + 1,none⟩ = some xs[i].1∧w.cell? ⟨b,off + i * 3 + 2,none⟩ = some (.bool xs[i].2.2.isNone)∧xs[i].1 = .slice a (xs[i].2.2.getD []).length c:=by
 obtain ⟨b,off,cap,rfl,hb,h1,h2,hc,_⟩:=h.sl.open (by omega);obtain ⟨e1,e2,e4⟩:=vcsCells_get xs i hi;obtain ⟨a,c,e3,_⟩:=Sl.len (h.data xs[i] (List.getElem_mem hi));have c1:=hc (i * 3) (by omega);have c2:=hc (i * 3 + 1) (by omega);have c3:=hc (i * 3 + 2) (by omega);rw [e1] at c1;rw [e2] at c2;rw [e4] at c3;exact ⟨b,off,cap,a,c,rfl,hb,h1,h2,c1,by rw [Nat.add_assoc];exact c2,by rw [Nat.add_assoc];exact c3,e3⟩
end
structure VSt where
 f:Items
 act:Bool
 l:List Rec
structure VAt where
 vb:Nat
 jb:Nat
 pb:Nat
 ab:Nat
 hb:Nat
 M:MemAt
 count:Nat
 frames:Nat
 cuts:Nat
 X:Nat→Prop
def VAt.J (A:VAt):Nat→Prop:=fun k=>(k = A.pb ∨ k = A.ab ∨ k = A.hb) ∨ A.M.S k
def VAt.S (A:VAt):Nat→Prop:=fun k=>k = A.vb ∨ A.J k
def VAt.Z (A:VAt):Nat:=(A.count - 32) * 48
structure VAt.Of (A:VAt) (P:PAt) (p:PSt):Prop where
 pb:P.pb = A.pb
 ab:P.ab = A.ab
 hb:P.hb = A.hb
 count:p.count = A.count
 frames:p.frames = A.frames
 cuts:p.cuts = A.cuts
theorem VAt.Of.J {A:VAt} {P:PAt} {p:PSt} (h:A.Of P p):(fun k=>P.S k ∨ A.M.S k) = A.J:=by
 funext k
 unfold PAt.S VAt.J;rw [h.pb,h.ab,h.hb]
theorem VAt.Of.after {A:VAt} {P P':PAt} {p p':PSt} (h:A.Of P p) (a1:P'.pb = P.pb) (a2:P'.ab = P.ab) (a3:P'.hb = P.hb) (a4:p'.count = p.count) (a5:p'.frames = p.frames) (a6:p'.cuts = p.cuts):A.Of P' p' :=
 ⟨a1.trans h.pb,a2.trans h.ab,a3.trans h.hb,a4.trans h.count,a5.trans h.frames,a6.trans h.cuts⟩
def vCells (A:VAt) (bank end_ ib:Nat) (act:Bool) (lv:Value):List Value:=[ptr A.jb,.int .i64 bank,.int .i64 end_,.map (some ib),.bool act,lv]
structure VR (w:World) (A:VAt) (m:Mem) (P:PAt) (p:PSt) (pc:PC) (J:Nat→Nat) (bank end_ ib:Nat) (lv:Value) (xs:List Vx) (s:VSt):Prop where
 jr:Jr w A.jb A.M m P p pc
 of:A.Of P p
 st:Still A.count pc J
 bk:Banks A.Z J s.f bank end_
 bv:Blk w A.vb (vCells A bank end_ ib s.act lv) 162
 im:VMap w ib s.f
 ls:VcSl w lv xs
 xl:recs xs = s.l
 ok:∀ r ∈ s.l,ROk r
 idle:s.act = false→s.l = []
 nx:¬ A.X ib
 xb:∀ k,A.X k→k < w.heap.size
structure VRep (w:World) (A:VAt) (m:Mem) (s:VSt):Prop where
 ex:∃ P p pc J bank end_ ib lv xs,VR w A m P p pc J bank end_ ib lv xs s
structure VStub (w:World) (A:VAt) (m:Mem) (P:PAt) (p:PSt):Prop where
 cell:w.cell? ⟨A.vb,0,none⟩ = some (ptr A.jb)
 jb:JBlk w A.jb A.M P p
 mem:MemRep w A.M m
structure VDead (w:World) (A:VAt) (m:Mem) (f:Items):Prop where
 ex:∃ P p pc J bank end_,PRep w A.M P p∧A.Of P p∧Holds m.D A.count A.frames m.writes pc∧Holdsj A.count pc J∧Banks A.Z J f bank end_
 mem:MemRep w A.M m
 bj:Blk w A.jb [ptr A.pb] 255
 bv:∃ bank end_ ib act lv,Blk w A.vb (vCells A bank end_ ib act lv) 162
 off:m.off = true ∨ m.cuts ≠ A.cuts
def VPost (w:World) (A:VAt) (m:Mem) (s s':VSt) (n:Nat) (e:Ending) (w':World):Prop :=
 (∃ m' k,e = .returned (errno 0)∧VRep w' A m' s'∧k≤n∧Runs m m' k∧Mod A.S w w') ∨
 (∃ m' f,e = .returned (errno 7)∧(f = s.f ∨ f = s'.f)∧VDead w' A m' f∧Stopped m m' n∧Mod A.S w w')
section
variable {w w' : World} {A : VAt} {m : Mem} {P : PAt} {p : PSt} {pc : PC} {J : Nat → Nat} {bank end_ ib : Nat} {lv : Value} {xs : List Vx} {s : VSt} {S : Nat → Prop} {T : TypeId}
theorem VR.stub (h:VR w A m P p pc J bank end_ ib lv xs s):VStub w A m P p:=⟨h.bv.cell 0,h.jr.jblk,h.jr.pg.ctx.mem⟩
theorem JR.shunJ (h:Jr w A.jb A.M m P p pc) (hO:A.Of P p) (hT:T ≠ 246∧T ≠ 3∧T ≠ 165∧T ≠ 315):Shun A.J w T:=by
 rintro k ((e | e | e) | e | e | e) cs hb
 ·obtain ⟨fx,hp⟩:=h.pg.rep.bp;rw [hO.pb] at hp;rw [e] at hb;exact hT.1 (hb.inj hp).2
 ·have hp:=h.pg.rep.ba;rw [hO.ab] at hp;rw [e] at hb;exact hT.2.1 (hb.inj hp).2
 ·have hp:=h.pg.rep.bh;rw [hO.hb] at hp;rw [e] at hb;exact hT.2.1 (hb.inj hp).2
 ·rw [e] at hb;exact hT.2.2.1 (hb.inj h.pg.ctx.mem.bm).2
 ·rw [e] at hb;exact hT.2.2.2 (hb.inj h.pg.ctx.mem.bw).2
 ·rw [e] at hb;exact hT.2.1 (hb.inj h.pg.ctx.mem.br).2
theorem VR.shunJ (h:VR w A m P p pc J bank end_ ib lv xs s) (hT:T ≠ 246∧T ≠ 3∧T ≠ 165∧T ≠ 315):Shun A.J w T:=JR.shunJ h.jr h.of hT
theorem VR.shunS (h:VR w A m P p pc J bank end_ ib lv xs s) (hT:T ≠ 246∧T ≠ 3∧T ≠ 165∧T ≠ 315) (hV:T ≠ 162):Shun A.S w T:=by
 rintro k (e | e) cs hb
 ·rw [e] at hb;exact hV (hb.inj h.bv).2
 ·exact h.shunJ hT k e cs hb
theorem JR.cells (h:Jr w A.jb A.M m P p pc) (hO:A.Of P p):∀ k,A.J k→∃ cs T,Blk w k cs T:=by
 rintro k ((e | e | e) | e | e | e)
 ·obtain ⟨fx,hp⟩:=h.pg.rep.bp;rw [hO.pb] at hp;rw [e];exact ⟨_,_,hp⟩
 ·have hp:=h.pg.rep.ba;rw [hO.ab] at hp;rw [e];exact ⟨_,_,hp⟩
 ·have hp:=h.pg.rep.bh;rw [hO.hb] at hp;rw [e];exact ⟨_,_,hp⟩
 ·rw [e];exact ⟨_,_,h.pg.ctx.mem.bm⟩
 ·rw [e];exact ⟨_,_,h.pg.ctx.mem.bw⟩
 ·rw [e];exact ⟨_,_,h.pg.ctx.mem.br⟩
theorem VMap.noCells {b:Nat} {f:Items} (h:VMap w b f) {cs:List Value}:¬ Blk w b cs T:=by
 obtain ⟨g,⟨⟨D,⟨es,clock,h1,_⟩,_⟩⟩,_⟩:=h.ex;intro hb;have:=hb.symm.trans h1;simp at this
theorem VR.ltJ (h:VR w A m P p pc J bank end_ ib lv xs s):∀ k,A.J k→k < w.heap.size:=fun k hk=>by
 obtain ⟨cs,T,hb⟩:=JR.cells h.jr h.of k hk;exact hb.lt
theorem VR.ltS (h:VR w A m P p pc J bank end_ ib lv xs s):∀ k,A.S k→k < w.heap.size:=by
 rintro k (e | e)
 ·rw [e];exact h.bv.lt
 ·exact h.ltJ k e
theorem VR.ibJ (h:VR w A m P p pc J bank end_ ib lv xs s):¬ A.J ib:=fun e=>by
 obtain ⟨cs,T,hb⟩:=JR.cells h.jr h.of _ e;exact h.im.noCells hb
theorem VR.vbJ (h:VR w A m P p pc J bank end_ ib lv xs s):¬ A.J A.vb:=fun e=>h.shunJ (T:=162) (by decide) _ e _ h.bv
theorem VR.keep (h:VR w A m P p pc J bank end_ ib lv xs s) (hm:Mod S w w') (hS:∀ k,k < w.heap.size→¬ S k):VR w' A m P p pc J bank end_ ib lv xs s:=by
 have hs:∀ T,Shun S w T:=fun T k hk cs hb=>hS k hb.lt hk;exact ⟨h.jr.fresh hm hS,h.of,h.st,h.bk,h.bv.mod hm (hS _ h.bv.lt),h.im.mod hm (hS _ h.im.lt) (hs _),h.ls.mod hm (hs _) (hs _),h.xl,h.ok,h.idle,h.nx,fun k hk=>Nat.lt_of_lt_of_le (h.xb k hk) hm.size⟩
theorem VR.fresh (h:VR w A m P p pc J bank end_ ib lv xs s) (hm:Mod Nowhere w w'):VR w' A m P p pc J bank end_ ib lv xs s:=h.keep hm (fun _ _=>id)
theorem VRep.keep (h:VRep w A m s) (hm:Mod S w w') (hS:∀ k,k < w.heap.size→¬ S k):VRep w' A m s:=by
 obtain ⟨P,p,pc,J,bank,end_,ib,lv,xs,h⟩:=h.ex;exact ⟨⟨_,_,_,_,_,_,_,_,_,h.keep hm hS⟩⟩
theorem VRep.fresh (h:VRep w A m s) (hm:Mod Nowhere w w'):VRep w' A m s:=h.keep hm (fun _ _=>id)
theorem VR.rep (h:VR w A m P p pc J bank end_ ib lv xs s):VRep w A m s:=⟨⟨_,_,_,_,_,_,_,_,_,h⟩⟩
theorem VR.z8 (h:VR w A m P p pc J bank end_ ib lv xs s):48≤A.Z∧A.Z≤3145728:=by
 have h1:=h.jr.c33;have h2:=h.jr.pg.rep.c16;rw [h.of.count] at h1 h2;unfold VAt.Z;omega
theorem VR.jmod (h:VR w A m P p pc J bank end_ ib lv xs s) {m':Mem} {P':PAt} {p':PSt} {pc':PC} {J':Nat→Nat} {bank' end':Nat} (hm:Mod A.J w w') (hj:Jr w' A.jb A.M m' P' p' pc') (hO:A.Of P' p') (hst:Still A.count pc' J') (hb:Banks A.Z J' s.f bank end_) :
  VR w' A m' P' p' pc' J' bank end_ ib lv xs s :=
 ⟨hj,hO,hst,hb,h.bv.mod hm h.vbJ,h.im.mod hm h.ibJ (h.shunJ (by decide)),h.ls.mod hm (h.shunJ (by decide)) (h.shunJ (by decide)),h.xl,h.ok,h.idle,h.nx,fun k hk=>Nat.lt_of_lt_of_le (h.xb k hk) hm.size⟩
theorem VR.set (h:VR w A m P p pc J bank end_ ib lv xs s) {bank' end':Nat} {lv':Value} {xs':List Vx} {s':VSt} (hm:Mod (fun k=>k = A.vb) w w') (hbv:Blk w' A.vb (vCells A bank' end' ib s'.act lv') 162)
  (hbk:Banks A.Z J s'.f bank' end') (him:VMap w ib s'.f) (hls:VcSl w lv' xs') (hxl:recs xs' = s'.l) (hok:∀ r ∈ s'.l,ROk r) (hid:s'.act = false→s'.l = []):VR w' A m P p pc J bank' end' ib lv' xs' s':=by
 have hsh:∀ T,T ≠ 162→Shun (fun k=>k = A.vb) w T:=fun T hT k e cs hb=>hT ((e ▸ hb).inj h.bv).2
 have hj:∀ k,(k = A.jb ∨ P.S k ∨ A.M.S k)→¬ k = A.vb:=by
  rintro k (e | e) ev
  ·rw [ev] at e;have hb:=h.jr.bj;rw [← e] at hb;exact absurd (hb.inj h.bv).2 (by decide)
  ·have:A.J k:=by rw [← h.of.J];exact e
   rw [ev] at this;exact h.vbJ this
 refine ⟨h.jr.keep hm hj (h.jr.pg.rep.bf.off (hsh _ (by decide))),h.of,h.st,hbk,hbv,him.mod hm (fun e=>by
  have hb:=h.bv;rw [← e] at hb
  exact him.noCells hb) (hsh _ (by decide)),hls.mod hm (hsh _ (by decide)) (hsh _ (by decide)),hxl,hok,hid,h.nx,fun k hk=>Nat.lt_of_lt_of_le (h.xb k hk) hm.size⟩
end
end Go.Proofs.YtanioleniadhoaaGreat
/-
 The vault's bytes of a number, and back.
-/
namespace Go.Proofs.YtanioleniadhoaaGreat
open Go.RowKit
open Jn
theorem vnumber_ok {w:World} {v:Value} {l:List Nat} (h:Sl w v 5 1 l.length (u8s l)) (hb:Bytes l) (hl:l.length≤8) (hn:num l < 36028797018963968) :
  Calls Tryz.prog 245 #[v] w fun e w'=>e = .returned (.int .i64 (num l:Nat))∧w = w':=by
 obtain ⟨a,cap,rfl,h1,h2,hcells⟩:=h.gen;clear h;replace hb:=Lib.hid hb;go_enter Tryz.func245,Tryz.ntmps245;go_wp2
 go_loop [3,8] (fun n i=>∃ k:Nat,k≤l.length∧i = .int .i64 k∧n = .int .i64 (num (l.take k):Nat)) (fun _ i=>l.length - (intOf i).toNat)
 case atStart=>exact ⟨0,by omega,rfl,by simp [num]⟩
 case round =>
  obtain ⟨k,hk,rfl,rfl⟩:=hrel;have hle:=num_take l k;by_cases hlt:k < l.length
  ·obtain ⟨b,off,rfl,hbl,hc,hz⟩:=hcells (by omega);have hck:=hc k (by omega);rw [u8s_getD l k hlt] at hck;have hx:=hb.out k;have hs:=num_take_succ l k hlt;have hw:=num_word (num (l.take k)) (l.getD k 0) (by omega) hx;replace hs:=Lib.hid hs;generalize l.getD k 0 = x at *;generalize num (l.take k) = n0 at *;clear hc;go_wp2
   go_round
   case rel=>exact ⟨k + 1,by omega,by go_num,by rw [hs.out];go_num⟩
   case measure=>simp [intOf];omega
  ·obtain rfl:k = l.length:=by omega
   rw [List.take_length];clear hcells;go_wp2;go_ret;exact ⟨rfl,rfl⟩
theorem vbytesOf_ok {w:World} (n wd:Nat) (hn:n < 9223372036854775808) (hw:wd≤8) (hw1:1≤wd) :
  Calls Tryz.prog 225 #[.int .i64 n,.int .i64 wd] w fun e w'=>e = .returned (.slice (some ⟨w.heap.size,0,none⟩) wd wd)∧Blk w' w.heap.size (u8s (be wd n)) 5∧Mod Nowhere w w':=by
 have hmk:=run_make_full (P:=Tryz.prog) 22 5 (.int .u8 0) 1 Tryz.underlying22 info_u8 rfl wd (by omega) (by omega) w;have hb0:=Blk.new w (List.replicate wd (.int .u8 0)) 5;have hm0:Mod Nowhere w (w.alloc (.cells (List.replicate wd (Value.int .u8 0)).toArray 5)):=(Mod.refl _ w).alloc _;generalize hZ:(List.replicate wd (Value.int .u8 0)).toArray = Z at hmk hb0 hm0;replace hZ:=Lib.hid hZ;go_enter Tryz.func225,Tryz.ntmps225;go_wp2
 go_loopw [11] (fun i wr=>∃ k:Nat,k≤wd∧i = .int .i64 k∧Blk wr w.heap.size (u8s (bePart wd n k)) 5∧Mod Nowhere w wr) (fun i _=>wd - (intOf i).toNat)
 case atStart=>exact ⟨0,by omega,rfl,hb0.conv (show List.replicate wd (Value.int .u8 0) = u8s (bePart wd n 0) by rw [bePart_zero];simp [u8s]),hm0⟩
 case round =>
  obtain ⟨k,hk,rfl,hbk,hmk2⟩:=hrel;by_cases hlt:k < wd
  ·have hz:=hbk.frozen;have hl:=hbk.lt;have hlen:=bePart_len wd n k
   have hc:wr.cell? ⟨w.heap.size,wd - 1 - k,none⟩ = some (.int .u8 ((bePart wd n k).getD (wd - 1 - k) 0:Nat)):=by
    rw [hbk.cell];simp [u8s,gd0,List.getElem?_map,List.getElem?_eq_getElem (show wd - 1 - k < (bePart wd n k).length by omega)]
   generalize (bePart wd n k).getD (wd - 1 - k) 0 = old at hc;have hs:=bePart_succ wd n k hlt;refine hid3 ?_ hs hbk hmk2;clear hs hbk hmk2;intro hs hbk hmk2;go_wp2;go_roundw
   case rel =>
    refine ⟨k + 1,by omega,by go_num,((hbk.out.setCell (wd - 1 - k) _).conv ?_),hmk2.out.setCell (p:=⟨w.heap.size,_,none⟩) (fun h=>by have h:w.heap.size < w.heap.size:=h;omega) _⟩
    have e1:(n:Int) / 2 ^ (8 * k) % 256 = ((n / 256 ^ k % 256:Nat):Int):=by
     rw [show (256:Nat) ^ k = 2 ^ (8 * k) by rw [Nat.pow_mul]];simp
    rw [e1,← hs.out];simp [u8s,List.map_set]
   case measure=>simp [intOf];omega
  ·obtain rfl:k = wd:=by omega
   rw [bePart_all] at hbk;replace hbk:=Lib.hid hbk;go_wp2;go_ret;exact ⟨rfl,hbk.out,hmk2⟩
end Go.Proofs.YtanioleniadhoaaGreat
/-
 slices.Sorted of maps.Keys: the numbers of a map, ascending.
-/
namespace Go.Proofs
open Go.RowKit Go.Maps Go.Sort Go.Shelf
theorem Tryz.sortsA (m:Nat):AnyZI.SortsIn Tryz.prog Tryz.sortedA_ren Fence.wide m :=
 ⟨fun blk off cap ss W hH hblk hsz=>callsIn_wide.2 (AnyM.slices_Sort_int Tryz.sortA blk off cap ss W hH hblk hsz),
  fun p cap W=>callsIn_wide.2 (AnyM.slices_Sort_int_none Tryz.sortA p cap W)⟩
end Go.Proofs
namespace Go.Proofs.YtanioleniadhoaaGreat
open Go.RowKit Go.Maps Go.Sort Go.Shelf
open Vn
theorem own_size {H:Type} {w:World} {b n:Nat} {D:DataW H} {R:Value→Option (DataW H × List MemPlace)} (h:w.ownsMap Tryz.prog 3 R b n D):Maps.size D≤n:=by
 obtain ⟨es,clock,_,_,h1,h2⟩:=h;subst h2;simpa [Maps.size,length_read] using h1
def KeysPost (w:World) (f:Nat→Option Value) (e:Ending) (w':World):Prop :=
 ∃ v,e = .returned v∧w'.ownsRow w.heap.size 3 1 v (dom f).length ((dom f).map fun k:Nat=>Value.int .i64 (k:Int))∧Mod Nowhere w w'
theorem keysPost_of {w w1 w':World} {D:DataW Value} {f:Nat→Option Value} {v:Value} {ss:List Int} {b n:Nat} (h:w.ownsMap Tryz.prog 3 tokR b n D) (hi:NIs D f) (hp:ss.Perm (Go.intKeys D)) (hs:w1.heap.size = w.heap.size + 1) (hm:Mod Nowhere w w1)
  (hr:w'.ownsRow w1.heap.size 3 1 v ss.length ((ss.mergeSort (fun x y=>decide (x≤y))).map encZ)) (hb:Below w1.heap.size w1 w'):KeysPost w f (.returned v) w':=by
 have hk:=NMap.keys h hi hp;rw [hk] at hr
 have hl:ss.length = (dom f).length:=by
  rw [← List.length_mergeSort (le:=fun x y:Int=>decide (x≤y)) ss,hk,List.length_map]
 rw [hl,List.map_map] at hr;refine ⟨v,rfl,ownsRow_base_a hr (by omega),hm.trans (Mod.of_below hb)⟩
theorem KeysA_ok (mb:Option Nat) (W:World):Calls Tryz.prog 226 #[.map mb] W fun e w'=>e = .returned (.func (.func 265) #[] #[.pointer (some ⟨W.heap.size,0,none⟩)])∧w' = W.alloc (.cells #[.map mb] 159) :=
 (callsIn_wide (n:=5)).1 (AnyZI.keys_in Tryz.keysA Fence.wide 5 trivial rfl mb W)
theorem SortedA_ok {w:World} {b:Nat} {f:Nat→Option Value} (h:NMap w b f) :
  Calls Tryz.prog 223 #[.func (.func 265) #[] #[.pointer (some ⟨w.heap.size,0,none⟩)]] (w.alloc (.cells #[.map (some b)] 159)) (KeysPost w f):=by
 obtain ⟨D,hown,hi⟩:=h.ex;clear h;refine (callsIn_wide (n:=5)).1 ?_;have hbl:=hown.lt;have hsz:=own_size hown
 have hseq:SeqGives Fence.wide 2 Tryz.prog 265 #[.pointer (some ⟨w.heap.size,0,none⟩)] encZ (fun ss=>ss.Perm (intKeys D)) (Maps.size D) (w.alloc (.cells #[.map (some b)] 159)) :=
  AnyZI.keys_gives (ρ:=Tryz.keysA_ren) { Tryz.keysA with } Fence.wide _ trivial rfl (by omega) w.heap.size b 4097 D _ (by simp) (by simp) (by
   obtain ⟨es,clock,hb,Ft,hs,hD⟩:=hown
   exact ⟨es,clock,(Below.heap_alloc _ _ b hbl).trans hb,Ft,hs,hD⟩)
 have cS:=AnyZI.sorted_in Tryz.sortedA Fence.wide 5 trivial trivial trivial trivial rfl (by omega) (Tryz.sortsA _) (enters_of Tryz.func263 (by kernel_rfl) rfl) 265 #[.pointer (some ⟨w.heap.size,0,none⟩)] trivial (enters_of Tryz.func265 (by kernel_rfl) rfl) _ _ (by unfold maxLen;omega) (by omega) _ hseq
 change CallsIn _ _ Tryz.prog 223 _ _ _ at cS
 refine cS.mono ?_;rintro e w' ⟨v,ss,rfl,hS,hrow,hnil,hb⟩;exact keysPost_of hown hi hS (by simp) ((Mod.refl _ w).alloc _) hrow hb
theorem KeysB_ok (mb:Option Nat) (W:World):Calls Tryz.prog 224 #[.map mb] W fun e w'=>e = .returned (.func (.func 264) #[] #[.pointer (some ⟨W.heap.size,0,none⟩)])∧w' = W.alloc (.cells #[.map mb] 284) :=
 (callsIn_wide (n:=5)).1 (AnyZI.keys_in Tryz.keysB Fence.wide 5 trivial rfl mb W)
theorem SortedB_ok {w:World} {b:Nat} {f:Nat→Option Value} (h:NMap w b f) :
  Calls Tryz.prog 223 #[.func (.func 264) #[] #[.pointer (some ⟨w.heap.size,0,none⟩)]] (w.alloc (.cells #[.map (some b)] 284)) (KeysPost w f):=by
 obtain ⟨D,hown,hi⟩:=h.ex;clear h;refine (callsIn_wide (n:=5)).1 ?_;have hbl:=hown.lt;have hsz:=own_size hown
 have hseq:SeqGives Fence.wide 2 Tryz.prog 264 #[.pointer (some ⟨w.heap.size,0,none⟩)] encZ (fun ss=>ss.Perm (intKeys D)) (Maps.size D) (w.alloc (.cells #[.map (some b)] 284)) :=
  AnyZI.keys_gives (ρ:=Tryz.keysB_ren) { Tryz.keysB with } Fence.wide _ trivial rfl (by omega) w.heap.size b 4097 D _ (by simp) (by simp) (by
   obtain ⟨es,clock,hb,Ft,hs,hD⟩:=hown
   exact ⟨es,clock,(Below.heap_alloc _ _ b hbl).trans hb,Ft,hs,hD⟩)
 have cS:=AnyZI.sorted_in Tryz.sortedA Fence.wide 5 trivial trivial trivial trivial rfl (by omega) (Tryz.sortsA _) (enters_of Tryz.func263 (by kernel_rfl) rfl) 264 #[.pointer (some ⟨w.heap.size,0,none⟩)] trivial (enters_of Tryz.func264 (by kernel_rfl) rfl) _ _ (by unfold maxLen;omega) (by omega) _ hseq
 change CallsIn _ _ Tryz.prog 223 _ _ _ at cS
 refine cS.mono ?_;rintro e w' ⟨v,ss,rfl,hS,hrow,hnil,hb⟩;exact keysPost_of hown hi hS (by simp) ((Mod.refl _ w).alloc _) hrow hb
theorem vSorted_ok {w:World} {b:Nat} {f:Nat→Option Value} (h:NMap w b f) :
  Calls Tryz.prog 164 #[.map (some b)] w (KeysPost w f):=by
 have hS:=SortedA_ok h;replace hS:=Lib.hid hS;clear h;go_enter Tryz.func164,Tryz.ntmps164
 go_wp2_with (first
  | (go_at_call 226;refine (KeysA_ok _ _).mono ?_;rintro e w' ⟨rfl,rfl⟩)
  | (go_at_call 223;refine hS.out.mono ?_;rintro e w' ⟨v,rfl,h1,h2⟩;replace h1:=Lib.hid h1;replace h2:=Lib.hid h2))
 go_ret;exact ⟨_,rfl,h1.out,h2.out⟩
end Go.Proofs.YtanioleniadhoaaGreat
