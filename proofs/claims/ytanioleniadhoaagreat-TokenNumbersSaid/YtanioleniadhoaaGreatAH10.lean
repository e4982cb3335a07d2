/-
  What the calls of a vault do, in plain numbers.
-/
import Derived.Test.YtanioleniadhoaaGreatAG15
set_option linter.unusedVariables false
set_option linter.unusedSimpArgs false
namespace Go.Proofs.YtanioleniadhoaaGreat
open Go.RowKit
open Jn Vn
def at_ (f:Items) (id:Int):Option (List Nat):=if 0≤id then f id.toNat else none
theorem sum_filter (g:Nat→Nat) (p:Nat→Bool):∀ l:List Nat,((l.filter p).map g).sum = (l.map fun k=>if p k then g k else 0).sum
 | []=>rfl
 | k :: l=>by
  have ih:=sum_filter g p l;rw [List.filter_cons,List.map_cons,List.sum_cons]
  cases hp:p k with
  | true=>rw [if_pos rfl,List.map_cons,List.sum_cons,ih,if_pos rfl]
  | false=>rw [if_neg (by decide),ih,if_neg (by decide),Nat.zero_add]
theorem sum_mono (g h:Nat→Nat) (hgh:∀ k,g k≤h k):∀ l:List Nat,(l.map g).sum≤(l.map h).sum
 | []=>Nat.le_refl _
 | k :: l=>by
  have:=sum_mono g h hgh l;have:=hgh k;simp only [List.map_cons,List.sum_cons];omega
theorem wt_mono {f g:Items} (h:∀ k,f k = g k ∨ f k = none):wt f≤wt g:=by
 unfold wt dom;rw [sum_filter,sum_filter];refine sum_mono _ _ (fun k=>?_) _;rcases h k with e | e
 ·rw [e];exact Nat.le_refl _
 ·rw [e];simp
theorem wt_drop (f:Items) (id:Nat):wt (set1 f (id,none))≤wt f:=wt_mono fun k=>by
 unfold set1;by_cases e:k = id
 ·exact .inr (by simp [e])
 ·exact .inl (by simp [e])
def vChange (Z:Nat) (s:VSt) (r:Rec):VSt × Nat :=
 if s.act = true∧4096 < Vn.need (s.l ++ [r]) then (s,11)
 else if r.2.isSome = true∧Z / 2 < wt (sets s.f (s.l ++ [r])) then (s,10)
 else if s.act = true then ({ s with l:=s.l ++ [r] },0) else ({ s with f:=sets s.f (s.l ++ [r]) },0)
def vPut (Z:Nat) (s:VSt) (id:Int) (d:List Nat):VSt × Nat:=if validB id d.length = true then vChange Z s (id.toNat,some d) else (s,1)
def vBegin (s:VSt):VSt × Nat:=if s.act = true then (s,14) else ({ s with act:=true,l:=[] },0)
def vCommit (Z:Nat) (s:VSt):VSt × Nat:=if s.act = true then (if Z / 2 < wt (sets s.f s.l) then (s,10) else ({ f:=sets s.f s.l,act:=false,l:=[] },0)) else (s,14)
def vAbort (s:VSt):VSt × Nat:=if s.act = true then ({ s with act:=false,l:=[] },0) else (s,14)
theorem validB_ok {id:Int} {d:List Nat} (h:validB id d.length = true) (hb:Bytes d):ROk (id.toNat,some d)∧((id.toNat:Nat):Int) = id:=by
 unfold validB at h;simp only [Bool.and_eq_true,decide_eq_true_eq] at h;exact ⟨⟨by show 1≤id.toNat;omega,by show id.toNat≤4096;omega,h.2,hb⟩,by omega⟩
theorem set1_swap (f:Items) {r x:Rec} (h:x.1 ≠ r.1):set1 (set1 f x) r = set1 (set1 f r) x:=by
 funext k
 unfold set1;by_cases h1:k = r.1
 ·by_cases h2:k = x.1
  ·exact absurd (h2.symm.trans h1) h
  ·simp [h1,Ne.symm h]
 ·simp [h1]
theorem sets_swap (f:Items) (r:Rec) (l:List Rec) (h:∀ x ∈ l,x.1 ≠ r.1):set1 (sets f l) r = sets (set1 f r) l:=by
 induction l using snoc_ind with
 | h0=>rfl
 | h1 l x ih=>rw [sets_snoc,sets_snoc,set1_swap _ (h x (by simp)),ih fun y hy=>h y (by simp [hy])]
end Go.Proofs.YtanioleniadhoaaGreat
/-
 The PINs, in plain numbers: definitions as items of a vault, and what the calls do.
-/
namespace Go.Proofs.YtanioleniadhoaaGreat
namespace Vn
open Jn
def view (s:VSt):Items:=sets s.f s.l
structure PinD where
 id:Nat
 value:List Nat
 limit:Nat
 lo:Nat
 hi:Nat
 code:List Nat
 cl:Nat
def pinB (d:PinD):List Nat:=[d.limit,d.lo,d.hi,d.cl,d.value.length] ++ (d.value ++ d.code)
def unB (id:Nat) (b:List Nat):PinD :=
 { id:=id,limit:=b.getD 0 0,lo:=b.getD 1 0,hi:=b.getD 2 0,cl:=b.getD 3 0,value:=(b.drop 5).take (b.getD 4 0),code:=(b.drop 5).drop (b.getD 4 0) }
theorem unB_pinB (d:PinD):unB d.id (pinB d) = d:=by
 obtain ⟨id,value,limit,lo,hi,code,cl⟩:=d;simp [unB,pinB]
theorem pinB_len (d:PinD):(pinB d).length = 5 + (d.value.length + d.code.length):=by simp [pinB];omega
structure POk (d:PinD):Prop where
 i1:1≤d.id
 i8:d.id≤8
 l1:1≤d.limit
 l15:d.limit≤15
 lo:1≤d.lo
 hi:d.hi≤16
 v1:d.lo≤d.value.length
 v2:d.value.length≤d.hi
 c:(d.code = []∧d.cl = 0) ∨ (1≤d.code.length∧d.code.length≤16∧1≤d.cl∧d.cl≤15)
 bv:Bytes d.value
 bc:Bytes d.code
theorem POk.code16 {d:PinD} (h:POk d):d.code.length≤16:=by
 rcases h.c with ⟨e,-⟩ | ⟨-,e,-,-⟩
 ·rw [e];simp
 ·exact e
theorem POk.cl15 {d:PinD} (h:POk d):d.cl≤15:=by
 rcases h.c with ⟨-,e⟩ | ⟨-,-,-,e⟩
 ·omega
 ·exact e
theorem POk.short {d:PinD} (h:POk d):(pinB d).length≤37:=by
 have:=h.code16;have:=h.v2;have:=h.hi;rw [pinB_len];omega
theorem POk.bytes {d:PinD} (h:POk d):Bytes (pinB d):=by
 have:=h.l15;have:=h.hi;have:=h.v1;have:=h.v2;have:=h.cl15;unfold pinB;refine bytes_append (fun k=>?_) (bytes_append h.bv h.bc)
 match k with
 | 0=>simp;omega
 | 1=>simp;omega
 | 2=>simp;omega
 | 3=>simp;omega
 | 4=>simp;omega
 | k + 5=>simp
def pget (F:Items) (id:Nat):Option PinD :=
 if 1≤id∧id≤8 then (F (16 + id)).bind fun b=>if 5≤b.length then some (unB id b) else none else none
structure PInvF (F:Items):Prop where
 pin:∀ k b,F k = some b→(∃ d,POk d∧k = 16 + d.id∧b = pinB d) ∨ (∃ id t u,1≤id∧id≤8∧k = 24 + id∧b = [t,u]∧t≤15∧u≤15)
theorem PInvF.none:PInvF none_:=⟨fun k b h=>by cases h⟩
theorem PInvF.get {F:Items} (h:PInvF F) {id:Nat} {d:PinD} (hd:pget F id = some d):POk d∧d.id = id∧F (16 + id) = some (pinB d):=by
 unfold pget at hd
 split at hd
 ·rename_i hi
  cases hb:F (16 + id) with
  | none=>rw [hb] at hd;cases hd
  | some b =>
   rw [hb] at hd;rcases h.pin _ _ hb with ⟨d',h1,h2,h3⟩ | ⟨j,t,u,h1,h2,h3,-⟩
   ·have e:d'.id = id:=by omega
    have hl:5≤b.length:=by rw [h3,pinB_len];omega
    simp only [Option.bind_some,hl,if_true,Option.some.injEq] at hd;rw [h3,← e,unB_pinB] at hd;subst hd;exact ⟨h1,e,by rw [h3]⟩
   ·omega
 ·cases hd
end Vn
end Go.Proofs.YtanioleniadhoaaGreat
/-
 The PINs, in plain numbers: where the vault has nothing but PINs, there is room for all changes.
-/
namespace Go.Proofs.YtanioleniadhoaaGreat
namespace Vn
open Jn
inductive PRec:Rec→Prop
 | pin (d:PinD) (h:POk d):PRec (16 + d.id,some (pinB d))
 | cnt (id t u:Nat) (h1:1≤id) (h8:id≤8) (ht:t≤15) (hu:u≤15):PRec (24 + id,some [t,u])
 | del (k:Nat) (h1:17≤k) (h2:k≤32):PRec (k,none)
theorem PRec.range {r:Rec} (h:PRec r):17≤r.1∧r.1≤32:=by
 cases h with
 | pin d h=>have:=h.i1;have:=h.i8;exact ⟨by show 17≤16 + d.id;omega,by show 16 + d.id≤32;omega⟩
 | cnt id t u h1 h8 ht hu=>exact ⟨by show 17≤24 + id;omega,by show 24 + id≤32;omega⟩
 | del k h1 h2=>exact ⟨h1,h2⟩
theorem PRec.short {r:Rec} (h:PRec r):(r.2.getD []).length≤37:=by
 cases h with
 | pin d h=>exact h.short
 | cnt id t u h1 h8 ht hu=>show 2≤37;omega
 | del k h1 h2=>show 0≤37;omega
theorem PRec.ok {r:Rec} (h:PRec r):ROk r:=by
 refine ⟨by have:=h.range;omega,by have:=h.range;omega,by have:=h.short;omega,?_⟩
 cases h with
 | pin d h=>exact h.bytes
 | cnt id t u h1 h8 ht hu =>
  intro k
  match k with
  | 0=>show t < 256;omega
  | 1=>show u < 256;omega
  | k + 2=>show (0:Nat) < 256;omega
 | del k h1 h2=>exact fun k=>by simp
theorem PInvF.set {F:Items} (h:PInvF F) {r:Rec} (hr:PRec r):PInvF (set1 F r):=by
 refine ⟨fun k b hk=>?_⟩;unfold set1 at hk
 split at hk
 ·rename_i e
  subst e
  cases hr with
  | pin d hd =>
   have hk:some (pinB d) = some b:=hk
   cases hk
   exact .inl ⟨d,hd,rfl,rfl⟩
  | cnt id t u h1 h8 ht hu =>
   have hk:some [t,u] = some b:=hk
   cases hk
   exact .inr ⟨id,t,u,h1,h8,rfl,rfl,ht,hu⟩
  | del k h1 h2=>cases hk
 ·exact h.pin k b hk
theorem PInvF.sets {F:Items} (h:PInvF F):∀ (l:List Rec),(∀ r ∈ l,PRec r)→PInvF (sets F l):=by
 intro l
 induction l using snoc_ind with
 | h0=>intro _;exact h
 | h1 l r ih =>
  intro hl;rw [sets_snoc];exact (ih fun x hx=>hl x (by simp [hx])).set (hl r (by simp))
theorem PInvF.item {F:Items} (h:PInvF F) {k:Nat} {b:List Nat} (hk:F k = some b):17≤k∧k≤32∧b.length≤37:=by
 rcases h.pin k b hk with ⟨d,h1,h2,h3⟩ | ⟨id,t,u,h1,h8,h2,h3,-⟩
 ·have:=h1.i1;have:=h1.i8;have:=h1.short;rw [← h3] at this;omega
 ·rw [h3];exact ⟨by omega,by omega,by show 2≤37;omega⟩
theorem sum_le_mul (g:Nat→Nat) (c:Nat):∀ ks:List Nat,(∀ k ∈ ks,g k≤c)→(ks.map g).sum≤c * ks.length
 | [],_=>Nat.le_refl _
 | k :: ks,h=>by
  have h1:=h k (by simp);have h2:=sum_le_mul g c ks fun x hx=>h x (by simp [hx]);rw [List.map_cons,List.sum_cons,List.length_cons,Nat.mul_succ];omega
theorem nodup_le33 {ss:List Nat} (hn:ss.Nodup) (h:∀ k ∈ ss,k < 33):ss.length≤33:=by
 have h1:=hn.length_le_of_subset (l₂:=List.range 33) fun x hx=>List.mem_range.2 (h x hx);simpa using h1
theorem PInvF.wt {F:Items} (h:PInvF F):wt F≤1800:=by
 have h1:∀ k ∈ dom F,16 + ((F k).getD []).length≤53:=fun k hk=>by
  obtain ⟨b,hb⟩:=Option.isSome_iff_exists.1 (mem_dom.1 hk).2;have:=h.item hb;rw [hb]
  show 16 + b.length≤53
  omega
 have h2:=nodup_le33 (dom_nodup F) fun k hk=>by
  obtain ⟨b,hb⟩:=Option.isSome_iff_exists.1 (mem_dom.1 hk).2;have:=h.item hb;omega
 have h3:=sum_le_mul (fun k=>16 + ((F k).getD []).length) 53 (dom F) h1;have:Vn.wt F = ((dom F).map fun k=>16 + ((F k).getD []).length).sum:=rfl;omega
structure PS (s:VSt):Prop where
 f:PInvF s.f
 l:∀ r ∈ s.l,PRec r
 idle:s.act = false→s.l = []
theorem PS.view {s:VSt} (h:PS s):PInvF (view s):=h.f.sets _ h.l
def pApp (s:VSt) (r:Rec):VSt:=if s.act = true then { s with l:=s.l ++ [r] } else { s with f:=set1 s.f r }
theorem PS.app {s:VSt} (h:PS s) {r:Rec} (hr:PRec r):PS (pApp s r):=by
 unfold pApp
 split
 ·rename_i ha
  refine ⟨h.f,fun x hx=>?_,fun e=>?_⟩
  ·rcases List.mem_append.1 hx with hx | hx
   ·exact h.l x hx
   ·rw [List.mem_singleton.1 hx];exact hr
  ·have e:s.act = false:=e;rw [ha] at e;cases e
 ·exact ⟨h.f.set hr,h.l,h.idle⟩
theorem view_app {s:VSt} (h:PS s) (r:Rec):view (pApp s r) = set1 (view s) r:=by
 unfold pApp view
 split
 ·exact sets_snoc _ _ _
 ·rename_i ha
  have hl:s.l = []:=h.idle (by simpa using ha)
  show sets (set1 s.f r) s.l = set1 (sets s.f s.l) r
  rw [hl];rfl
end Vn
end Go.Proofs.YtanioleniadhoaaGreat
/-
 The PINs, in plain numbers: what each call leaves where the vault has nothing but PINs.
-/
namespace Go.Proofs.YtanioleniadhoaaGreat
namespace Vn
open Jn
def touch (s:VSt) (id:Nat):Bool:=s.l.any fun r=>decide (r.1 = 24 + id)
def cntS (s:VSt) (id:Nat) (b:List Nat):VSt:={ s with f:=set1 s.f (24 + id,some b) }
theorem touch_no {s:VSt} {id:Nat} (h:touch s id = false):∀ x ∈ s.l,x.1 ≠ 24 + id:=by
 intro x hx e;unfold touch at h;rw [List.any_eq_false] at h;exact h x hx (by simpa using e)
theorem view_cnt {s:VSt} {id:Nat} {b:List Nat} (h:touch s id = false):view (cntS s id b) = set1 (view s) (24 + id,some b):=by
 unfold view cntS;exact (sets_swap s.f (24 + id,some b) s.l (touch_no h)).symm
theorem PS.cnt {s:VSt} (h:PS s) {id t u:Nat} (h1:1≤id) (h8:id≤8) (ht:t≤15) (hu:u≤15):PS (cntS s id [t,u]):=⟨h.f.set (.cnt id t u h1 h8 ht hu),h.l,h.idle⟩
def putS (s:VSt) (d:PinD) (t u:Nat):VSt:=pApp (pApp s (16 + d.id,some (pinB d))) (24 + d.id,some [t,u])
def delS (s:VSt) (id:Nat):VSt:=pApp (pApp s (16 + id,none)) (24 + id,none)
def Pairs (F:Items):Prop:=∀ id,1≤id→id≤8→(F (16 + id)).isSome = (F (24 + id)).isSome
theorem Pairs.none:Pairs none_:=fun _ _ _=>rfl
theorem Pairs.set2 {F:Items} (h:Pairs F) {id:Nat} (h1:1≤id) (h8:id≤8) {a b:Option (List Nat)} (hab:a.isSome = b.isSome):Pairs (set1 (set1 F (16 + id,a)) (24 + id,b)):=by
 intro k k1 k8;unfold set1;dsimp only;by_cases e:k = id
 ·subst e;rw [if_neg (by omega),if_pos rfl,if_pos rfl];exact hab
 ·rw [if_neg (by omega),if_neg (by omega),if_neg (by omega),if_neg (by omega)];exact h k k1 k8
structure PSP (s:VSt):Prop where
 ps:PS s
 pv:Pairs (view s)
 pf:Pairs s.f
 tl:∀ id,1≤id→id≤8→(∃ r ∈ s.l,r.1 = 16 + id)→touch s id = true
def idleS (f:Items):VSt:={ f:=f,act:=false,l:=[] }
theorem PSP.idle0 {f:Items} (h:PInvF f) (hp:Pairs f):PSP (idleS f):=⟨⟨h,fun _ hr=>(List.not_mem_nil hr).elim,fun _=>rfl⟩,hp,hp,fun _ _ _ ⟨_,hr,_⟩=>(List.not_mem_nil hr).elim⟩
theorem PSP.app2 {s:VSt} (h:PSP s) {id:Nat} (h1:1≤id) (h8:id≤8) {a b:Option (List Nat)} (hab:a.isSome = b.isSome) (ha:PRec (16 + id,a)) (hb:PRec (24 + id,b)):PSP (pApp (pApp s (16 + id,a)) (24 + id,b)):=by
 have hps:=(h.ps.app ha).app hb;refine ⟨hps,?_,?_,?_⟩
 ·rw [view_app (h.ps.app ha),view_app h.ps];exact h.pv.set2 h1 h8 hab
 ·by_cases hact:s.act = true
  ·have e:(pApp (pApp s (16 + id,a)) (24 + id,b)).f = s.f:=by unfold pApp;simp [hact]
   rw [e];exact h.pf
  ·have e:(pApp (pApp s (16 + id,a)) (24 + id,b)).f = set1 (set1 s.f (16 + id,a)) (24 + id,b):=by unfold pApp;simp [hact]
   rw [e];exact h.pf.set2 h1 h8 hab
 ·intro k k1 k8 ⟨r,hr,er⟩;by_cases hact:s.act = true
  ·have e:(pApp (pApp s (16 + id,a)) (24 + id,b)).l = s.l ++ [(16 + id,a)] ++ [(24 + id,b)]:=by unfold pApp;simp [hact]
   unfold touch;rw [e] at hr ⊢;simp only [List.mem_append,List.mem_singleton] at hr;rcases hr with (hr | hr) | hr
   ·have:=h.tl k k1 k8 ⟨r,hr,er⟩;unfold touch at this;rw [List.any_append,List.any_append,this];rfl
   ·rw [hr] at er;have er:16 + id = 16 + k:=er;obtain rfl:id = k:=by omega
    rw [List.any_append];simp
   ·rw [hr] at er;have er:24 + id = 16 + k:=er;omega
  ·have e:(pApp (pApp s (16 + id,a)) (24 + id,b)).l = s.l:=by unfold pApp;simp [hact]
   rw [e,h.ps.idle (by simpa using hact)] at hr;exact (List.not_mem_nil hr).elim
theorem PSP.put {s:VSt} (h:PSP s) {d:PinD} (hd:POk d) {t u:Nat} (ht:t≤15) (hu:u≤15):PSP (putS s d t u):=h.app2 hd.i1 hd.i8 rfl (.pin d hd) (.cnt d.id t u hd.i1 hd.i8 ht hu)
theorem PSP.del {s:VSt} (h:PSP s) {id:Nat} (h1:1≤id) (h8:id≤8):PSP (delS s id):=h.app2 h1 h8 rfl (.del _ (by omega) (by omega)) (.del _ (by omega) (by omega))
theorem sets_notin (f:Items) (l:List Rec) (k:Nat) (h:∀ r ∈ l,r.1 ≠ k):sets f l k = f k:=by
 induction l using snoc_ind with
 | h0=>rfl
 | h1 l r ih =>
  rw [sets_snoc];unfold set1;rw [if_neg (fun e=>h r (by simp) e.symm)];exact ih fun x hx=>h x (by simp [hx])
theorem PSP.free {s:VSt} (h:PSP s) {id:Nat} (h1:1≤id) (h8:id≤8) (ht:touch s id = false):view s (16 + id) = s.f (16 + id)∧view s (24 + id) = s.f (24 + id) :=
 ⟨sets_notin _ _ _ (fun r hr e=>by rw [h.tl id h1 h8 ⟨r,hr,e⟩] at ht;cases ht),sets_notin _ _ _ (touch_no ht)⟩
theorem PSP.cnt {s:VSt} (h:PSP s) {id t u:Nat} (h1:1≤id) (h8:id≤8) (ht:t≤15) (hu:u≤15) (hto:touch s id = false) (hs:(view s (16 + id)).isSome = true):PSP (cntS s id [t,u]):=by
 have hpair:∀ F:Items,Pairs F→(F (16 + id)).isSome = true→Pairs (set1 F (24 + id,some [t,u])):=by
  intro F hF hs k k1 k8;unfold set1;dsimp only;by_cases e:k = id
  ·subst e;rw [if_neg (by omega),if_pos rfl];exact hs
  ·rw [if_neg (by omega),if_neg (by omega)];exact hF k k1 k8
 refine ⟨h.ps.cnt h1 h8 ht hu,?_,?_,h.tl⟩
 ·rw [view_cnt hto];exact hpair _ h.pv hs
 ·exact hpair _ h.pf (by rw [← (h.free h1 h8 hto).1];exact hs)
theorem PSP.begin {s:VSt} (h:PSP s) (ha:s.act = false):PSP { s with act:=true,l:=[] } :=
 ⟨⟨h.ps.f,fun _ hr=>(List.not_mem_nil hr).elim,fun e=>by cases e⟩,h.pf,h.pf,fun _ _ _ ⟨_,hr,_⟩=>(List.not_mem_nil hr).elim⟩
theorem PSP.commit {s:VSt} (h:PSP s):PSP (idleS (view s)):=.idle0 h.ps.view h.pv
theorem PSP.abort {s:VSt} (h:PSP s):PSP (idleS s.f):=.idle0 h.ps.f h.pf
end Vn
end Go.Proofs.YtanioleniadhoaaGreat
/-
 The PINs, in plain numbers: what a guess leaves.
-/
namespace Go.Proofs.YtanioleniadhoaaGreat
namespace Vn
open Jn
end Vn
end Go.Proofs.YtanioleniadhoaaGreat
