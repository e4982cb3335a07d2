/-
  What `changed` has in its map while it works, and what becomes of it byte by byte.
-/
import Derived.Test.YtanioleniadhoaaGreatAG11
import Derived.Test.YtanioleniadhoaaGreatAG09
set_option linter.unusedVariables false
set_option linter.unusedSimpArgs false
set_option maxHeartbeats 4000000
set_option maxRecDepth 100000
namespace Go.Proofs.YtanioleniadhoaaGreat
open Go.RowKit
open Jn
theorem nodup_inj {α:Type} {f:α→Nat}:∀ {l:List α},(l.map f).Nodup→∀ {a b:α},a ∈ l→b ∈ l→f a = f b→a = b
 | x :: l,hn,a,b,ha,hb,h=>by
  obtain ⟨h1,h2⟩:=List.nodup_cons.1 hn;rcases List.mem_cons.1 ha with rfl | ha'
  ·rcases List.mem_cons.1 hb with rfl | hb'
   ·rfl
   ·exact (h1 (List.mem_map.2 ⟨b,hb',h.symm⟩)).elim
  ·rcases List.mem_cons.1 hb with rfl | hb'
   ·exact (h1 (List.mem_map.2 ⟨a,ha',h⟩)).elim
   ·exact nodup_inj h2 ha' hb' h
def pgOf (cur:Nat→Nat) (i:Nat):List Nat:=(List.range 48).map fun r=>cur ((i - 32) * 48 + r)
theorem pgOf_len (cur:Nat→Nat) (i:Nat):(pgOf cur i).length = 48:=by simp [pgOf]
theorem pgOf_getD (cur:Nat→Nat) (i r:Nat) (h:r < 48):(pgOf cur i).getD r 0 = cur ((i - 32) * 48 + r):=by
 simp [pgOf,gd0,h]
theorem pgOf_other (cur:Nat→Nat) (i o x:Nat) (hi:32≤i) (h:i ≠ 32 + o / 48):pgOf (upd cur o x) i = pgOf cur i:=by
 unfold pgOf;refine List.map_congr_left fun r hr=>?_;have hr:=List.mem_range.1 hr;unfold upd;rw [if_neg];intro e;have:o / 48 = i - 32:=by omega
 omega
theorem pgOf_same (cur:Nat→Nat) (i o x:Nat) (h:i = 32 + o / 48):pgOf (upd cur o x) i = (pgOf cur i).set (o % 48) x:=by
 have hdm:=Nat.div_add_mod o 48;have hml:=Nat.mod_lt o (show 48 > 0 by omega)
 apply List.ext_getElem (by simp [pgOf])
 intro r h1 h2;have hr:r < 48:=by simpa [pgOf] using h1
 rw [List.getElem_set];simp only [pgOf,List.getElem_map,List.getElem_range,upd];by_cases e:o % 48 = r
 ·rw [if_pos e,if_pos (by omega)]
 ·rw [if_neg e,if_neg (by omega)]
theorem put1_zero (cur:Nat→Nat) (c:Ch):put1 cur (c.1,c.2.take 0) = cur:=by
 funext o
 unfold put1;rw [if_neg (by rintro ⟨h1,h2⟩;simp at h2;omega)]
theorem put1_succ (cur:Nat→Nat) (c:Ch) (k:Nat) (h:k < c.2.length):put1 cur (c.1,c.2.take (k + 1)) = upd (put1 cur (c.1,c.2.take k)) (c.1 + k) (c.2.getD k 0):=by
 funext o
 unfold put1 upd;have l1:(c.2.take (k + 1)).length = k + 1:=by simp;omega
 have l2:(c.2.take k).length = k:=by simp;omega
 simp only [l1,l2];by_cases e:o = c.1 + k
 ·subst e;rw [if_pos ⟨by omega,by omega⟩,if_pos rfl,show c.1 + k - c.1 = k by omega];simp [gd0]
 ·rw [if_neg e];by_cases e2:c.1≤o∧o < c.1 + k
  ·rw [if_pos ⟨e2.1,by omega⟩,if_pos e2];simp only [gd0,List.getElem?_take];rw [if_pos (by omega),if_pos (by omega)]
  ·rw [if_neg (by omega),if_neg e2]
theorem puts_take (J:Nat→Nat) (l:List Ch) (k:Nat) (h:k < l.length):puts J (l.take (k + 1)) = put1 (puts J (l.take k)) l[k]:=by
 rw [List.take_succ_eq_append_getElem h,puts_snoc]
structure Ent where
 i:Nat
 g:Nat
 cap:Nat
def Ent.v (e:Ent):Value:=.slice (some ⟨e.g,0,none⟩) 48 e.cap
structure EntOk (w:World) (B C:Nat) (cur:Nat→Nat) (e:Ent):Prop where
 blk:∃ cs,Blk w e.g cs 5∧cs.length = e.cap∧cs.take 48 = u8s (pgOf cur e.i)
 c48:48≤e.cap
 cm:e.cap≤maxLen
 lo:32≤e.i
 hi:e.i < C
 base:B≤e.g
theorem EntOk.sl {w:World} {B C:Nat} {cur:Nat→Nat} {e:Ent} (h:EntOk w B C cur e):Sl w e.v 5 1 48 (u8s (pgOf cur e.i)):=by
 obtain ⟨cs,h1,h2,h3⟩:=h.blk;refine ⟨by rw [u8s_len,pgOf_len],.inr ⟨e.g,0,e.cap,cs,rfl,h1,h.c48,h.cm,by omega,?_⟩⟩;rw [List.drop_zero,Nat.mul_one];exact h3
theorem EntOk.mod {w w':World} {B C:Nat} {cur:Nat→Nat} {e:Ent} {S:Nat→Prop} (h:EntOk w B C cur e) (hm:Mod S w w') (hS:¬ S e.g):EntOk w' B C cur e :=
 { h with blk:=h.blk.imp fun _ ⟨h1,h2⟩=>⟨h1.mod hm hS,h2⟩ }
structure ChSt (w:World) (B C bm:Nat) (pc:PC) (cur:Nat→Nat) (es:List Ent):Prop where
 ndi:(es.map (·.i)).Nodup
 ndg:(es.map (·.g)).Nodup
 ok:∀ e ∈ es,EntOk w B C cur e
 rest:∀ o,(∀ e ∈ es,e.i ≠ 32 + o / 48)→cur o = jb pc o
 map:IMap w bm es.length (fun k=>(es.find? (·.i == k)).map Ent.v)
 bytes:∀ o,o < (C - 32) * 48→cur o < 256
section
variable {w w' : World} {B C bm : Nat} {pc : PC} {cur : Nat → Nat} {es : List Ent} {S : Nat → Prop}
theorem ChSt.mod (h:ChSt w B C bm pc cur es) (hm:Mod S w w') (h1:∀ e ∈ es,¬ S e.g) (h2:¬ S bm):ChSt w' B C bm pc cur es :=
 { h with ok:=fun e he=>(h.ok e he).mod hm (h1 e he),map:=h.map.mod hm h2 }
theorem ChSt.find (h:ChSt w B C bm pc cur es) {e:Ent} (he:e ∈ es):es.find? (·.i == e.i) = some e:=by
 have hn:=h.ndi;clear h
 induction es with
 | nil=>cases he
 | cons x es ih =>
  obtain ⟨h1,h2⟩:=List.nodup_cons.1 hn;rw [List.find?_cons];rcases List.mem_cons.1 he with rfl | he'
  ·simp
  ·have:(x.i == e.i) = false:=by
    have:x.i ≠ e.i:=fun q=>h1 (List.mem_map.2 ⟨e,he',q.symm⟩);simpa using this
   rw [this];exact ih he' h2
theorem ChSt.nofind (h:ChSt w B C bm pc cur es) {k:Nat} (hk:∀ e ∈ es,e.i ≠ k):es.find? (·.i == k) = none:=by
 rw [List.find?_eq_none];intro e he;simpa using hk e he
theorem ChSt.start (w:World) (B C:Nat) (pc:PC) (hb:∀ o,o < (C - 32) * 48→jb pc o < 256):ChSt (w.alloc (.map #[] 0)) B C w.heap.size pc (jb pc) [] :=
 ⟨List.nodup_nil,List.nodup_nil,(fun e he=>(List.not_mem_nil he).elim),fun _ _=>rfl,IMap.made w,hb⟩
theorem ChSt.byte (h:ChSt w B C bm pc cur es) {e:Ent} (he:e ∈ es) {o x:Nat} (hi:e.i = 32 + o / 48) (hx:x < 256):ChSt (w.setCell ⟨e.g,o % 48,none⟩ (.int .u8 (x:Int))) B C bm pc (upd cur o x) es:=by
 have hne:∀ e' ∈ es,e'.g = e.g→e' = e:=by
  intro e' he' hg;exact nodup_inj h.ndg he' he hg
 have hm:Mod (fun k=>k = e.g) w (w.setCell ⟨e.g,o % 48,none⟩ (.int .u8 (x:Int))):=Mod.setCell (S:=fun k=>k = e.g) (Mod.refl _ w) (p:=⟨e.g,o % 48,none⟩) (fun _=>rfl) _
 have hmb:¬ bm = e.g:=by
  intro q;obtain ⟨cs,hb,_⟩:=(h.ok e he).blk;obtain ⟨D,⟨es',cl,h1,_⟩,_⟩:=h.map.ex;rw [q] at h1;unfold Blk at hb;rw [hb] at h1
  cases h1
 refine ⟨h.ndi,h.ndg,fun e' he'=>?_,fun o' ho'=>?_,h.map.mod hm hmb,fun o' ho''=>?_⟩
 ·by_cases q:e'.g = e.g
  ·have:=hne e' he' q;subst this;have hk:=h.ok e' he';obtain ⟨cs,h1,h2,h3⟩:=hk.blk;refine { hk with blk:=⟨_,h1.setCell (o % 48) _,by simp [h2],?_⟩ };rw [List.take_set,h3,pgOf_same cur _ o x hi];simp [u8s,List.map_set]
  ·have hk:=h.ok e' he';obtain ⟨cs,h1,h2,h3⟩:=hk.blk
   have hii:e'.i ≠ 32 + o / 48:=by
    intro q2;have f1:=h.find he;have f2:=h.find he';rw [q2,← hi,f1] at f2
    cases f2
    exact q rfl
   exact { hk with blk:=⟨cs,h1.mod hm q,h2,by rw [pgOf_other cur _ o x hk.lo hii];exact h3⟩ }
 ·have:o' ≠ o:=fun q=>ho' e he (by rw [q];exact hi);unfold upd;rw [if_neg this];exact h.rest o' ho'
 ·unfold upd
  split
  ·exact hx
  ·exact h.bytes o' ho''
theorem ChSt.add (h:ChSt w B C bm pc cur es) {e:Ent} (hnew:∀ e' ∈ es,e'.i ≠ e.i) (hg:∀ e' ∈ es,e'.g ≠ e.g) (hok:∀ e' ∈ es ++ [e],EntOk w' B C cur e') (hmap:IMap w' bm (es.length + 1) (fun j=>if j = e.i then some e.v else (es.find? (·.i == j)).map Ent.v)):ChSt w' B C bm pc cur (es ++ [e]):=by
 refine ⟨?_,?_,hok,fun o ho=>h.rest o (fun e' he'=>ho e' (List.mem_append_left _ he')),?_,h.bytes⟩
 ·rw [List.map_append]
  exact List.nodup_append.2 ⟨h.ndi,by simp,fun a ha b hb=>by
   obtain ⟨e',he',rfl⟩:=List.mem_map.1 ha;have:b = e.i:=by simpa using hb
   rw [this];exact hnew e' he'⟩
 ·rw [List.map_append]
  exact List.nodup_append.2 ⟨h.ndg,by simp,fun a ha b hb=>by
   obtain ⟨e',he',rfl⟩:=List.mem_map.1 ha;have:b = e.g:=by simpa using hb
   rw [this];exact hg e' he'⟩
 ·rw [List.length_append];refine hmap.congr fun j=>?_;rw [List.find?_append];by_cases q:j = e.i
  ·rw [if_pos q,q,h.nofind hnew];simp
  ·rw [if_neg q]
   have:[e].find? (·.i == j) = none:=by
    have:¬ e.i = j:=fun x=>q x.symm;simp [this]
   rw [this]
   cases es.find? (·.i == j) <;> rfl
end
end Go.Proofs.YtanioleniadhoaaGreat
/-
 The iterator `changed`: it reads the pages that changes concern, sets their bytes, and yields them.
-/
namespace Go.Proofs.YtanioleniadhoaaGreat
open Go.RowKit Go.Shelf
open Jn
attribute [local go_sem] Oper.semAt_some
def wrPc (pc:PC) (cur:Nat→Nat) (es:List Ent):PC:=es.foldl (fun pc e=>setPage pc e.i (pgOf cur e.i)) pc
theorem wrPc_snoc (pc:PC) (cur:Nat→Nat) (es:List Ent) (e:Ent):wrPc pc cur (es ++ [e]) = setPage (wrPc pc cur es) e.i (pgOf cur e.i):=by simp [wrPc,List.foldl_append]
theorem jb_page (pc:PC) (cur:Nat→Nat) (e:Ent) (he:32≤e.i) (o:Nat):jb (setPage pc e.i (pgOf cur e.i)) o = if 32 + o / 48 = e.i then cur o else jb pc o:=by
 rw [jb_set]
 split
 ·rename_i hi
  have hdm:=Nat.div_add_mod o 48;rw [pgOf_getD _ _ _ (Nat.mod_lt _ (by omega))]
  congr 1;omega
 ·rfl
theorem wrPc_due {C:Nat} {J cur:Nat→Nat} {l:List Ch}:∀ (es:List Ent) (pc:PC),Due C pc J l→(∀ o,puts (jb pc) l o = cur o)→(∀ e ∈ es,32≤e.i)→Due C (wrPc pc cur es) J l∧∀ o,puts (jb (wrPc pc cur es)) l o = cur o
 | [],pc,h,hp,_=>⟨h,hp⟩
 | e :: es,pc,h,hp,hl=>by
  have he:=hl e (List.mem_cons_self ..);refine wrPc_due es _ (h.page he (fun r hr=>?_)) (fun o=>?_) (fun e' he'=>hl e' (List.mem_cons_of_mem _ he'))
  ·rw [pgOf_getD _ _ _ hr,hp]
  ·rw [← hp o];refine puts_idem ?_;rw [jb_page _ _ _ he]
   split
   ·exact .inr (hp o).symm
   ·exact .inl rfl
theorem wrPc_all {cur:Nat→Nat}:∀ (es:List Ent) (pc:PC),(∀ e ∈ es,32≤e.i)→∀ o,(jb pc o = cur o ∨ ∃ e ∈ es,e.i = 32 + o / 48)→jb (wrPc pc cur es) o = cur o
 | [],pc,_,o,h=>by
  rcases h with h | ⟨e,he,_⟩
  ·exact h
  ·cases he
 | e :: es,pc,hl,o,h=>by
  have he:=hl e (List.mem_cons_self ..);refine wrPc_all es _ (fun e' he'=>hl e' (List.mem_cons_of_mem _ he')) o ?_;rw [jb_page _ _ _ he];by_cases q:32 + o / 48 = e.i
  ·rw [if_pos q];exact .inl rfl
  ·rw [if_neg q];rcases h with h | ⟨e',he',hi⟩
   ·exact .inl h
   ·rcases List.mem_cons.1 he' with rfl | he'
    ·exact (q hi.symm).elim
    ·exact .inr ⟨e',he',hi⟩
theorem wrPc_still {C:Nat} {pc:PC} {J:Nat→Nat} {l:List Ch} {es:List Ent} (h:Due C pc J l) (hl:∀ e ∈ es,32≤e.i) (hr:∀ o,(∀ e ∈ es,e.i ≠ 32 + o / 48)→puts (jb pc) l o = jb pc o):Still C (setPage (wrPc pc (puts (jb pc) l) es) 0 (headPage 0)) J:=by
 obtain ⟨h1,h2⟩:=wrPc_due es pc h (fun _=>rfl) hl;refine h1.done (fun o _=>?_);rw [h2 o];refine wrPc_all es pc hl o ?_;by_cases q:∃ e ∈ es,e.i = 32 + o / 48
 ·exact .inr q
 ·exact .inl (hr o (fun e he e2=>q ⟨e,he,e2⟩)).symm
structure ChY (w0 W:World) (jb_ eb:Nat) (M:MemAt) (m:Mem) (P:PAt) (p:PSt) (C B bm:Nat) (pc:PC) (cur:Nat→Nat) (es:List Ent) (k:Nat):Prop where
 st:∃ m1 P1 p1 j,Jr W jb_ M m1 P1 p1 (wrPc pc cur (es.take k))∧P1.pb = P.pb∧P1.ab = P.ab∧P1.hb = P.hb∧p1.count = p.count∧p1.frames = p.frames∧p1.cuts = p.cuts∧j≤42 * k∧Runs m m1 j
 ok:∀ e ∈ es,EntOk W B C cur e
 bz:Blk W eb [.int .i64 0] 27
 md:Mod (fun k=>k = eb ∨ P.S k ∨ M.S k) w0 W
structure ChIt (W:World) (jb_ eb b1 b2 b3:Nat) (M:MemAt) (m:Mem) (P:PAt) (p:PSt) (pc:PC) (vx:Value) (xs:List Cx):Prop where
 jr:Jr W jb_ M m P p pc
 ch:ChSl W vx xs
 x1:Blk W b1 [vx] 293
 x2:Blk W b2 [ptr jb_] 158
 x3:Blk W b3 [.pointer (some ⟨eb,0,none⟩)] 329
 bz:Blk W eb [.int .i64 0] 27
 n1:¬ (b1 = eb ∨ P.S b1 ∨ M.S b1)
 n2:¬ (b2 = eb ∨ P.S b2 ∨ M.S b2)
 n3:¬ (b3 = eb ∨ P.S b3 ∨ M.S b3)
 nj:¬ (jb_ = eb ∨ P.S jb_ ∨ M.S jb_)
 ne:¬ (P.S eb ∨ M.S eb)
 nf:Off (fun k=>k = eb) P.fv
 ov:Off (fun k=>k = eb ∨ P.S k ∨ M.S k) vx
 od:∀ x ∈ xs,Off (fun k=>k = eb ∨ P.S k ∨ M.S k) x.1
 fit:∀ x ∈ xs,ChOk ((p.count - 32) * 48) x.2
theorem ChIt.mod {W W':World} {jb_ eb b1 b2 b3:Nat} {M:MemAt} {m:Mem} {P:PAt} {p:PSt} {pc:PC} {vx:Value} {xs:List Cx} (h:ChIt W jb_ eb b1 b2 b3 M m P p pc vx xs) (hj:Jr W' jb_ M m P p pc) (hz:Blk W' eb [.int .i64 0] 27)
  (hm:Mod (fun k=>(k = eb ∨ P.S k ∨ M.S k) ∨ W.heap.size≤k) W W'):ChIt W' jb_ eb b1 b2 b3 M m P p pc vx xs :=
 have fr:∀ {b cs T},Blk W b cs T→¬ (b = eb ∨ P.S b ∨ M.S b)→Blk W' b cs T:=fun hb hn=>hb.mod hm (fun e=>e.elim hn (fun e=>by have:=hb.lt;omega))
 { h with
   jr:=hj
   ch:=h.ch.mod hm (fun k hk e=>e.elim (h.ov k hk) (fun e=>by have:=h.ch.sl.lt k hk;omega)) (fun x hx k hk e=>e.elim (h.od x hx k hk) (fun e=>by have:=(h.ch.data x hx).lt k hk;omega))
   x1:=fr h.x1 h.n1
   x2:=fr h.x2 h.n2
   x3:=fr h.x3 h.n3
   bz:=hz }
end Go.Proofs.YtanioleniadhoaaGreat
/-
 The iterator `changed` while it reads: what stands, step by step.
-/
namespace Go.Proofs.YtanioleniadhoaaGreat
open Go.RowKit
open Jn
structure ChR (W1 w:World) (jb_ eb b1 b2 b3:Nat) (M:MemAt) (m:Mem) (P:PAt) (p:PSt) (pc:PC) (vx:Value) (xs:List Cx) (cur:Nat→Nat) (es:List Ent) (ord:Value):Prop where
 old:ChIt W1 jb_ eb b1 b2 b3 M m P p pc vx xs
 it:ChIt w jb_ eb b1 b2 b3 M m P p pc vx xs
 st:ChSt w W1.heap.size p.count W1.heap.size pc cur es
 own:w.ownsRow W1.heap.size 3 1 ord es.length (es.map fun e=>.int .i64 e.i)
 on:∀ k,ord.ownBlock = some k→k ≠ W1.heap.size∧∀ e ∈ es,e.g ≠ k
 eg:∀ e ∈ es,e.g ≠ W1.heap.size
 md:Mod (fun k=>k = eb ∨ P.S k ∨ M.S k) W1 w
structure ChN (W1 w:World) (jb_ eb b1 b2 b3:Nat) (M:MemAt) (m:Mem) (P:PAt) (p:PSt) (pc:PC) (vx:Value) (xs:List Cx) (cur:Nat→Nat) (es:List Ent) (ord:Value) (e:Ent):Prop where
 r:ChR W1 w jb_ eb b1 b2 b3 M m P p pc vx xs cur es ord
 ok:EntOk w W1.heap.size p.count cur e
 new:∀ e' ∈ es,e'.i ≠ e.i
 ng:∀ e' ∈ es,e'.g ≠ e.g
 nb:e.g ≠ W1.heap.size
 no:∀ k,ord.ownBlock = some k→k ≠ e.g
section
variable {W1 w w' : World} {jb_ eb b1 b2 b3 : Nat} {M : MemAt} {m : Mem} {P : PAt} {p : PSt} {pc : PC} {vx : Value} {xs : List Cx} {cur : Nat → Nat} {es : List Ent} {ord : Value} {e : Ent}
theorem ChIt.above (h:ChIt w jb_ eb b1 b2 b3 M m P p pc vx xs) (h0:ChIt W1 jb_ eb b1 b2 b3 M m P p pc vx xs) (hm:Mod (Above W1.heap.size) w w'):ChIt w' jb_ eb b1 b2 b3 M m P p pc vx xs :=
 have fr:∀ {b cs T},Blk W1 b cs T→Blk w b cs T→Blk w' b cs T:=fun h0 hb=>hb.mod hm (fun e=>by have:=h0.lt;have e:W1.heap.size≤_:=e;omega)
 { h with
   jr:=h.jr.keep hm (fun k hk e=>by have:=h0.jr.lt k hk;have e:W1.heap.size≤k:=e;omega) (fun k hk e=>by have:=h0.jr.pg.rep.bf.lt k hk;have e:W1.heap.size≤k:=e;omega)
   ch:=h.ch.mod hm (fun k hk e=>by have:=h0.ch.sl.lt k hk;have e:W1.heap.size≤k:=e;omega) (fun x hx k hk e=>by have:=(h0.ch.data x hx).lt k hk;have e:W1.heap.size≤k:=e;omega)
   x1:=fr h0.x1 h.x1
   x2:=fr h0.x2 h.x2
   x3:=fr h0.x3 h.x3
   bz:=fr h0.bz h.bz }
theorem EntOk.lt {B C:Nat} (h:EntOk w B C cur e):e.g < w.heap.size:=h.blk.elim fun _ h=>h.1.lt
theorem ChR.keep (h:ChR W1 w jb_ eb b1 b2 b3 M m P p pc vx xs cur es ord) (hm:Mod Nowhere w w'):ChR W1 w' jb_ eb b1 b2 b3 M m P p pc vx xs cur es ord :=
 { h with
   it:=h.it.above h.old (hm.mono fun _ _ h=>h.elim)
   st:=h.st.mod hm (fun _ _=>id) id
   own:=owns_mod h.own hm (fun _ _=>id)
   md:=h.md.trans (hm.mono fun _ _ h=>h.elim) }
theorem ChN.keep (h:ChN W1 w jb_ eb b1 b2 b3 M m P p pc vx xs cur es ord e) (hm:Mod Nowhere w w'):ChN W1 w' jb_ eb b1 b2 b3 M m P p pc vx xs cur es ord e :=
 { h with r:=h.r.keep hm,ok:=h.ok.mod hm id }
theorem owns_mod' {S:Nat→Prop} {base:Nat} {t:TypeId} {size:Nat} {v:Value} {n:Nat} {ys:List Value} (h:w.ownsRow base t size v n ys) (m:Mod S w w') (hs:∀ k,v.ownBlock = some k→¬ S k):w'.ownsRow base t size v n ys:=by
 obtain ⟨h1,h2⟩:=h;refine ⟨h1,?_⟩;rcases h2 with h2 | ⟨g,cap,cur,hv,hg,hh,r⟩
 ·exact .inl h2
 ·exact .inr ⟨g,cap,cur,hv,hg,by rw [m.block g (Array.getElem?_eq_some_iff.1 hh).1 (hs g (by rw [hv];rfl))];exact hh,r⟩
theorem ChR.byte (h:ChR W1 w jb_ eb b1 b2 b3 M m P p pc vx xs cur es ord) (he:e ∈ es) {o x:Nat} (hi:e.i = 32 + o / 48) (hx:x < 256):ChR W1 (w.setCell ⟨e.g,o % 48,none⟩ (.int .u8 (x:Int))) jb_ eb b1 b2 b3 M m P p pc vx xs (upd cur o x) es ord:=by
 have hm:Mod (fun k=>k = e.g) w (w.setCell ⟨e.g,o % 48,none⟩ (.int .u8 (x:Int))):=Mod.setCell (S:=fun k=>k = e.g) (Mod.refl _ w) (p:=⟨e.g,o % 48,none⟩) (fun _=>rfl) _;have hb:=(h.st.ok e he).base
 exact { h with
  it:=h.it.above h.old (hm.mono fun k _ q=>by show W1.heap.size≤k;omega)
  st:=h.st.byte he hi hx
  own:=owns_mod' h.own hm (fun k hk q=>(h.on k hk).2 e he q.symm)
  md:=h.md.step hm (fun k hk q=>by omega) }
theorem pgOf_rest (h:ChSt w W1.heap.size p.count W1.heap.size pc cur es) {i:Nat} (hi:32≤i) (hn:∀ e' ∈ es,e'.i ≠ i) (hl:(pc i).length = 48):pgOf cur i = pc i:=by
 apply List.ext_getElem (by rw [pgOf_len,hl])
 intro r h1 h2;have hr:r < 48:=by rw [pgOf_len] at h1;exact h1
 have e1:((i - 32) * 48 + r) / 48 = i - 32:=by omega
 have e2:((i - 32) * 48 + r) % 48 = r:=by omega
 have e3:(pgOf cur i)[r] = (pgOf cur i).getD r 0:=by rw [gd0,List.getElem?_eq_getElem h1];rfl
 have e4:(pc i)[r] = (pc i).getD r 0:=by rw [gd0,List.getElem?_eq_getElem h2];rfl
 refine e3.trans (Eq.trans ?_ e4.symm);rw [pgOf_getD _ _ _ hr,h.rest _ (fun e' he' q=>hn e' he' (by rw [q,e1];omega))];unfold jb;rw [e1,e2,show 32 + (i - 32) = i by omega]
theorem ChR.read (h:ChR W1 w jb_ eb b1 b2 b3 M m P p pc vx xs cur es ord) {i:Nat} (h32:32≤i) (hi:i < p.count) (hn:∀ e' ∈ es,e'.i ≠ i) {v:Value} (hown:w'.ownsRow w.heap.size 5 1 v 48 (u8s (pc i))) (hg:Pg w' M m P p pc) (hm:Mod (Only P.pb) w w') :
  ∃ g cap,v = .slice (some ⟨g,0,none⟩) 48 cap∧w.heap.size≤g∧ChN W1 w' jb_ eb b1 b2 b3 M m P p pc vx xs cur es ord ⟨i,g,cap⟩:=by
 obtain ⟨g,cap,cs,rfl,hb,hB,hcap,hcm,hcl,hct⟩:=owns_open hown (by omega);have hsz:=h.md.size;have hpl:P.pb < W1.heap.size:=h.old.jr.lt _ (.inr (.inl (.inl rfl)));have hfr:∀ {b cs T},Blk w b cs T→¬ (b = eb ∨ P.S b ∨ M.S b)→Blk w' b cs T:=fun hb hn=>hb.mod hm (fun q=>hn (.inr (.inl (.inl q))))
 have hpe:∀ e' ∈ es,¬ Only P.pb e'.g:=fun e' he' q=>by
  have:=(h.st.ok e' he').base;have q:e'.g = P.pb:=q;omega
 refine ⟨g,cap,rfl,hb,⟨{ h with it:=?_,st:=h.st.mod hm hpe (fun q=>by have q:W1.heap.size = P.pb:=q;omega),own:=owns_mod h.own hm (fun k hk q=>by have q:k = P.pb:=q;omega),md:=h.md.trans (hm.mono fun k _ q=>.inr (.inl (.inl q))) },⟨⟨cs,hB,by show cs.length = cap;omega,?_⟩,hcap,hcm,h32,hi,by show W1.heap.size≤g;omega⟩,hn,fun e' he' q=>?_,?_,fun k hk q=>?_⟩⟩
 ·exact { h.it with
   jr:=h.it.jr.only hg hm
   ch:=h.it.ch.mod hm (fun k hk q=>h.it.ov k hk (.inr (.inl (.inl q)))) (fun x hx k hk q=>h.it.od x hx k hk (.inr (.inl (.inl q))))
   x1:=hfr h.it.x1 h.it.n1
   x2:=hfr h.it.x2 h.it.n2
   x3:=hfr h.it.x3 h.it.n3
   bz:=h.it.bz.mod hm (fun q=>h.it.ne (.inl (.inl q))) }
 ·rw [pgOf_rest h.st h32 hn (pc_len h.it.jr.pg i hi)];have:48 * 1 = 48:=rfl;rw [← hct]
 ·have:=(h.st.ok e' he').lt;have q:e'.g = g:=q;omega
 ·have:=h.st.map.lt
  show g ≠ _
  omega
 ·have:=(h.own.lt k hk).2;have q:k = g:=q;omega
theorem ChN.errno (h:ChN W1 w jb_ eb b1 b2 b3 M m P p pc vx xs cur es ord e):ChN W1 (w.setCell ⟨eb,0,none⟩ (.int .i64 0)) jb_ eb b1 b2 b3 M m P p pc vx xs cur es ord e:=by
 have hm:Mod (fun k=>k = eb) w (w.setCell ⟨eb,0,none⟩ (.int .i64 0)):=Mod.setCell (S:=fun k=>k = eb) (Mod.refl _ w) (p:=⟨eb,0,none⟩) (fun _=>rfl) _;have hel:=h.r.old.bz.lt;have hr:=h.r;have hfr:∀ {b cs T},Blk w b cs T→¬ (b = eb ∨ P.S b ∨ M.S b)→Blk (w.setCell ⟨eb,0,none⟩ (.int .i64 0)) b cs T:=fun hb hn=>hb.mod hm (fun q=>hn (.inl q));refine { h with r:={ hr with it:=?_,st:=hr.st.mod hm (fun e' he' q=>by have:=(hr.st.ok e' he').base;omega) (by omega),own:=owns_mod hr.own hm (fun k hk q=>by omega),md:=hr.md.trans (hm.mono fun k _ q=>.inl q) },ok:=h.ok.mod hm (fun q=>by have:=h.ok.base;omega) }
 exact { hr.it with
  jr:=hr.it.jr.keep hm (fun k hk q=>by
   subst q;rcases hk with q | q
   ·exact hr.it.nj (.inl q.symm)
   ·exact hr.it.ne q) hr.it.nf
  ch:=hr.it.ch.mod hm (fun k hk q=>hr.it.ov k hk (.inl q)) (fun x hx k hk q=>hr.it.od x hx k hk (.inl q))
  x1:=hfr hr.it.x1 hr.it.n1
  x2:=hfr hr.it.x2 hr.it.n2
  x3:=hfr hr.it.x3 hr.it.n3
  bz:=(hr.it.bz.setCell 0 (.int .i64 0)).conv rfl }
theorem ChN.appMod (h:ChN W1 w jb_ eb b1 b2 b3 M m P p pc vx xs cur es ord e) (hg:w.grownBy w' ord.ownBlock):Mod (fun k=>ord.ownBlock = some k) w w' :=
 (Mod.refl _ w).grown hg (fun k hk _=>hk)
theorem ChN.app_map (h:ChN W1 w jb_ eb b1 b2 b3 M m P p pc vx xs cur es ord e) (hg:w.grownBy w' ord.ownBlock):IMap w' W1.heap.size es.length (fun k=>(es.find? (·.i == k)).map Ent.v) :=
 h.r.st.map.mod (h.appMod hg) (fun q=>(h.r.on _ q).1 rfl)
theorem ChN.done (h:ChN W1 w jb_ eb b1 b2 b3 M m P p pc vx xs cur es ord e) {w2 w3:World} {g cap:Nat} (ho:w2.ownsRow W1.heap.size 3 1 (.slice (some ⟨g,0,none⟩) (es.length + 1) cap) (es.length + 1) ((es.map fun e=>Value.int .i64 e.i) ++ [.int .i64 e.i]))
  (hg:w.grownBy w2 ord.ownBlock) (hat:ord.ownBlock = some g ∨ g = w.heap.size) (hmap:IMap w3 W1.heap.size (es.length + 1) (fun j=>if j = e.i then some e.v else (es.find? (·.i == j)).map Ent.v)) (hm3:Mod (fun j=>j = W1.heap.size) w2 w3) :
  ChR W1 w3 jb_ eb b1 b2 b3 M m P p pc vx xs cur (es ++ [e]) (.slice (some ⟨g,0,none⟩) (es.length + 1) cap):=by
 have hm2:=h.appMod hg;have hr:=h.r;have hab:Mod (Above W1.heap.size) w w3:=((hm2.mono fun k _ q=>((hr.own.lt k q).1:W1.heap.size≤k)).trans (hm3.mono fun k _ q=>by show W1.heap.size≤k;omega))
 have hgm:g ≠ W1.heap.size:=by
  rcases hat with q | q
  ·exact (hr.on g q).1
  ·have:=hr.st.map.lt;omega
 have hge:∀ e' ∈ es ++ [e],e'.g ≠ g:=by
  intro e' he' q;rcases hat with q2 | q2
  ·rcases List.mem_append.1 he' with q3 | q3
   ·exact (hr.on g q2).2 e' q3 q
   ·have:e' = e:=by simpa using q3
    subst this;exact h.no g q2 q.symm
  ·rcases List.mem_append.1 he' with q3 | q3
   ·have:=(hr.st.ok e' q3).lt;omega
   ·have:e' = e:=by simpa using q3
    subst this;have:=h.ok.lt;omega
 have hek:∀ e':Ent,EntOk w W1.heap.size p.count cur e'→(∀ k,ord.ownBlock = some k→e'.g ≠ k)→e'.g ≠ W1.heap.size→EntOk w3 W1.heap.size p.count cur e':=fun e' hk h1 h2 =>
  (hk.mod hm2 (fun q=>h1 _ q rfl)).mod hm3 h2
 have hst:ChSt w3 W1.heap.size p.count W1.heap.size pc cur (es ++ [e]):=by
  refine hr.st.add h.new h.ng (fun e' he'=>?_) hmap;rcases List.mem_append.1 he' with q3 | q3
  ·exact hek e' (hr.st.ok e' q3) (fun k hk q=>(hr.on k hk).2 e' q3 q) (hr.eg e' q3)
  ·have:e' = e:=by simpa using q3
   subst this;exact hek e' h.ok (fun k hk q=>h.no k hk q.symm) h.nb
 refine ⟨hr.old,hr.it.above hr.old hab,hst,?_,fun k hk=>?_,fun e' he'=>?_,?_⟩
 ·rw [List.length_append,List.map_append]
  exact owns_mod' ho hm3 (fun k hk q=>by
   have:g = k:=by simpa [Value.ownBlock] using hk
   omega)
 ·have:g = k:=by simpa [Value.ownBlock] using hk
  subst this;exact ⟨hgm,hge⟩
 ·rcases List.mem_append.1 he' with q3 | q3
  ·exact hr.eg e' q3
  ·have:e' = e:=by simpa using q3
   subst this;exact h.nb
 ·exact hr.md.step hab (fun k hk q=>by have q:W1.heap.size≤k:=q;omega)
structure ChB (W1 w:World) (bx:Nat) (cs:List Value) (es:List Ent) (ord:Value):Prop where
 blk:Blk w bx cs 292
 new:W1.heap.size < bx
 e:∀ e ∈ es,e.g ≠ bx
 o:∀ k,ord.ownBlock = some k→k ≠ bx
section
variable {bx : Nat} {cs : List Value}
theorem ChB.start (h:ChR W1 w jb_ eb b1 b2 b3 M m P p pc vx xs cur es ord) (cs:List Value):ChB W1 (w.alloc (.cells cs.toArray 292)) w.heap.size cs es ord :=
 ⟨Blk.new w cs _,h.st.map.lt,fun e he=>Nat.ne_of_lt (h.st.ok e he).lt,fun k hk=>Nat.ne_of_lt (h.own.lt k hk).2⟩
theorem ChB.keep (h:ChB W1 w bx cs es ord) (hm:Mod Nowhere w w'):ChB W1 w' bx cs es ord:={ h with blk:=h.blk.mod hm id }
theorem ChB.byte (h:ChB W1 w bx cs es ord) (he:e ∈ es) (r:Nat) (v:Value):ChB W1 (w.setCell ⟨e.g,r,none⟩ v) bx cs es ord:={ h with blk:=h.blk.setCell_other (fun q=>h.e e he q.symm) _ }
theorem ChB.read (h:ChB W1 w bx cs es ord) (h0:ChIt W1 jb_ eb b1 b2 b3 M m P p pc vx xs) (hm:Mod (Only P.pb) w w'):ChB W1 w' bx cs es ord :=
 { h with blk := h.blk.mod hm (fun q => by
     have:=h0.jr.lt _ (.inr (.inl (.inl rfl)));have:=h.new;have q:bx = P.pb:=q
     omega) }
theorem ChB.errno (h:ChB W1 w bx cs es ord) (h0:ChIt W1 jb_ eb b1 b2 b3 M m P p pc vx xs) (v:Value):ChB W1 (w.setCell ⟨eb,0,none⟩ v) bx cs es ord :=
 { h with blk:=h.blk.setCell_other (by have:=h0.bz.lt;have:=h.new;show bx ≠ eb;omega) _ }
theorem ChB.done (h:ChB W1 w bx cs es ord) {w2 w3:World} {g n cap:Nat} (he:e.g ≠ bx) (hg:w.grownBy w2 ord.ownBlock) (hat:ord.ownBlock = some g ∨ g = w.heap.size) (hm3:Mod (fun j=>j = W1.heap.size) w2 w3):ChB W1 w3 bx cs (es ++ [e]) (.slice (some ⟨g,0,none⟩) n cap):=by
 have hm2:Mod (fun k=>ord.ownBlock = some k) w w2:=(Mod.refl _ w).grown hg (fun k hk _=>hk);refine ⟨(h.blk.mod hm2 (fun q=>h.o _ q rfl)).mod hm3 (by have:=h.new;omega),h.new,fun e' he'=>?_,fun k hk=>?_⟩
 ·rcases List.mem_append.1 he' with q | q
  ·exact h.e e' q
  ·have:e' = e:=by simpa using q
   subst this;exact he
 ·have:g = k:=by simpa [Value.ownBlock] using hk
  subst this;rcases hat with q | q
  ·exact h.o g q
  ·have:=h.blk.lt;omega
end
end
end Go.Proofs.YtanioleniadhoaaGreat
/-
 The iterator `changed`: it reads the pages that changes concern, sets their bytes, and yields them.
-/
namespace Go.Proofs.YtanioleniadhoaaGreat
open Go.RowKit Go.Shelf
open Jn
attribute [local go_sem] Oper.semAt_some
theorem len_le_wsum (ys:List Ch):ys.length≤wsum ys:=by
 induction ys with
 | nil=>simp
 | cons y ys ih=>rw [wsum_cons,List.length_cons];omega
theorem jChanged_it {W1 w0:World} {jb_ eb b1 b2 b3 D l:Nat} {M:MemAt} {m:Mem} {P:PAt} {p:PSt} {pc:PC} {vx:Value} {xs:List Cx} (h:ChIt W1 jb_ eb b1 b2 b3 M m P p pc vx xs) (hl:wsum (chs xs)≤1488) (h16:p.count≤65536) (hmd:Mod (fun k=>k = eb ∨ P.S k ∨ M.S k) w0 W1)
  (R XX:World→Prop) (hDl:D < W1.heap.size∧l < W1.heap.size) (hne:∀ k,(k = eb ∨ P.S k ∨ M.S k)→k ≠ D∧k ≠ l) (hR:∀ (S':Nat→Prop) (W W':World),R W→Mod S' W W'→¬ S' D→¬ S' l→R W')
  (hY:∀ (es:List Ent) (k:Nat) (hk:k < es.length) (W:World),es.length≤1488→(∀ e ∈ es,EntOk W W1.heap.size p.count (puts (jb pc) (chs xs)) e)→ChY w0 W jb_ eb M m P p p.count W1.heap.size W1.heap.size pc (puts (jb pc) (chs xs)) es k→R W →
   YieldAt Fence.wide 6 Tryz.prog l #[.int .i64 es[k].i,es[k].v] W fun e W'=>(e = .returned (.bool true)∧ChY w0 W' jb_ eb M m P p p.count W1.heap.size W1.heap.size pc (puts (jb pc) (chs xs)) es (k + 1)∧Mod (fun k=>k = eb ∨ P.S k ∨ M.S k) W W'∧R W') ∨ (e = .returned (.bool false)∧XX W'))
  (hR1:R W1) :
  CallsIn Fence.wide 7 Tryz.prog 305 #[.func (.yield l) #[] #[],.pointer (some ⟨b1,0,none⟩),.pointer (some ⟨b2,0,none⟩),.pointer (some ⟨b3,0,none⟩)] W1 fun e W'=>(∃ v,e = .returned v) ∧
   (((∃ es,es.length≤1488∧ChY w0 W' jb_ eb M m P p p.count W1.heap.size W1.heap.size pc (puts (jb pc) (chs xs)) es es.length∧(∀ o,(∀ e ∈ es,e.i ≠ 32 + o / 48)→puts (jb pc) (chs xs) o = jb pc o))∧R W') ∨ XX W'):=by
 have h':Hid (ChIt W1 jb_ eb b1 b2 b3 M m P p pc vx xs):=h;obtain ⟨va,vc,rfl,hv1,hv2,_⟩:=h.ch.sl.gen;obtain ⟨i0,hi0,hz0,hz1,hz2⟩:=info_parts info_i64;have hv3:xs.length≤1488:=by have:=len_le_wsum (chs xs);simp [chs] at this hl;omega
 have hm0:Mod Nowhere W1 (W1.alloc (.map #[] 0)):=(Mod.refl _ W1).alloc _;have hx1:(W1.alloc (.map #[] 0)).cell? ⟨b1,0,none⟩ = some _:=(h.x1.mod hm0 id).cell 0;have hmm:=run_makeMap (P:=Tryz.prog) 159 W1;have hbytes:∀ o,o < (p.count - 32) * 48→jb pc o < 256:=fun o ho=>h.jr.pg.inv.h.bytes _ (by omega) _
 have hst0:ChR W1 (W1.alloc (.map #[] 0)) jb_ eb b1 b2 b3 M m P p pc (.slice va xs.length vc) xs (puts (jb pc) ((chs xs).take 0)) [] (.slice none 0 0) :=
  ⟨h,h.above h (hm0.mono fun _ _ h=>h.elim),ChSt.start W1 W1.heap.size p.count pc hbytes,World.ownsRow_nil _ _ _ _,(fun k hk=>by simp [Value.ownBlock] at hk),(fun e he=>(List.not_mem_nil he).elim),hm0.mono fun _ _ h=>h.elim⟩
 generalize (W1.alloc (.map #[] 0)) = Wm at *;clear h;refine hid8 ?_ hst0 hm0 hmd hR hY hR1 hbytes hne;clear hst0 hm0 hmd hR hY hR1 hbytes hne;intro hst0 hm0 hmd hR hY hR1 hbytes hne;refine callsIn_of_wp Tryz.func305 rfl trivial (wpIn_wide.2 ?_) rfl;simp only [Tryz.ntmps305,List.size_toArray,List.length_cons,List.length_nil,Nat.reduceAdd,Nat.reduceSub,Array.replicate_succ,Array.replicate_zero,List.push_toArray,List.append_toArray,List.nil_append,List.cons_append];go_wp2;clear hx1 hmm
 go_loopg [5,19] xs.length (fun gg ov ii wr=>∃ (k:Nat) (es:List Ent),k≤xs.length∧gg + k = xs.length∧ii = .int .i64 k∧es.length≤wsum ((chs xs).take k)∧ChR W1 wr jb_ eb b1 b2 b3 M m P p pc (.slice va xs.length vc) xs (puts (jb pc) ((chs xs).take k)) es ov)
 case atStart=>exact ⟨0,[],by omega,by omega,rfl,by simp,hst0.out⟩
 case round =>
  obtain ⟨k,es,hk,hgg,rfl,hel,hst⟩:=hrel;by_cases hlt:k < xs.length
  ·have hkc:k < (chs xs).length:=by simpa [chs] using hlt
   obtain ⟨b,off,cap',xa,xc,e0,hb,_,_,c1,c2,e3⟩:=hst.it.ch.at_ hlt
   obtain ⟨rfl,rfl⟩:va = some ⟨b,off,none⟩∧vc = cap':=by
    simp at e0;exact ⟨e0.1,e0.2⟩
   have hws:=wsum_take (chs xs) k hkc;have hle:=wsum_le (chs xs) (k + 1);have hpt:=puts_take (jb pc) (chs xs) k hkc;have he:(chs xs)[k] = xs[k].2:=by simp [chs]
   have hfit:=hst.it.fit xs[k] (List.getElem_mem hlt);have hdat:=hst.it.ch.data xs[k] (List.getElem_mem hlt);rw [he] at hws hpt;rw [e3] at c2 hdat;rw [← put1_zero (puts (jb pc) ((chs xs).take k)) xs[k].2] at hst;generalize hX:xs[k].2 = X at *;obtain ⟨o,bs⟩:=X;have hbx:=ChB.start hst [.int .i64 o,.slice xa bs.length xc];have hst2:=hst.keep (((Mod.refl Nowhere wr).alloc (.cells #[.int .i64 o,.slice xa bs.length xc] 292)));have hcb:=hbx.blk.cell 1;generalize puts (jb pc) ((chs xs).take k) = cu at *;generalize wsum ((chs xs).take k) = s at *;go_wp2;clear hb c1 c2 hst hcb hdat;refine hid4 ?_ hws hle hpt he;clear hws hle hpt he;intro hws hle hpt he
   generalize wr = w5 at *
   go_loopg [5,26] bs.length (fun gg ov ii wq=>∃ (j:Nat) (es:List Ent),j≤bs.length∧gg + j = bs.length∧ii = .int .i64 j∧es.length≤s + j∧ChR W1 wq jb_ eb b1 b2 b3 M m P p pc (.slice (some ⟨b,off,none⟩) xs.length vc) xs (put1 cu (o,bs.take j)) es ov∧ChB W1 wq w5.heap.size [.int .i64 o,.slice xa bs.length xc] es ov)
   case atStart=>exact ⟨0,es,by omega,by omega,rfl,by omega,hst2,hbx⟩
   case round =>
    obtain ⟨j,es',hj,hgg2,rfl,hel2,hq,hbq⟩:=hrel;clear hst2 hbx hel;by_cases hjl:j < bs.length
    ·have hdq:=hq.it.ch.data xs[k] (List.getElem_mem hlt);rw [e3,hX] at hdq;obtain ⟨db,dof,dcap,de,hdb,_,_,hdc,_⟩:=hdq.open (by show 0 < bs.length;omega)
     obtain ⟨rfl,rfl⟩:xa = some ⟨db,dof,none⟩∧xc = dcap:=by
      simp at de;exact ⟨de.1,de.2⟩
     have hx256:=hfit.bytes j
     have hge:(u8s bs).getD j default = .int .u8 (bs.getD j 0:Nat):=by
      simp [u8s,gd0,hjl]
     have hd:wr.cell? ⟨db,dof + j,none⟩ = some (.int .u8 (bs.getD j 0:Nat)):=(hdc j (by show j < bs.length * 1;omega)).trans (congrArg some hge);clear hdc hge de hdq;have hps:=put1_succ cu (o,bs) j hjl;have hfi:=hfit.fit;have hfi:o + bs.length≤(p.count - 32) * 48:=hfi;have hcb0:=hbq.blk.cell 0;have hd0:=hq.st.map;obtain ⟨i,hi⟩:∃ i,32 + (o + j) / 48 = i:=⟨_,rfl⟩;have hdm:=Nat.div_add_mod (o + j) 48;have hml:=Nat.mod_lt (o + j) (show 48 > 0 by omega);obtain ⟨r,hr⟩:∃ r,(o + j) % 48 = r:=⟨_,rfl⟩;have hii:(32:Int) + ((o:Int) + (j:Int)) / 48 = (i:Int):=by omega
     have hai:((o:Int) + (j:Int)) % 48 = (r:Int):=by omega
     have hiC:i < p.count:=by omega
     have hlk:=hq.st.map.look_ok (t:=159) (e:=22) Tryz.underlying159 (z:=.slice none 0 0) rfl (k:=i) (by omega);generalize bs.getD j 0 = x at *;refine hid3 ?_ hps hX hdm;clear hps hX hdm;intro hps hX hdm;by_cases hin:∃ e ∈ es',e.i = i
     ·obtain ⟨e,hee,hei⟩:=hin;have hf:=hq.st.find hee;rw [hei] at hf;rw [hf] at hlk;simp only [Option.map_some,Option.getD_some,Option.isSome_some,Ent.v] at hlk;obtain ⟨ecs,heb,hel3,_⟩:=(hq.st.ok e hee).blk;have h48:=(hq.st.ok e hee).c48;have hrl:r < ecs.length:=by omega
      have hec:wr.cell? ⟨e.g,r,none⟩ = some (ecs[r]'hrl):=(heb.cell r).trans (List.getElem?_eq_getElem _);have hef:=heb.frozen r;have hq2:=hq.byte hee (o:=o + j) (x:=x) (by omega) hx256;have hbq2:=hbq.byte hee r (.int .u8 (x:Nat));rw [hr] at hq2;refine hid5 ?_ hq2 hbq2 hi hr hf;clear hq2 hbq2 hi hr hf;intro hq2 hbq2 hi hr hf;clear heb;go_wp2
      go_roundg (bs.length - (j + 1))
      case measure=>omega
      case rel=>exact ⟨j + 1,es',by omega,by omega,by go_num,by omega,by rw [hps.out];exact hq2.out,hbq2.out⟩
     ·have hnew:∀ e' ∈ es',e'.i ≠ i:=fun e' he' q=>hin ⟨e',he',q⟩;have hf:=hq.st.nofind hnew;rw [hf] at hlk;simp only [Option.map_none,Option.getD_none,Option.isSome_none] at hlk;have hqd:=hq.keep ((Mod.refl Nowhere wr).drew);have hbqd:=hbq.keep ((Mod.refl Nowhere wr).drew);have hRd:=pRead_ok hqd.it.jr.pg hiC;have d2:=hq.it.x2.cell 0;have d3:=hq.it.x3.cell 0;have dj:=hq.it.jr.cell;have f1:=hq.it.n1;have f2:b2 ≠ eb:=fun q=>hq.it.n2 (.inl q);have f3:b3 ≠ eb:=fun q=>hq.it.n3 (.inl q);have fj:jb_ ≠ eb:=fun q=>hq.it.nj (.inl q);simp only [List.length_cons,List.length_nil,Nat.zero_add,Nat.lt_irrefl,gz0] at d2 d3;refine hid7 ?_ hqd hbqd hRd hi hr hf hnew;clear hqd hbqd hRd hi hr hf hnew;intro hqd hbqd hRd hi hr hf hnew
      go_wp2
      go_region_held3 (fun w'=>w'.cell? ⟨b2,0,none⟩ = some (ptr jb_)∧w'.cell? ⟨b3,0,none⟩ = some (.pointer (some ⟨eb,0,none⟩))∧w'.cell? ⟨jb_,0,none⟩ = some (ptr P.pb)) (simp [*,World.cell?_alloc_some,World.cell?_setCell_far,World.cell?_setCell_other])
       (first | (go_at_call 174;(with_reducible refine hRd.out.mono ?_);rintro e w1 ⟨v1,rfl,hown1,hg1,hm1⟩;obtain ⟨g,gcap,rfl,hgl,hN⟩:=hqd.out.read (by omega) hiC hnew.out hown1 hg1 hm1;have hb1:=hbqd.out.read h'.out hm1;have k2:=hN.r.it.x2.cell 0;have k3:=hN.r.it.x3.cell 0;have kj:=hN.r.it.jr.cell;have kz:=hN.r.it.bz.cell 0;have kf:=hN.r.it.bz.frozen 0;(simp only [List.length_cons,List.length_nil,Nat.zero_add,Nat.lt_irrefl,gz0] at k2 k3 kz);clear hown1 hg1 hm1;replace hN:=Lib.hid hN;replace hb1:=Lib.hid hb1))
      have hN2:=hN.out.errno;have hb2:=hb1.out.errno h'.out (.int .i64 0);have hN3:=hN2.keep ((Mod.refl Nowhere _).alloc (.cells #[.int .i64 i] 3));have hb3:=hb2.keep ((Mod.refl Nowhere _).alloc (.cells #[.int .i64 i] 3));have l2:=hN2.r.it.x3.cell 0;have l3:=hN2.r.it.bz.cell 0;have hbase:W1.heap.size≤(w1.setCell ⟨eb,0,none⟩ (.int .i64 0)).heap.size:=Nat.le_of_lt hN2.r.st.map.lt;simp only [List.length_cons,List.length_nil,Nat.zero_add,Nat.lt_irrefl,gz0] at l2 l3;generalize w1.setCell ⟨eb,0,none⟩ (.int .i64 0) = w2 at *;have hown3:=hN3.r.own;have hel4:es'.length≤1488:=by have:=hws.out;have:=hle.out;have:(o,bs).2.length = bs.length:=rfl;omega
      refine hid5 ?_ hN2 hN3 hb2 hb3 hN;clear hN2 hN3 hb2 hb3 hN;intro hN2 hN3 hb2 hb3 hN
      go_wp2_with (first
       | (at_builtin;refine wpList_append_lies _ rfl _ _ 109 rfl W1.heap.size 3 i0 (.int .i64 0) 1 8 Tryz.underlying109 hi0 hz0 hz1 hz2 rfl (by decide) _ es'.length _ (by rfl) hown3 ⟨w2.heap.size,0,none⟩ 1 1 [.int .i64 (i:Int)] rfl rfl (cells_new w2 _ _) (by simp [Value.oneCell']) (by decide) (by unfold maxLen;omega) (by omega) (by simp;omega) _ rfl ?_;intro g2 cap2 w3 hown4 hgrow4 hat4 hlt4;have hmap4:=hN3.out.app_map hgrow4;replace hown4:=Lib.hid hown4;replace hgrow4:=Lib.hid hgrow4;replace hat4:=Lib.hid hat4;clear hown3)
       | (with_reducible refine wpList_imap_put rfl (.tmp 64) (.tmp 65) (.tmp 66) 159 rfl 22 Tryz.underlying159 W1.heap.size es'.length i _ (.slice (some ⟨g,0,none⟩) 48 gcap) rfl hmap4 (by unfold maxLen;omega) rfl rfl (by omega) ?_;intro w4 hmap5 hm5;go_loud (have hbl:=hbq.blk.lt;have hq4:=hN3.out.done hown4.out hgrow4.out hat4.out hmap5 hm5;have hb4:=hb3.out.done (n:=es'.length + 1) (cap:=cap2) (e:=⟨i,g,gcap⟩) (by simp at hgl ⊢;omega) hgrow4.out hat4.out hm5;have hee:(⟨i,g,gcap⟩:Ent) ∈ es' ++ [⟨i,g,gcap⟩]:=(by simp);obtain ⟨ecs,heb,hel3,_⟩:=(hq4.st.ok _ hee).blk;have h48:=(hq4.st.ok _ hee).c48;have hec:w4.cell? ⟨g,r,none⟩ = some (ecs[r]'(by simp at hel3 h48;omega)):=(heb.cell r).trans (List.getElem?_eq_getElem _);have hef:=heb.frozen r;have hec0:=hb4.blk.cell 0;clear heb hm5 hmap5 hmap4;replace hq4:=Lib.hid hq4;replace hb4:=Lib.hid hb4;replace hee:=Lib.hid hee)))
      have hq5:=hq4.out.byte hee.out (o:=o + j) (x:=x) (by show i = _;have:=hi.out;omega) hx256;have hb5:=hb4.out.byte hee.out r (.int .u8 (x:Nat));rw [hr.out] at hq5;refine hid2 ?_ hq5 hb5;clear hq5 hb5;intro hq5 hb5
      go_roundg (bs.length - (j + 1))
      case measure=>omega
      case rel=>exact ⟨j + 1,es' ++ [⟨i,g,gcap⟩],by omega,by omega,by go_num,by simp;omega,by rw [hps.out];exact hq5.out,hb5.out⟩
    ·obtain rfl:j = bs.length:=by omega
     rw [show (o,bs.take bs.length) = (o,bs) by rw [List.take_of_length_le (Nat.le_refl _)]] at hq;replace hq:=Lib.hid hq;clear hbq;go_wp2
     go_roundg (xs.length - (k + 1))
     case measure=>omega
     case rel=>exact ⟨k + 1,es',by omega,by omega,by go_num,by rw [hws.out];show _≤s + (8 + bs.length);omega,by rw [hpt.out];exact hq.out⟩
  ·obtain rfl:k = xs.length:=by omega
   rw [List.take_of_length_le (by simp [chs])] at hst hel;obtain ⟨ob,ocap,rfl,hoc⟩:=owns_form hst.own;replace hst:=Lib.hid hst;go_wp2;refine (wpIn_wide (n:=7)).1 ?_;have hes:es.length≤1488:=by omega
   have hnS:∀ k,W1.heap.size≤k→¬ (k = eb ∨ P.S k ∨ M.S k):=fun k hk e=>by
    rcases e with e | e
    ·have:=h'.out.bz.lt;omega
    ·have:=h'.out.jr.lt k (.inr e);omega
   generalize hcu:puts (jb pc) (chs xs) = cu at *;have hR1':R wr:=hR.out _ _ _ hR1.out hst.out.md (fun e=>(hne.out _ e).1 rfl) (fun e=>(hne.out _ e).2 rfl)
   have hY0:ChY w0 wr jb_ eb M m P p p.count W1.heap.size W1.heap.size pc cu es 0 :=
    ⟨⟨m,P,p,0,hst.out.it.jr,rfl,rfl,rfl,rfl,rfl,rfl,by omega,hst.out.it.jr.runs⟩,hst.out.st.ok,hst.out.it.bz,hmd.out.trans hst.out.md⟩
   have hY':=fun k (hk:k < es.length) W he hc hr=>hY.out es k hk W hes he hc hr;generalize wr = Ws at *;refine hid3 ?_ hY' hnS hcu;clear hY' hnS hcu;intro hY' hnS hcu;clear hY
   gi_loopw [79] (fun q wr=>∃ k:Nat,k≤es.length∧q = .int .i64 k∧ChY w0 wr jb_ eb M m P p p.count W1.heap.size W1.heap.size pc cu es k∧R wr∧Mod (fun k=>k = eb ∨ P.S k ∨ M.S k) Ws wr) (fun q wr=>es.length - (intOf q).toNat)
   case atStart=>exact ⟨0,by omega,rfl,hY0,hR1',Mod.refl _ _⟩
   case round =>
    obtain ⟨k,hk,rfl,hcy,hRw,hmw⟩:=hrel;by_cases hlt:k < es.length
    ·have hee:es[k] ∈ es:=List.getElem_mem hlt;have hok:=hst.out.st.ok _ hee;have hown:=owns_mod hst.out.own hmw hnS.out;have hmap:=hst.out.st.map.mod hmw (hnS.out _ (Nat.le_refl _));have hlk:=hmap.look (t:=159) (e:=22) Tryz.underlying159 (z:=.slice none 0 0) rfl (k:=es[k].i) (by have:=hok.hi;omega);rw [hst.out.st.find hee] at hlk;simp only [Option.map_some,Option.getD_some] at hlk;obtain ⟨og,oc,ocs,oe,_,hob,hoc1,hoc2,hocl,hoct⟩:=owns_open hown (by omega)
     obtain ⟨rfl,rfl⟩:ob = some ⟨og,0,none⟩∧ocap = oc:=by
      simp at oe;exact ⟨oe.1,oe.2⟩
     have hoc':wr.cell? ⟨og,k,none⟩ = some (.int .i64 es[k].i):=by
      rw [hob.cell];have e1:ocs[k]? = (ocs.take (es.length * 1))[k]?:=by rw [List.getElem?_take,if_pos (by omega)]
      rw [e1,hoct,List.getElem?_map,List.getElem?_eq_getElem hlt]
      rfl
     obtain ⟨fn,tmps,assign,body,hy,hRR⟩:=hY'.out k hlt wr (fun e he=>hcy.ok e he) hcy hRw;clear hob hoct hown hocl oe hmap;replace hst:=Lib.hid hst;generalize es[k] = e0 at *;replace hRR:=Lib.hid hRR
     gi_wp2
     refine hRR.out.mono ?_;rintro e W3 (⟨rfl,hc3,hm3,hR3⟩ | ⟨rfl,hX3⟩)
     ·replace hc3:=Lib.hid hc3;have hm4:=hmw.trans hm3;replace hm4:=Lib.hid hm4
      gi_wp2
      go_roundw
      case rel=>exact ⟨k + 1,by omega,by go_num,hc3.out,hR3,hm4.out⟩
      case measure=>simp [intOf];omega
     ·gi_wp2
      refine bodyPost_ret (results_none rfl _ _ _) rfl ?_;exact ⟨⟨_,rfl⟩,.inr hX3⟩
    ·obtain rfl:k = es.length:=by omega
     refine hid2 ?_ hcy hmw;clear hcy hmw;intro hcy hmw
     gi_wp2
     go_end0
     exact ⟨⟨_,rfl⟩,.inl ⟨⟨es,hes,by rw [hcu.out];exact hcy.out,fun o ho=>by rw [hcu.out];exact hst.out.st.rest o ho⟩,hRw⟩⟩
end Go.Proofs.YtanioleniadhoaaGreat
/-
 What the loop over the changed pages keeps, and how its writes go.
-/
namespace Go.Proofs.YtanioleniadhoaaGreat
open Go.RowKit Go.Shelf
open Jn
attribute [local go_sem] Oper.semAt_some
section
variable {W : World} {r : Nat} {o o' : Obj}
theorem PBlk.put {M:MemAt} {P:PAt} {p:PSt} (h:PBlk W M P p) (hr:W.heap[r]? = some o) (ho:o.isCells = false):PBlk (W.putObj r o') M P p:=h.imp fun _ h=>h.put hr ho
theorem PRep.put {M:MemAt} {P:PAt} {p:PSt} (h:PRep W M P p) (hr:W.heap[r]? = some o) (ho:o.isCells = false):PRep (W.putObj r o') M P p :=
 { h with bp:=h.bp.put hr ho,ba:=h.ba.put hr ho,bh:=h.bh.put hr ho,bf:=h.bf.put hr ho }
theorem PCtx.put {M:MemAt} {m:Mem} {P:PAt} {p:PSt} (h:PCtx W M m P p) (hr:W.heap[r]? = some o) (ho:o.isCells = false):PCtx (W.putObj r o') M m P p :=
 { h with mem:=h.mem.put hr ho,blk:=h.blk.put hr ho }
theorem Pg.put {M:MemAt} {m:Mem} {P:PAt} {p:PSt} {pc:PC} (h:Pg W M m P p pc) (hr:W.heap[r]? = some o) (ho:o.isCells = false):Pg (W.putObj r o') M m P p pc :=
 { h with ctx:=h.ctx.put hr ho,rep:=h.rep.put hr ho }
theorem Jr.put {j:Nat} {M:MemAt} {m:Mem} {P:PAt} {p:PSt} {pc:PC} (h:Jr W j M m P p pc) (hr:W.heap[r]? = some o) (ho:o.isCells = false):Jr (W.putObj r o') j M m P p pc :=
 { h with pg:=h.pg.put hr ho,bj:=h.bj.put hr ho }
theorem EntOk.put {B C:Nat} {cur:Nat→Nat} {e:Ent} (h:EntOk W B C cur e) (hr:W.heap[r]? = some o) (ho:o.isCells = false):EntOk (W.putObj r o') B C cur e :=
 { h with blk:=h.blk.imp fun _ ⟨h1,h2⟩=>⟨h1.put hr ho,h2⟩ }
end
theorem Blk.no {w:World} {b b':Nat} {cs cs':List Value} {T T':TypeId} (h:Blk w b cs T) (h':Blk w b' cs' T') (hT:T ≠ T'):b ≠ b':=by
 rintro rfl;exact hT (h.inj h').2
theorem PBlk.setErr {W:World} {M:MemAt} {P:PAt} {p:PSt} {eb:Nat} {cs:List Value} (h:PBlk W M P p) (he:Blk W eb cs 27) (v:Value):PBlk (W.setCell ⟨eb,0,none⟩ v) M P p:=h.imp fun _ h=>h.setCell_other (h.no he (by decide)) _
theorem Sl.setErr {W:World} {vb:Value} {n:Nat} {xs:List Value} {eb:Nat} {cs:List Value} (h:Sl W vb 3 1 n xs) (he:Blk W eb cs 27) (v:Value):Sl (W.setCell ⟨eb,0,none⟩ v) vb 3 1 n xs:=by
 refine ⟨h.1,?_⟩;rcases h.2 with hn | ⟨b,off,cap,cs,rfl,hb,rest⟩
 ·exact .inl hn
 ·exact .inr ⟨b,off,cap,cs,rfl,hb.setCell_other (hb.no he (by decide)) _,rest⟩
theorem PRep.setErr {W:World} {M:MemAt} {P:PAt} {p:PSt} {eb:Nat} {cs:List Value} (h:PRep W M P p) (he:Blk W eb cs 27) (v:Value):PRep (W.setCell ⟨eb,0,none⟩ v) M P p :=
 { h with bp:=h.bp.setErr he v,ba:=h.ba.setCell_other (h.ba.no he (by decide)) _,bh:=h.bh.setCell_other (h.bh.no he (by decide)) _,bf:=h.bf.setErr he v }
theorem MemRep.setErr {W:World} {M:MemAt} {m:Mem} {eb:Nat} {cs:List Value} (h:MemRep W M m) (he:Blk W eb cs 27) (v:Value):MemRep (W.setCell ⟨eb,0,none⟩ v) M m :=
 { h with bm:=h.bm.setCell_other (h.bm.no he (by decide)) _,bw:=h.bw.setCell_other (h.bw.no he (by decide)) _,br:=h.br.setCell_other (h.br.no he (by decide)) _ }
theorem Jr.setErr {W:World} {j:Nat} {M:MemAt} {m:Mem} {P:PAt} {p:PSt} {pc:PC} {eb:Nat} {cs:List Value} (h:Jr W j M m P p pc) (he:Blk W eb cs 27) (v:Value):Jr (W.setCell ⟨eb,0,none⟩ v) j M m P p pc :=
 { h with pg:={ h.pg with ctx:={ h.pg.ctx with mem:=h.pg.ctx.mem.setErr he v,blk:=h.pg.ctx.blk.setErr he v },rep:=h.pg.rep.setErr he v },bj:=h.bj.setCell_other (h.bj.no he (by decide)) _ }
def ChCut (w0 W:World) (eb:Nat) (M:MemAt) (m:Mem) (P:PAt) (p:PSt) (n:Nat) (Q:PC→Prop) (er:Int):Prop :=
 ∃ m' P' p' pc2,MemRep W M m'∧PRep W M P' p'∧P'.pb = P.pb∧P'.ab = P.ab∧P'.hb = P.hb∧p'.count = p.count∧p'.frames = p.frames∧p'.cuts = p.cuts∧Stopped m m' n∧Holds m'.D p.count p.frames m'.writes pc2∧Q pc2∧Mod (fun k=>k = eb ∨ P.S k ∨ M.S k) w0 W∧Blk W eb [.int .i64 er] 27
section
variable {w0 W : World} {jb_ eb C B bm k : Nat} {M : MemAt} {m : Mem} {P : PAt} {p : PSt} {pc : PC} {cur : Nat → Nat} {es : List Ent}
theorem ChCut.put {n:Nat} {Q:PC→Prop} {er:Int} (h:ChCut w0 W eb M m P p n Q er) {r:Nat} {o o':Obj} (h0:w0.heap.size≤r) (hr:W.heap[r]? = some o) (ho:o.isCells = false):ChCut w0 (W.putObj r o') eb M m P p n Q er:=by
 obtain ⟨m',P',p',pc2,a1,a2,a3,a4,a5,a6,a7,a8,a9,a10,a11,a12,a13⟩:=h;exact ⟨m',P',p',pc2,a1.put hr ho,a2.put hr ho,a3,a4,a5,a6,a7,a8,a9,a10,a11,a12.put h0,a13.put hr ho⟩
theorem ChCut.setErr {n:Nat} {Q:PC→Prop} {er:Int} (h:ChCut w0 W eb M m P p n Q er) (er':Int):ChCut w0 (W.setCell ⟨eb,0,none⟩ (.int .i64 er')) eb M m P p n Q er':=by
 obtain ⟨m',P',p',pc2,a1,a2,a3,a4,a5,a6,a7,a8,a9,a10,a11,a12,a13⟩:=h;exact ⟨m',P',p',pc2,a1.setErr a13 _,a2.setErr a13 _,a3,a4,a5,a6,a7,a8,a9,a10,a11,a12.setCell (fun _=>.inl rfl) _,(a13.setCell 0 _).conv rfl⟩
theorem ChCut.mono' {n n':Nat} {Q Q':PC→Prop} {er:Int} (h:ChCut w0 W eb M m P p n Q er) (hn:n≤n') (hQ:∀ x,Q x→Q' x):ChCut w0 W eb M m P p n' Q' er:=by
 obtain ⟨m',P',p',pc2,a1,a2,a3,a4,a5,a6,a7,a8,a9,a10,a11,a12,a13⟩:=h;exact ⟨m',P',p',pc2,a1,a2,a3,a4,a5,a6,a7,a8,a9.mono hn,a10,hQ _ a11,a12,a13⟩
theorem ChY.put (h:ChY w0 W jb_ eb M m P p C B bm pc cur es k) {r:Nat} {o o':Obj} (h0:w0.heap.size≤r) (hr:W.heap[r]? = some o) (ho:o.isCells = false):ChY w0 (W.putObj r o') jb_ eb M m P p C B bm pc cur es k:=by
 obtain ⟨⟨m1,P1,p1,j,a1,a2⟩,h2,h3,h4⟩:=h;exact ⟨⟨m1,P1,p1,j,a1.put hr ho,a2⟩,fun e he=>(h2 e he).put hr ho,h3.put hr ho,h4.put h0⟩
theorem ChY.setErr (h:ChY w0 W jb_ eb M m P p C B bm pc cur es k) (hB:eb < B):ChY w0 (W.setCell ⟨eb,0,none⟩ (.int .i64 0)) jb_ eb M m P p C B bm pc cur es k:=by
 obtain ⟨⟨m1,P1,p1,j,a1,a2⟩,h2,h3,h4⟩:=h;refine ⟨⟨m1,P1,p1,j,a1.setErr h3 _,a2⟩,fun e he=>?_,(h3.setCell 0 _).conv rfl,h4.setCell (fun _=>.inl rfl) _⟩;have:=(h2 e he).base;exact (h2 e he).mod (Mod.setCell (S:=fun k=>k = eb) (Mod.refl _ W) (p:=⟨eb,0,none⟩) (fun _=>rfl) _) (by omega)
theorem ChY.write {J:Nat→Nat} {l:List Ch} (h:ChY w0 W jb_ eb M m P p C B bm pc (puts (jb pc) l) es k) (hk:k < es.length) (hes:es.length≤1488) (hC:C = p.count) (hD:Due C pc J l)
  (hB:∀ k,(k = eb ∨ P.S k ∨ M.S k)→k < B) (hne:¬ (P.S eb ∨ M.S eb)) (hbytes:∀ o,o < (C - 32) * 48→puts (jb pc) l o < 256) (hrm:Room m 62538) :
  Calls Tryz.prog 282 #[ptr P.pb,.int .i64 es[k].i,es[k].v] W fun e W'=>Mod (fun k=>k = eb ∨ P.S k ∨ M.S k) W W'∧((e = .returned (errno 0)∧ChY w0 W' jb_ eb M m P p C B bm pc (puts (jb pc) l) es (k + 1)) ∨ (e = .returned (errno 7)∧ChCut w0 W' eb M m P p 62538 (fun x=>Due C x J l) 0)):=by
 obtain ⟨⟨m1,P1,p1,j,hj,a2,a3,a4,a5,a6,a7,hjk,hrun⟩,hok,hbz,hmd⟩:=h;have hS:=S_eq a2 a3 a4;have hee:es[k] ∈ es:=List.getElem_mem hk;have hek:=hok _ hee;have hd:=(wrPc_due (es.take k) pc hD (fun _=>rfl) (fun e he=>(hok e (List.mem_of_mem_take he)).lo)).1
 have hW:=pWrite_ok hj.pg (i:=es[k].i) (by rw [a5,← hC];exact hek.hi) hek.sl (pgOf_len _ _) (fun r=>by
   by_cases hr:r < 48
   ·rw [pgOf_getD _ _ _ hr];have:=hek.hi;have:=hek.lo;exact hbytes _ (by omega)
   ·rw [gd0,List.getElem?_eq_none (by rw [pgOf_len];omega)];decide) (fun i hi e=>by
   have e1:es[k].g = i:=by simpa [Ent.v,Value.ownBlock] using hi
   rw [hS] at e;have:=hB i (.inr e);have:=hek.base
   omega) (hrm.runs hrun (by omega))
 rw [a2] at hW;refine hW.mono ?_;rintro e W' hpost;have hmono:∀ {W'},Mod (fun k=>P1.S k ∨ M.S k) W W'→Mod (fun k=>k = eb ∨ P.S k ∨ M.S k) W W':=fun hm=>hS ▸ hm.mono fun i _ e=>.inr e;rcases hpost.jpost hj with ⟨m2,P2,p2,kk,pc2,rfl,b1,b2,b3,b4,b5,b6,b7,b8,b9,rfl,b11⟩ | ⟨m2,P2,p2,pc2,rfl,b1,b2,b3,b4,b5,b6,b7,b8,b9,b10,rfl,b11⟩
 ·refine ⟨hmono b11,.inl ⟨rfl,⟨m2,P2,p2,j + kk,?_,b2.trans a2,b3.trans a3,b4.trans a4,b5.trans a5,b6.trans a6,b7.trans a7,by omega,hrun.trans b9⟩,fun e he=>(hok e he).mod (hmono b11) (fun q=>?_),hbz.mod b11 (fun q=>?_),hmd.trans (hmono b11)⟩⟩
  ·rw [List.take_succ_eq_append_getElem hk,wrPc_snoc];exact b1
  ·have:=hB _ q;have:=(hok e he).base;omega
  ·rw [hS] at q;exact hne q
 ·refine ⟨hmono b11,.inr ⟨rfl,m2,P2,p2,_,b1,b2,b3.trans a2,b4.trans a3,b5.trans a4,b6.trans a5,b7.trans a6,b8.trans a7,hrun.stopped b9 (by omega),by rw [← a5,← a6];exact b10,hd,hmd.trans (hmono b11),hbz.mod b11 (fun q=>?_)⟩⟩;rw [hS] at q;exact hne q
end
end Go.Proofs.YtanioleniadhoaaGreat
