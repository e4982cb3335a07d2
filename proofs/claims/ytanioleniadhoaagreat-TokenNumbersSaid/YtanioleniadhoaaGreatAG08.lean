/-
  The plain law of Open: what the headers say, frame after frame.
-/
import Derived.Test.YtanioleniadhoaaGreatAG03
import Derived.RangeFuncNested
import Derived.RangeFuncBound
import Derived.Shelf.RegionOpen
import Derived.OwnWalkIn
import Derived.LoopNIn
import Derived.LoopIn
set_option linter.unusedVariables false
set_option linter.unusedSimpArgs false
namespace Go.Proofs.YtanioleniadhoaaGreat
structure OInv (D:Nat→Nat) (C N:Nat) (K:Nat→Prop) (L:List Nat) (A H:List Int) (V:Nat):Prop where
 kn:∀ f,K f→f < N
 al:A.length = C
 hl:H.length = N
 vl:L.length = N
 v:∀ f,K f→L.getD f 0 = if fw D f 19 = 0 then 0 else fver D f
 at_:∀ i,i < C→(A.getD i 0 = -1∧∀ f,K f→Valid D f→fpage D f ≠ i) ∨ ∃ f:Nat,K f∧A.getD i 0 = f∧Valid D f∧fpage D f = i∧∀ g,K g→Valid D g→fpage D g = i→fver D g≤fver D f
 holds:∀ f,f < N→(H.getD f 0 = -1∧∀ i,i < C→A.getD i 0 ≠ f) ∨ ∃ i:Nat,i < C∧H.getD f 0 = i∧A.getD i 0 = f
 ver:∀ f,K f→Valid D f→fver D f≤V
 src:V = 0 ∨ ∃ f,K f∧Valid D f∧fver D f = V
def Plus (K:Nat→Prop) (k:Nat):Nat→Prop:=fun f=>K f ∨ f = k
theorem getD_rep (n i:Nat) (z:Int) (h:i < n):(List.replicate n z).getD i 0 = z:=by
 simp [gd0,h]
theorem OInv.start (D:Nat→Nat) (C N:Nat) {K:Nat→Prop} (hK:∀ f,¬ K f):OInv D C N K (List.replicate N 0) (List.replicate C (-1)) (List.replicate N (-1)) 0:=by
 refine ⟨fun f h=>(hK f h).elim,by simp,by simp,by simp,fun f h=>(hK f h).elim,fun i hi=>.inl ⟨getD_rep C i _ hi,fun f h=>(hK f h).elim⟩,fun f hf=>.inl ⟨getD_rep N f _ hf,fun i hi=>?_⟩,fun f h=>(hK f h).elim,.inl rfl⟩;rw [getD_rep C i _ hi];omega
theorem getD_setN (l:List Nat) (a b v:Nat):(l.set a v).getD b 0 = if a = b∧a < l.length then v else l.getD b 0:=Mem.getD_set l a b v
section
variable {D : Nat → Nat} {C N k : Nat} {K : Nat → Prop} {L : List Nat} {A H : List Int} {V : Nat}
theorem OInv.vset (h:OInv D C N K L A H V) (hk:k < N) {x:Nat} (hx:x = if fw D k 19 = 0 then 0 else fver D k):∀ f,Plus K k f→(L.set k x).getD f 0 = if fw D f 19 = 0 then 0 else fver D f:=by
 intro f hf;rw [getD_setN];by_cases e:k = f
 ·subst e;rw [if_pos ⟨rfl,by rw [h.vl];exact hk⟩];exact hx
 ·rw [if_neg (fun q=>e q.1)];rcases hf with hf | hf
  ·exact h.v f hf
  ·exact (e hf.symm).elim
theorem OInv.knp (h:OInv D C N K L A H V) (hk:k < N):∀ f,Plus K k f→f < N:=fun f hf=>hf.elim (h.kn f) (fun e=>e ▸ hk)
theorem OInv.skip (h:OInv D C N K L A H V) (hk:k < N) (h0:fw D k 19 = 0):OInv D C N (Plus K k) (L.set k 0) A H V:=by
 have hnv:¬ Valid D k:=fun hv=>hv h0
 have hlt:∀ f,Plus K k f→Valid D f→K f:=fun f hf vf=>by
  rcases hf with hf | hf
  ·exact hf
  ·exact (hnv (hf ▸ vf)).elim
 refine ⟨h.knp hk,h.al,h.hl,by rw [List.length_set];exact h.vl,h.vset hk (by rw [if_pos h0]),fun i hi=>?_,h.holds,fun f hf vf=>h.ver f (hlt f hf vf) vf,?_⟩
 ·rcases h.at_ i hi with ⟨e,hn⟩ | ⟨f,hf,e,vf,pf,hm⟩
  ·exact .inl ⟨e,fun f hf vf=>hn f (hlt f hf vf) vf⟩
  ·exact .inr ⟨f,.inl hf,e,vf,pf,fun g hg vg pg=>hm g (hlt g hg vg) vg pg⟩
 ·rcases h.src with e | ⟨f,hf,vf,e⟩
  ·exact .inl e
  ·exact .inr ⟨f,.inl hf,vf,e⟩
theorem OInv.older (h:OInv D C N K L A H V) (hk:k < N) (hv:Valid D k) {old:Nat} (ho:A.getD (fpage D k) 0 = old) (hC:fpage D k < C) (hgt:fver D k < L.getD old 0):OInv D C N (Plus K k) (L.set k (fver D k)) A H (max V (fver D k)):=by
 have hv0:fw D k 19 ≠ 0:=hv;refine ⟨h.knp hk,h.al,h.hl,by rw [List.length_set];exact h.vl,h.vset hk (by rw [if_neg hv0]),fun i hi=>?_,h.holds,fun f hf vf=>?_,?_⟩
 ·rcases h.at_ i hi with ⟨e,hn⟩ | ⟨f,hf,e,vf,pf,hm⟩
  ·refine .inl ⟨e,fun f hf vf pf=>?_⟩;rcases hf with hf | ek
   ·exact hn f hf vf pf
   ·subst ek;rw [pf] at ho;rw [e] at ho;omega
  ·refine .inr ⟨f,.inl hf,e,vf,pf,fun g hg vg pg=>?_⟩;rcases hg with hg | ek
   ·exact hm g hg vg pg
   ·subst ek;rw [pg,e] at ho;have:f = old:=by omega
    subst this;rw [h.v f hf,if_neg vf] at hgt;omega
 ·rcases hf with hf | ek
  ·have:=h.ver f hf vf;omega
  ·subst ek;omega
 ·by_cases hm:V≤fver D k
  ·exact .inr ⟨k,.inr rfl,hv,by omega⟩
  ·rcases h.src with e | ⟨f,hf,vf,e⟩
   ·omega
   ·exact .inr ⟨f,.inl hf,vf,by omega⟩
theorem OInv.newer (h:OInv D C N K L A H V) (hk:k < N) (hv:Valid D k) {i:Nat} (hp:fpage D k = i) (hC:i < C) (hc:A.getD i 0 = -1 ∨ ∃ old:Nat,A.getD i 0 = old∧L.getD old 0≤fver D k) {H1:List Int}
  (hH:H1 = if A.getD i 0 = -1 then H else H.set (A.getD i 0).toNat (-1)):OInv D C N (Plus K k) (L.set k (fver D k)) (A.set i k) (H1.set k i) (max V (fver D k)):=by
 have hv0:fw D k 19 ≠ 0:=hv;have hl1:H1.length = N:=by rw [hH];split <;> simp [h.hl]
 have hA:∀ j,(A.set i (k:Int)).getD j 0 = if j = i then (k:Int) else A.getD j 0:=by
  intro j;rw [getD_setI];by_cases e:j = i
  ·subst e;rw [if_pos ⟨rfl,by rw [h.al];exact hC⟩,if_pos rfl]
  ·rw [if_neg (fun q=>e q.1.symm),if_neg e]
 refine ⟨h.knp hk,by rw [List.length_set];exact h.al,by rw [List.length_set];exact hl1,by rw [List.length_set];exact h.vl,h.vset hk (by rw [if_neg hv0]),fun j hj=>?_,fun f hf=>?_,fun f hf vf=>?_,?_⟩
 ·rw [hA];by_cases e:j = i
  ·subst e;rw [if_pos rfl];refine .inr ⟨k,.inr rfl,rfl,hv,hp,fun g hg vg pg=>?_⟩;rcases hg with hg | ek
   ·rcases h.at_ j hj with ⟨e1,hn⟩ | ⟨f,hf,e1,vf,pf,hm⟩
    ·exact (hn g hg vg pg).elim
    ·have h1:=hm g hg vg pg;rcases hc with e2 | ⟨old,e2,hle⟩
     ·omega
     ·have:f = old:=by omega
      subst this;have h2:=h.v f hf;rw [if_neg vf] at h2;omega
   ·rw [ek];exact Nat.le_refl _
  ·rw [if_neg e];rcases h.at_ j hj with ⟨e1,hn⟩ | ⟨f,hf,e1,vf,pf,hm⟩
   ·refine .inl ⟨e1,fun f hf vf pf=>?_⟩;rcases hf with hf | ek
    ·exact hn f hf vf pf
    ·subst ek;omega
   ·refine .inr ⟨f,.inl hf,e1,vf,pf,fun g hg vg pg=>?_⟩;rcases hg with hg | ek
    ·exact hm g hg vg pg
    ·subst ek;omega
 ·rw [getD_setI,hl1];by_cases ek:k = f
  ·subst ek;rw [if_pos ⟨rfl,hk⟩];exact .inr ⟨i,hC,rfl,by rw [hA,if_pos rfl]⟩
  ·rw [if_neg (fun q=>ek q.1)]
   have keep:A.getD i 0 ≠ (f:Int)→((H.getD f 0 = -1∧∀ j,j < C→(A.set i (k:Int)).getD j 0 ≠ f) ∨ ∃ j:Nat,j < C∧H.getD f 0 = j∧(A.set i (k:Int)).getD j 0 = f):=by
    intro hne;rcases h.holds f hf with ⟨e1,hn⟩ | ⟨j,hj,e1,e2⟩
    ·refine .inl ⟨e1,fun j hj=>?_⟩;rw [hA]
     split
     ·omega
     ·exact hn j hj
    ·refine .inr ⟨j,hj,e1,?_⟩;rw [hA,if_neg (fun e=>hne (by rw [← e];exact e2))];exact e2
   rcases hc with e1 | ⟨old,e1,_⟩
   ·rw [if_pos e1] at hH;rw [hH];exact keep (by rw [e1];omega)
   ·rw [if_neg (by rw [e1];omega),e1] at hH;have e3:((old:Nat):Int).toNat = old:=by omega
    rw [e3] at hH;rw [hH,getD_setI];by_cases ef:old = f
    ·subst ef;rw [if_pos ⟨rfl,by rw [h.hl];exact hf⟩];refine .inl ⟨rfl,fun j hj=>?_⟩;rw [hA]
     split
     ·omega
     ·intro e4
      rename_i hji
      rcases h.at_ i hC with ⟨q,_⟩ | ⟨f1,_,q1,_,p1,_⟩
      ·omega
      ·rcases h.at_ j hj with ⟨q,_⟩ | ⟨f2,_,q2,_,p2,_⟩
       ·omega
       ·have a1:f1 = old:=by omega
        have a2:f2 = old:=by omega
        rw [a1] at p1;rw [a2] at p2;exact hji (by omega)
    ·rw [if_neg (fun q=>ef q.1)];exact keep (by rw [e1];omega)
 ·rcases hf with hf | ek
  ·have:=h.ver f hf vf;omega
  ·subst ek;omega
 ·by_cases hm:V≤fver D k
  ·exact .inr ⟨k,.inr rfl,hv,by omega⟩
  ·rcases h.src with e | ⟨f,hf,vf,e⟩
   ·omega
   ·exact .inr ⟨f,.inl hf,vf,by omega⟩
theorem OInv.congr {K':Nat→Prop} (h:OInv D C N K L A H V) (e:∀ f,K f ↔ K' f):OInv D C N K' L A H V:=by
 have:K = K':=funext fun f=>propext (e f);rw [← this];exact h
theorem OInv.top (h:OInv D C N K L A H V) (hK:∀ f,f < N→K f) {i:Nat} (hi:i < C):(A.getD i 0 = -1∧NoFrame D N i) ∨ ∃ f:Nat,A.getD i 0 = f∧Top D N i f:=by
 rcases h.at_ i hi with ⟨e,hn⟩ | ⟨f,hf,e,vf,pf,hm⟩
 ·exact .inl ⟨e,fun f hf=>hn f (hK f hf)⟩
 ·exact .inr ⟨f,e,⟨h.kn f hf,vf,pf,fun g hg=>hm g (hK g hg)⟩⟩
theorem OInv.lt (h:OInv D C N K L A H V) {i:Nat} (hi:i < C):A.getD i 0 = -1 ∨ ∃ f:Nat,A.getD i 0 = f∧f < N:=by
 rcases h.at_ i hi with ⟨e,_⟩ | ⟨f,hf,e,_⟩
 ·exact .inl e
 ·exact .inr ⟨f,e,h.kn f hf⟩
theorem OInv.free_ne (h:OInv D C N K L A H V) (hCN:C < N):(List.range N).filter (fun f=>H.getD f 0 == -1) ≠ []:=by
 intro he
 have hno:∀ f,f < N→H.getD f 0 ≠ -1:=fun f hf e=>by
  have:f ∈ (List.range N).filter (fun f=>H.getD f 0 == -1):=List.mem_filter.2 ⟨List.mem_range.2 hf,by show (H.getD f 0 == -1) = true;rw [e];rfl⟩;rw [he] at this
  cases this
 have:(List.range N).length≤((List.range C).map fun i=>(A.getD i 0).toNat).length:=by
  refine nodup_le _ _ List.nodup_range fun f hfm=>?_;have hfl:=List.mem_range.1 hfm;rcases h.holds f hfl with ⟨h1,_⟩ | ⟨i,hi,_,h3⟩
  ·exact (hno f hfl h1).elim
  ·exact List.mem_map.2 ⟨i,List.mem_range.2 hi,by rw [h3];simp⟩
 simp at this;omega
theorem OInv.pinv {W:Nat} {pc:Nat→List Nat} (h:OInv D C N K L A H V) (hK:∀ f,f < N→K f) (hH:Holds D C N W pc) {p:PSt} (hc:p.count = C) (hf:p.frames = N) (hA:p.at_ = A) (hB:p.holds = H) (hV:p.version = V) (ht:p.turn < N) (hCN:C < N)
  (hfr:p.freed.Perm ((List.range N).filter fun f=>H.getD f 0 == -1)):PInv D p W pc:=by
 refine { h:=by rw [hc,hf];exact hH,at_:=fun i hi=>by rw [hA,hf];exact h.top hK (by omega),holds:=fun f hf'=>?_,nodup:=hfr.nodup_iff.2 (List.nodup_range.filter _),free:=fun f=>?_,ver:=fun f hf' vf=>by rw [hV];exact h.ver f (hK f (by omega)) vf,verW:=?_,turn:=by rw [hf];exact ht,al:=by rw [hA,hc];exact h.al,hl:=by rw [hB,hf];exact h.hl,cf:=by rw [hc,hf];exact hCN }
 ·rw [hB,hA,hc];exact h.holds f (by omega)
 ·rw [hfr.mem_iff,List.mem_filter,List.mem_range,hf,hB];simp
 ·rw [hV];rcases h.src with e | ⟨f,hf',vf,e⟩
  ·omega
  ·rw [← e];exact hH.ver f (h.kn f hf') vf
end
end Go.Proofs.YtanioleniadhoaaGreat
/-
 A range over a function, in the form that this proof uses: the iterator tells the body what the memory holds at each yield.
-/
namespace Go.Proofs.YtanioleniadhoaaGreat
open Go.RowKit Go.Shelf
def Stab (B:Nat) (I:World→Prop):Prop:=∀ W r o o',I W→B≤r→W.heap[r]? = some o→o.isCells = false→I (W.putObj r o')
theorem Blk.ne_put {w:World} {b:Nat} {cs:List Value} {T:TypeId} {r:Nat} {o:Obj} (h:Blk w b cs T) (hr:w.heap[r]? = some o) (ho:o.isCells = false):b ≠ r:=by
 rintro rfl;unfold Blk at h;rw [h] at hr
 cases hr
 cases ho
theorem Blk.put {w:World} {b:Nat} {cs:List Value} {T:TypeId} {r:Nat} {o o':Obj} (h:Blk w b cs T) (hr:w.heap[r]? = some o) (ho:o.isCells = false):Blk (w.putObj r o') b cs T :=
 h.same (World.putObj_heap_other (h.ne_put hr ho))
theorem Mod.at_put (W:World) (r:Nat) (o:Obj):Mod (fun k=>k = r) W (W.putObj r o):=⟨rfl,rfl,rfl,by simp,fun _ _ hn=>World.putObj_heap_other hn⟩
theorem Mod.put {S:Nat→Prop} {a W:World} {r:Nat} {o:Obj} (h:Mod S a W) (hr:a.heap.size≤r):Mod S a (W.putObj r o) :=
 h.step (Mod.at_put W r o) (fun i hi e=>by omega)
theorem Sl.put {w:World} {v:Value} {T:TypeId} {sz n:Nat} {xs:List Value} {r:Nat} {o o':Obj} (h:Sl w v T sz n xs) (hr:w.heap[r]? = some o) (ho:o.isCells = false):Sl (w.putObj r o') v T sz n xs:=by
 refine ⟨h.1,?_⟩;rcases h.2 with hn | ⟨b,off,cap,cs,rfl,hb,rest⟩
 ·exact .inl hn
 ·exact .inr ⟨b,off,cap,cs,rfl,hb.put hr ho,rest⟩
def roundEnd (S:Nat→Prop) (Z:World→Prop) (X:Code→World→Prop) (W:World):Exit→Act→World→Prop
 | .normal,_,W'=>Mod S W W'∧Z W'
 | .ret,_,W'=>Mod S W W'∧X .ret W'
 | .exit id,_,W'=>Mod S W W'∧X (.exit id) W'
 | .goto t,_,W'=>Mod S W W'∧X (.goto t) W'
 | .panic _,_,_=>False
 | .outgrown,_,_=>False
theorem Mod.round {S:Nat→Prop} {W Wa W3:World} {l:Nat} {o1 o2:Obj} (h1:Mod S W Wa) (h2:Mod S (Wa.putObj l o1) W3) (hl:W.heap[l]? = some o2) (hlt:l < W3.heap.size):Mod S W (W3.putObj l o2):=by
 have hlW:l < W.heap.size:=(Array.getElem?_eq_some_iff.1 hl).1;refine ⟨h2.os.trans h1.os,h2.tape.trans h1.tape,h2.output.trans h1.output,?_,fun k hk hs=>?_⟩
 ·have:=h1.size;have:=h2.size;simp at *;omega
 ·by_cases e:k = l
  ·subst e;rw [World.putObj_heap_same hlt,hl]
  ·rw [World.putObj_heap_other e,h2.block k (by have:=h1.size;simp;omega) hs,World.putObj_heap_other e];exact h1.block k hk hs
theorem wpIn_range {F:Fence} {n:Nat} {P:Program} {g:Operand} {ps:Array Tmp} {assign body:Code} {Q:Exit→Act→World→Prop} {a:Act} {w:World} {σ:Type}
  (hro:F.round = none) (h1:1≤n) {gf:Nat} {lb:Array Value} (hg:a.eval g = .func (.func gf) #[] lb) (hFg:F.fn gf) (eg:∀ args w,(callFunc gf args).run P w = .ok (.enter gf args) w)
  (S:Nat→Prop) (hSD:¬ S w.heap.size) (hSl:¬ S (w.heap.size + 1))
  (Y:σ→Array Value→World→Prop) (Z:σ→World→Prop) (X:Code→World→Prop) (T:World→Prop)
  (hZ:∀ s,Stab w.heap.size (Z s)) (hX:∀ c,Stab w.heap.size (X c)) (hT:Stab w.heap.size T)
  (hps:∀ s args W,Y s args W→args.size = ps.size)
  (Ax:σ→Act→World→Prop) (hAx:∀ s a',Stab w.heap.size (Ax s a'))
  (hassign:∀ (l:Nat) (s:σ) (args:Array Value) (W:World),Y s args W→assign.wpIn (F.inRound l) (n - 1 - 1) P (Exit.then (fun a' W'=>Mod S W W'∧Ax s a' W') (fun _ _ _=>False)) { tmps:=(ps.zip args).foldl (fun t (p,v)=>t.setIfInBounds p v) a.tmps,defers:=[] } W)
  (hbody:∀ (l:Nat) (s:σ) (a':Act) (W:World),Ax s a' W→body.wpIn (F.inRound l) (n - 1 - 1) P (roundEnd S (Z s) X W) a' W)
  (hit:∀ (W1:World) (R XX:World→Prop),Mod Nowhere w W1→W1.heap.size = w.heap.size + 2 →
   (∀ (S':Nat→Prop) (W W':World),R W→Mod S' W W'→¬ S' w.heap.size→¬ S' (w.heap.size + 1)→R W')→(∀ W,XX W→∃ c,X c W) →
   (∀ (s:σ) (args:Array Value) (W:World),Y s args W→R W→YieldAt F (n - 1 - 1) P (w.heap.size + 1) args W fun e W'=>(e = .returned (.bool true)∧Z s W'∧Mod S W W'∧R W') ∨ (e = .returned (.bool false)∧XX W')) →
   R W1→CallsIn F (n - 1) P gf (#[.func (.yield (w.heap.size + 1)) #[] #[]] ++ lb) W1 fun e W'=>(∃ v,e = .returned v)∧((T W'∧R W') ∨ XX W'))
  (hdone:∀ (W:World),T W→W.heap[w.heap.size]? = some (.deferred (some []))→Q .normal { a with defers:={ target:=.collected w.heap.size,args:=#[] } :: a.defers } W)
  (hstop:∀ (c:Code) (W:World),X c W→W.heap[w.heap.size]? = some (.deferred (some []))→c.wpIn F n P Q { a with defers:={ target:=.collected w.heap.size,args:=#[] } :: a.defers } W) :
  (Code.rangeFunc g ps assign body).wpIn F n P Q a w:=by
 refine wpIn_rangeFunc ?_;intro fn hfn;rw [hro];obtain ⟨rec,hrec⟩:∃ rec:LoopState→Option Code→Loop,rec = fun st pe=>{ state:=st,pending:=pe,fn,tmps:=a.tmps,params:=ps,assign,body,defers:=w.heap.size }:=⟨_,rfl⟩;obtain ⟨W1,hW1⟩:∃ W1,(w.alloc (.deferred (some []))).alloc (.loop (rec .ready none)) = W1:=⟨_,rfl⟩
 have hL1:W1.heap[w.heap.size + 1]? = some (.loop (rec .ready none)):=by
  rw [← hW1];have:=World.alloc_heap_new (w.alloc (.deferred (some []))) (.loop (rec .ready none));rwa [World.size_alloc] at this
 have hK1:W1.heap[w.heap.size]? = some (.deferred (some [])):=by
  rw [← hW1];exact (Below.heap_alloc _ _ _ (by simp)).trans (World.alloc_heap_new w _)
 have hm1:Mod Nowhere w W1:=by rw [← hW1];exact ((Mod.refl _ w).alloc _).alloc _
 have hs1:W1.heap.size = w.heap.size + 2:=by rw [← hW1];simp
 refine ⟨w.heap.size + 1,[{ target:=.collected w.heap.size,args:=#[] }],W1,{ target:=.fn (.func gf) lb,args:=#[.func (.yield (w.heap.size + 1)) #[] #[]] },W1,gf,
  #[.func (.yield (w.heap.size + 1)) #[] #[]] ++ lb,W1,?_,?_,?_,?_,fun _=>h1,?_⟩
 ·rw [← hW1,hrec];exact run_enterLoop_outer _ _ _ _ _
 ·simp only [resolve,hg];simp [go_sem]
 ·intro f' hf';simp [Target.leads] at hf';subst hf';exact hFg
 ·simp [invoke,go_sem,eg]
 refine (hit W1 (fun W=>W.heap[w.heap.size + 1]? = some (.loop (rec .ready none))∧W.heap[w.heap.size]? = some (.deferred (some [])))
  (fun W=>∃ c,X c W∧W.heap[w.heap.size + 1]? = some (.loop (rec .done (some c)))∧W.heap[w.heap.size]? = some (.deferred (some []))) hm1 hs1 ?_ (fun W ⟨c,h,_⟩=>⟨c,h⟩) ?_ ⟨hL1,hK1⟩).mono ?_
 ·rintro S' W W' ⟨hl,hk⟩ hm nD nl;exact ⟨(hm.block _ (Array.getElem?_eq_some_iff.1 hl).1 nl).trans hl,(hm.block _ (Array.getElem?_eq_some_iff.1 hk).1 nD).trans hk⟩
 ·rintro s args W hY ⟨hl,hk⟩;have hy:=run_yield (P:=P) (args:=args) hl (by rw [hrec];exact hps s args W hY);rw [hrec] at hy;refine ⟨fn,_,assign,body,hy,roundIn_of_wpIn hfn (wpIn_mono (hassign (w.heap.size + 1) s args W hY) ?_)⟩;clear hy;rintro e a' Wa hp
  cases e with
  | normal =>
   obtain ⟨hma,hax⟩:=hp;have hla:Wa.heap[w.heap.size + 1]? = some (.loop (rec .ready none)):=(hma.block _ (Array.getElem?_eq_some_iff.1 hl).1 hSl).trans hl;have hka:Wa.heap[w.heap.size]? = some (.deferred (some [])):=(hma.block _ (Array.getElem?_eq_some_iff.1 hk).1 hSD).trans hk;have hlta:w.heap.size + 1 < Wa.heap.size:=(Array.getElem?_eq_some_iff.1 hla).1;refine ⟨_,run_beginRound hla (by rw [hrec]),?_⟩;have hlb:(Wa.putObj (w.heap.size + 1) (.loop { rec .ready none with state:=.busy })).heap[w.heap.size + 1]? = some (.loop { rec .ready none with state:=.busy }):=World.putObj_heap_same hlta;have hkb:(Wa.putObj (w.heap.size + 1) (.loop { rec .ready none with state:=.busy })).heap[w.heap.size]? = some (.deferred (some [])):=(World.putObj_heap_other (by omega)).trans hka
   refine wpIn_mono (hbody (w.heap.size + 1) s a' _ (hAx s a' Wa _ _ _ hax (by omega) hla rfl)) ?_
   have fin:∀ (jump:Option Code) (W3:World),Mod S (Wa.putObj (w.heap.size + 1) (.loop { rec .ready none with state:=.busy })) W3 →
     (Instr.endRound (w.heap.size + 1) jump).run P W3 = .ok (.bool jump.isNone) (W3.putObj (w.heap.size + 1) (.loop (rec (if jump.isNone then .ready else .done) jump))) ∧
     W3.heap[w.heap.size + 1]? = some (.loop { rec .ready none with state:=.busy })∧w.heap.size + 1 < W3.heap.size ∧
     (W3.putObj (w.heap.size + 1) (.loop (rec (if jump.isNone then .ready else .done) jump))).heap[w.heap.size + 1]? = some (.loop (rec (if jump.isNone then .ready else .done) jump)) ∧
     (W3.putObj (w.heap.size + 1) (.loop (rec (if jump.isNone then .ready else .done) jump))).heap[w.heap.size]? = some (.deferred (some [])):=fun jump W3 hm3=>by
    have hl3:=(hm3.block _ (Array.getElem?_eq_some_iff.1 hlb).1 hSl).trans hlb;have hk3:=(hm3.block _ (Array.getElem?_eq_some_iff.1 hkb).1 hSD).trans hkb;have hlt3:=(Array.getElem?_eq_some_iff.1 hl3).1;have:=run_endRound (P:=P) jump hl3;rw [hrec] at this ⊢;exact ⟨this,by rw [hrec] at hl3;exact hl3,hlt3,World.putObj_heap_same hlt3,(World.putObj_heap_other (by omega)).trans hk3⟩
   rintro e a3 W3 hp3
   cases e with
   | normal =>
    obtain ⟨hm3,hz3⟩:=hp3;obtain ⟨hr,hl3,hlt3,hl4,hk4⟩:=fin none W3 hm3;exact ⟨_,_,hr,.inl ⟨rfl,hZ s _ _ _ _ hz3 (by omega) hl3 rfl,hma.round hm3 hl hlt3,hl4,hk4⟩⟩
   | ret =>
    obtain ⟨hm3,hx3⟩:=hp3;obtain ⟨hr,hl3,hlt3,hl4,hk4⟩:=fin (some .ret) W3 hm3;exact ⟨_,_,hr,.inr ⟨rfl,.ret,hX _ _ _ _ _ hx3 (by omega) hl3 rfl,hl4,hk4⟩⟩
   | exit id =>
    obtain ⟨hm3,hx3⟩:=hp3;obtain ⟨hr,hl3,hlt3,hl4,hk4⟩:=fin (some (.exit id)) W3 hm3;exact ⟨_,_,hr,.inr ⟨rfl,.exit id,hX _ _ _ _ _ hx3 (by omega) hl3 rfl,hl4,hk4⟩⟩
   | goto t =>
    obtain ⟨hm3,hx3⟩:=hp3;obtain ⟨hr,hl3,hlt3,hl4,hk4⟩:=fin (some (.goto t)) W3 hm3;exact ⟨_,_,hr,.inr ⟨rfl,.goto t,hX _ _ _ _ _ hx3 (by omega) hl3 rfl,hl4,hk4⟩⟩
   | panic ch=>exact hp3.elim
   | outgrown=>exact hp3.elim
  | ret=>exact hp.elim
  | exit id=>exact hp.elim
  | goto t=>exact hp.elim
  | panic ch=>exact hp.elim
  | outgrown=>exact hp.elim
 ·rintro e W2 ⟨⟨v,rfl⟩,(⟨hT2,hl,hk⟩ | ⟨c,hx,hl,hk⟩)⟩
  ·exact ⟨none,_,by have:=run_endLoop (P:=P) hl (by rw [hrec];simp);rw [hrec] at this;exact this,hdone _ (hT _ _ _ _ hT2 (by omega) hl rfl) ((World.putObj_heap_other (by omega)).trans hk)⟩
  ·exact ⟨some c,_,by have:=run_endLoop (P:=P) hl (by rw [hrec];simp);rw [hrec] at this;exact this,hstop c _ (hX c _ _ _ _ hx (by omega) hl rfl) ((World.putObj_heap_other (by omega)).trans hk)⟩
end Go.Proofs.YtanioleniadhoaaGreat
/-
 A region that draws its order, without calls, in a round of a range over a function: each operation once.
-/
namespace Go.Proofs.YtanioleniadhoaaGreat
open Go.RowKit Go.Shelf
def putAll (ops:Array Oper) (vals:Nat→Value):List Nat→Act→Act
 | [],a=>a
 | i :: l,a=>putAll ops vals l (a.put ((ops[i]?).bind (·.dst)) (vals i))
def isDefer:Op→Bool
 | .defer _=>true
 | _=>false
def isSelect:Op→Bool
 | .select _ _=>true
 | _=>false
def shapeB (ops:Array Oper):Bool :=
 (List.range ops.size).all fun i=>match ops[i]? with
  | none=>true
  | some o=>o.guard.isNone && !isDefer o.op && !isSelect o.op && (List.range ops.size).all fun j=>match ops[j]? with
   | none=>true
   | some q=>match q.dst with
    | none=>true
    | some d=>(!(o.looksAt ops).contains d || (j != i && o.after.any fun e=>Region.binds .any e && e.on == j)) && (j == i || o.dst != some d)
section
variable {ops : Array Oper} {vals : Nat → Value}
theorem shapeB_spec (h:shapeB ops = true) {i:Nat} {o:Oper} (hi:ops[i]? = some o) :
  o.guard = none∧(∀ c,o.op ≠ .defer c)∧(∀ cs b,o.op ≠ .select cs b)∧∀ j q d,ops[j]? = some q→q.dst = some d→(d ∈ o.looksAt ops→j ≠ i∧∃ e ∈ o.after,Region.binds .any e = true∧e.on = j)∧(j ≠ i→o.dst ≠ some d):=by
 unfold shapeB at h;rw [List.all_eq_true] at h;have h1:=h i (List.mem_range.2 (Array.getElem?_eq_some_iff.1 hi).1);rw [hi] at h1;simp only [Bool.and_eq_true] at h1;obtain ⟨⟨⟨g,nd⟩,ns⟩,hj⟩:=h1;refine ⟨by simpa using g,fun c e=>by rw [e] at nd;simp [isDefer] at nd,fun cs b e=>by rw [e] at ns;simp [isSelect] at ns,fun j q d hq hd=>?_⟩;rw [List.all_eq_true] at hj;have h2:=hj j (List.mem_range.2 (Array.getElem?_eq_some_iff.1 hq).1);rw [hq] at h2;simp only [hd,Bool.and_eq_true,Bool.or_eq_true] at h2;obtain ⟨h3,h4⟩:=h2;refine ⟨fun hm=>?_,fun hne e=>?_⟩
 ·rcases h3 with h3 | h3
  ·have:(o.looksAt ops).contains d = true:=by simpa using hm
   rw [this] at h3;cases h3
  ·obtain ⟨h5,h6⟩:=h3;obtain ⟨e,he,h7⟩:=Array.any_eq_true'.1 h6;simp only [Bool.and_eq_true,beq_iff_eq] at h7;exact ⟨by simpa using h5,e,he,h7.1,h7.2⟩
 ·rcases h4 with h4 | h4
  ·exact hne (by simpa using h4)
  ·rw [e] at h4;simp at h4
theorem putAll_front (h:shapeB ops = true) {i:Nat} {o:Oper} (hi:ops[i]? = some o):∀ (l:List Nat) (a:Act),l.Nodup→i ∈ l →
  putAll ops vals l a = putAll ops vals (l.filter (· != i)) (a.put o.dst (vals i))
 | [],_,_,hm=>by cases hm
 | j :: l,a,hn,hm=>by
  obtain ⟨hj,hn'⟩:=List.nodup_cons.1 hn;by_cases e:j = i
  ·subst e
   have hf:l.filter (· != j) = l:=List.filter_eq_self.2 fun x hx=>by
    have:x ≠ j:=fun e=>hj (e ▸ hx);simpa using this
   simp only [putAll,List.filter_cons,bne_self_eq_false,Bool.false_eq_true,if_false,hf,hi,Option.bind_some]
  ·have hm':i ∈ l:=by
    rcases List.mem_cons.1 hm with q | q
    ·exact (e q.symm).elim
    ·exact q
   have hb:(j != i) = true:=by simpa using e
   simp only [putAll,List.filter_cons,hb,if_true];rw [putAll_front h hi l _ hn' hm']
   congr 1
   refine Act.put_comm a _ _ fun d hd=>?_
   cases hq:ops[j]? with
   | none=>rw [hq] at hd;cases hd
   | some q =>
    rw [hq] at hd;exact ((shapeB_spec h hi).2.2.2 j q d hq hd).2 e
theorem execOp_putAll (h:shapeB ops = true) {i:Nat} {o:Oper} (hi:ops[i]? = some o):∀ (l:List Nat) (a:Act),(∀ j ∈ l,¬ ∃ e ∈ o.after,Region.binds .any e = true∧e.on = j) →
  execOp (putAll ops vals l a).eval o = execOp a.eval o
 | [],_,_=>rfl
 | j :: l,a,hl=>by
  rw [putAll,execOp_putAll h hi l _ (fun k hk=>hl k (List.mem_cons_of_mem _ hk))];obtain ⟨_,_,hs,hj⟩:=shapeB_spec h hi;refine execOp_put (ops:=ops) o hs a _ _ fun d hd hmem=>?_
  cases hq:ops[j]? with
  | none=>rw [hq] at hd;cases hd
  | some q =>
   rw [hq] at hd;exact hl j (List.mem_cons_self ..) (((hj j q d hq hd).1 hmem).2)
end
def orderB (ops:Array Oper):Bool :=
 (List.range ops.size).all fun i=>match ops[i]? with
  | none=>true
  | some o=>o.after.all fun e=>!Region.binds .any e || decide (e.on < i)
theorem orderB_spec {ops:Array Oper} (h:orderB ops = true) {i:Nat} {o:Oper} (hi:ops[i]? = some o):∀ e ∈ o.after,Region.binds .any e = true→e.on < i:=by
 unfold orderB at h;rw [List.all_eq_true] at h;have h1:=h i (List.mem_range.2 (Array.getElem?_eq_some_iff.1 hi).1);rw [hi] at h1;intro e he hb;have h2:=Array.all_eq_true'.1 h1 e he;simpa [hb] using h2
theorem getD_low {listed:Array Bool} {i:Nat} (h:listed.getD i true = false):listed.getD i false = false:=by
 by_cases hi:i < listed.size
 ·simpa [Array.getD_eq_getD_getElem?,Array.getElem?_eq_getElem hi] using h
 ·simp [Array.getD_eq_getD_getElem?,Array.getElem?_eq_none (Nat.le_of_not_lt hi)]
theorem ready_some {ops:Array Oper} (ho:orderB ops = true) {listed:Array Bool} (hsz:listed.size = ops.size) (hr:Region.ready .any ops listed = []):∀ i,i < ops.size→listed.getD i false = true:=by
 intro i
 induction i using Nat.strongRecOn with
 | ind i ih =>
  intro hi
  cases hb:listed.getD i false with
  | true=>rfl
  | false =>
   exfalso
   have:i ∈ Region.ready .any ops listed:=by
    refine mem_ready.2 ⟨?_,ops[i],Array.getElem?_eq_getElem hi,fun e he hbd=>?_⟩
    ·simpa [Array.getD_eq_getD_getElem?,Array.getElem?_eq_getElem (show i < listed.size by omega)] using hb
    ·have:=orderB_spec ho (Array.getElem?_eq_getElem hi) e he hbd;exact ih _ this (by omega)
   rw [hr] at this
   cases this
def marks (listed:Array Bool):Nat→Bool:=fun j=>listed.getD j false
def mark (m:Nat→Bool) (i:Nat):Nat→Bool:=fun j=>if j = i then true else m j
def Clo (ops:Array Oper) (m:Nat→Bool):Prop:=∀ i o,ops[i]? = some o→m i = true→∀ e ∈ o.after,Region.binds .any e = true→m e.on = true
def StepOk (P:Program) (ops:Array Oper) (A:Act) (vals:Nat→Value) (Inv:(Nat→Bool)→World→Prop) (i:Nat) (o:Oper):Prop :=
 ∀ (m:Nat→Bool) (w:World),Clo ops m→m i = false→(∀ e ∈ o.after,Region.binds .any e = true→m e.on = true)→Inv m w →
  ∃ w1,((execOp A.eval o).run P w = .ok (.value (vals i)) w1 ∨ ((execOp A.eval o).run P w = .ok .skip w1∧vals i = undef))∧Inv (mark m i) w1
def AllFrom (p:Nat→Oper→Prop):Nat→List Oper→Prop
 | _,[]=>True
 | k,o :: l=>p k o∧AllFrom p (k + 1) l
theorem AllFrom.get {p:Nat→Oper→Prop}:∀ {l:List Oper} {k:Nat},AllFrom p k l→∀ i o,l[i]? = some o→p (k + i) o
 | [],_,_,i,o,h=>by simp at h
 | x :: l,k,hp,i,o,h=>by
  cases i with
  | zero=>simp at h;subst h;exact hp.1
  | succ i =>
   have:=AllFrom.get hp.2 i o (by simpa using h)
   rwa [show k + 1 + i = k + (i + 1) by omega] at this
theorem wpIn_region_round {l n:Nat} {P:Program} {id:Nat} {L:List Oper} {Q:Exit→Act→World→Prop} {a:Act} {w:World} (vals:Nat→Value) (A:Act) (Inv:(Nat→Bool)→World→Prop)
  (hm:P.follows .mixedOrders = true) (hs:shapeB L.toArray = true) (hord:orderB L.toArray = true) (hA:putAll L.toArray vals (List.range L.toArray.size) a = A) (h0:Inv (fun _=>false) w.drew)
  (hstep:AllFrom (StepOk P L.toArray A vals Inv) 0 L) (hend:∀ m w',(∀ i,i < L.toArray.size→m i = true)→Inv m w'→Q .normal A w') :
  (Code.region id L.toArray true).wpIn (Fence.wide.inRound l) n P Q a w:=by
 refine wpIn_region_any hm ?_
 have key:∀ (fuel:Nat) (listed:Array Bool) (a':Act) (w':World),listed.size = L.toArray.size→((List.range L.toArray.size).filter fun j=>!listed.getD j false).length = fuel →
   putAll L.toArray vals ((List.range L.toArray.size).filter fun j=>!listed.getD j false) a' = A→Clo L.toArray (marks listed)→Inv (marks listed) w' →
   wpAnyIn (Fence.wide.inRound l) n P .any L.toArray Q fuel listed a' w':=by
  intro fuel
  induction fuel with
  | zero =>
   intro listed a' w' hsz hlen hput hclo hinv;have hnil:=List.length_eq_zero_iff.1 hlen
   have hall:∀ i,i < L.toArray.size→listed.getD i false = true:=fun i hi=>by
    cases hb:listed.getD i false with
    | true=>rfl
    | false =>
     have:i ∈ (List.range L.toArray.size).filter fun j=>!listed.getD j false:=List.mem_filter.2 ⟨List.mem_range.2 hi,by rw [hb];rfl⟩;rw [hnil] at this
     cases this
   refine ⟨?_,?_⟩
   ·rw [List.eq_nil_iff_forall_not_mem];intro j hj;obtain ⟨h1,o,ho,_⟩:=mem_ready.1 hj;have hlt:=(Array.getElem?_eq_some_iff.1 ho).1;have h2:=hall j hlt;simp only [Array.getD_eq_getD_getElem?,Array.getElem?_eq_getElem (show j < listed.size by omega),Option.getD_some] at h1 h2;rw [h1] at h2;cases h2
   ·rw [hnil] at hput;subst hput;exact hend _ _ (fun i hi=>hall i hi) hinv
  | succ fuel ih =>
   intro listed a' w' hsz hlen hput hclo hinv
   have hone:∀ i ∈ Region.ready .any L.toArray listed,wpOpIn (Fence.wide.inRound l) n P L.toArray Q i (wpAnyIn (Fence.wide.inRound l) n P .any L.toArray Q fuel (listed.setIfInBounds i true)) a' w':=by
    intro i hi;obtain ⟨h1,o,ho,hdeps⟩:=mem_ready.1 hi;have hlt:=(Array.getElem?_eq_some_iff.1 ho).1;have hf:listed.getD i false = false:=getD_low h1;have hin:i ∈ (List.range L.toArray.size).filter fun j=>!listed.getD j false:=List.mem_filter.2 ⟨List.mem_range.2 hlt,by rw [hf];rfl⟩;have hnd:((List.range L.toArray.size).filter fun j=>!listed.getD j false).Nodup:=List.nodup_range.filter _;obtain ⟨hg,hnd2,hsel,_⟩:=shapeB_spec hs ho
    have hexec:execOp a'.eval o = execOp A.eval o:=by
     rw [← hput,execOp_putAll hs ho];rintro j hj ⟨e,he,hb,hon⟩;have h2:=hdeps e he hb;rw [hon] at h2;have h3:=(List.mem_filter.1 hj).2;rw [h2] at h3;cases h3
    have hst:=(AllFrom.get hstep i o (by simpa using ho));rw [Nat.zero_add] at hst;obtain ⟨w1,hrun,hinv1⟩:=hst (marks listed) w' hclo hf (fun e he hb=>hdeps e he hb) hinv
    have hset:∀ j,(listed.setIfInBounds i true).getD j false = if j = i then true else listed.getD j false:=by
     intro j;by_cases e:j = i
     ·subst e;rw [if_pos rfl];simp [Array.getD_eq_getD_getElem?,show j < listed.size by omega]
     ·rw [if_neg e,getD_set_ne _ (Ne.symm e)]
    have hrem:((List.range L.toArray.size).filter fun j=>!(listed.setIfInBounds i true).getD j false) = ((List.range L.toArray.size).filter fun j=>!listed.getD j false).filter (· != i):=by
     rw [List.filter_filter];refine List.filter_congr fun j _=>?_;rw [hset];by_cases e:j = i
     ·subst e;simp
     ·have:(j != i) = true:=by simpa using e
      rw [if_neg e,this];simp
    have hnext:wpAnyIn (Fence.wide.inRound l) n P .any L.toArray Q fuel (listed.setIfInBounds i true) (a'.put o.dst (vals i)) w1:=by
     refine ih _ _ _ (by simp [hsz]) ?_ ?_ ?_ ?_
     ·rw [hrem];have h4:=List.length_erase_of_mem hin;rw [hnd.erase_eq_filter] at h4;rw [h4,hlen];rfl
     ·rw [hrem,← putAll_front hs ho _ _ hnd hin];exact hput
     ·intro k q hq hk e he hb
      show (listed.setIfInBounds i true).getD e.on false = true
      rw [hset]
      split
      ·rfl
      ·by_cases eki:k = i
       ·subst eki;rw [ho] at hq;cases hq;exact hdeps e he hb
       ·have hk':(listed.setIfInBounds i true).getD k false = true:=hk;rw [hset,if_neg eki] at hk';exact hclo k q hq hk' e he hb
     ·have:marks (listed.setIfInBounds i true) = mark (marks listed) i:=funext fun j=>hset j;rw [this];exact hinv1
    unfold wpOpIn;rw [ho];have hw:Region.wanted o (yielded L.toArray a'.tmps) = true:=by unfold Region.wanted;rw [hg]
    simp only [hw,if_true];refine ⟨fun f _=>trivial,?_⟩;rw [Oper.semAt_eq _ _ _ hnd2,hexec];rcases hrun with hr | ⟨hr,hu⟩
    ·rw [hr];exact hnext
    ·rw [hr];rw [hu] at hnext;exact hnext
   refine ⟨fun hnil=>?_,hone⟩
   exfalso
   have hall:=ready_some hord hsz hnil
   have:((List.range L.toArray.size).filter fun j=>!listed.getD j false) = []:=List.filter_eq_nil_iff.2 fun j hj=>by
    rw [hall j (List.mem_range.1 hj)];simp
   rw [this] at hlen
   cases hlen
 have hz:∀ j,(Array.replicate L.toArray.size false).getD j false = false:=fun j=>by
  simp only [Array.getD_eq_getD_getElem?,Array.getElem?_replicate]
  split <;> rfl
 have hfil:((List.range L.toArray.size).filter fun j=>!(Array.replicate L.toArray.size false).getD j false) = List.range L.toArray.size:=List.filter_eq_self.2 fun j _=>by rw [hz];rfl
 refine key _ _ _ _ (by simp) ?_ ?_ ?_ ?_
 ·rw [hfil];simp
 ·rw [hfil];exact hA
 ·intro k q _ hk;have hk':(Array.replicate L.toArray.size false).getD k false = true:=hk;rw [hz] at hk';cases hk'
 ·have:marks (Array.replicate L.toArray.size false) = fun _=>false:=funext fun j=>hz j;rw [this];exact h0
theorem wpIn_region_reads {l n:Nat} {P:Program} {id:Nat} {L:List Oper} {Q:Exit→Act→World→Prop} {a:Act} {w:World} (vals:Nat→Value) (A:Act)
  (hm:P.follows .mixedOrders = true) (hs:shapeB L.toArray = true) (hord:orderB L.toArray = true) (hA:putAll L.toArray vals (List.range L.toArray.size) a = A)
  (hstep:AllFrom (fun i o=>(execOp A.eval o).run P w.drew = .ok (.value (vals i)) w.drew) 0 L) (hend:Q .normal A w.drew) :
  (Code.region id L.toArray true).wpIn (Fence.wide.inRound l) n P Q a w :=
 wpIn_region_round vals A (fun _ w'=>w' = w.drew) hm hs hord hA rfl
  (by
   have:∀ (L:List Oper) (k:Nat),AllFrom (fun i o=>(execOp A.eval o).run P w.drew = .ok (.value (vals i)) w.drew) k L→∀ ops,AllFrom (StepOk P ops A vals (fun _ w'=>w' = w.drew)) k L:=by
    intro L
    induction L with
    | nil=>intro _ _ _;trivial
    | cons o L ih=>intro k h ops;exact ⟨fun m w' _ _ _ e=>⟨w.drew,.inl (e ▸ h.1),rfl⟩,ih _ h.2 ops⟩
   exact this L 0 hstep _)
  (fun _ _ _ e=>e ▸ hend)
def waitB (ops:Array Oper) (k:Nat) (o:Oper):Bool :=
 (List.range k).all fun j=>o.after.any fun e=>Region.binds .any e && (e.on == j || match ops[e.on]? with
  | some q=>q.after.any fun e'=>Region.binds .any e' && e'.on == j
  | none=>false)
theorem waitB_spec {ops:Array Oper} {k:Nat} {o:Oper} (h:waitB ops k o = true) {m:Nat→Bool} (hc:Clo ops m) (hd:∀ e ∈ o.after,Region.binds .any e = true→m e.on = true):∀ j,j < k→m j = true:=by
 intro j hj;unfold waitB at h;rw [List.all_eq_true] at h;obtain ⟨e,he,h3⟩:=Array.any_eq_true'.1 (h j (List.mem_range.2 hj));simp only [Bool.and_eq_true,Bool.or_eq_true,beq_iff_eq] at h3;obtain ⟨hb,h4⟩:=h3;have h5:=hd e he hb;rcases h4 with h4 | h4
 ·rw [← h4];exact h5
 ·cases hq:ops[e.on]? with
  | none=>rw [hq] at h4;cases h4
  | some q =>
   rw [hq] at h4;obtain ⟨e',he',h6⟩:=Array.any_eq_true'.1 h4;simp only [Bool.and_eq_true,beq_iff_eq] at h6;rw [← h6.2];exact hc e.on q hq h5 e' he' h6.1
theorem wpIn_region_last {l n:Nat} {P:Program} {id:Nat} {M:List Oper} {Q:Exit→Act→World→Prop} {a:Act} {w:World} (k:Nat) (o:Oper) (hM:M.take k ++ [o] = M) (hk:(M.take k).length = k) (w1:World) (vals:Nat→Value) (A:Act)
  (hm:P.follows .mixedOrders = true) (hs:shapeB M.toArray = true) (hord:orderB M.toArray = true) (hA:putAll M.toArray vals (List.range M.toArray.size) a = A)
  (hwait:waitB M.toArray k o = true) (hv:vals k = undef)
  (hstep:AllFrom (fun i o=>(execOp A.eval o).run P w.drew = .ok (.value (vals i)) w.drew) 0 (M.take k)) (hlast:(execOp A.eval o).run P w.drew = .ok .skip w1) (hend:Q .normal A w1) :
  (Code.region id M.toArray true).wpIn (Fence.wide.inRound l) n P Q a w:=by
 refine wpIn_region_round vals A (fun m w'=>(m k = false∧w' = w.drew) ∨ (m k = true∧(∀ j,j < k→m j = true)∧w' = w1)) hm hs hord hA (.inl ⟨rfl,rfl⟩) ?_ ?_
 ·have : ∀ (N : List Oper) (i : Nat), i + N.length = k → AllFrom (fun i o => (execOp A.eval o).run P w.drew = .ok (.value (vals i)) w.drew) i N →
      AllFrom (StepOk P M.toArray A vals (fun m w'=>(m k = false∧w' = w.drew) ∨ (m k = true∧(∀ j,j < k→m j = true)∧w' = w1))) i (N ++ [o]):=by
   intro N
   induction N with
   | nil =>
    intro i hi _;refine ⟨fun m w' hclo hmk hdep hinv=>?_,trivial⟩;have hi:i = k:=by simpa using hi
    subst hi;rcases hinv with ⟨_,rfl⟩ | ⟨h1,_⟩
    ·refine ⟨w1,.inr ⟨hlast,hv⟩,.inr ⟨by simp [mark],fun j hj=>?_,rfl⟩⟩;unfold mark;rw [if_neg (by omega)];exact waitB_spec hwait hclo hdep j hj
    ·rw [hmk] at h1;cases h1
   | cons x N ih =>
    intro i hi h;have hi':i + (N.length + 1) = k:=by simpa using hi
    refine ⟨fun m w' hclo hmk hdep hinv=>?_,ih (i + 1) (by omega) h.2⟩;rcases hinv with ⟨h1,rfl⟩ | ⟨_,h2,_⟩
    ·exact ⟨w.drew,.inl h.1,.inl ⟨by unfold mark;rw [if_neg (by omega)];exact h1,rfl⟩⟩
    ·rw [h2 i (by omega)] at hmk;cases hmk
  have:=this (M.take k) 0 (by simpa using hk) hstep
  rwa [hM] at this
 ·have hlen:k < M.length:=by
   have h:=congrArg List.length hM;rw [List.length_append,hk,List.length_singleton] at h;omega
  rintro m w' hall (⟨h1,_⟩ | ⟨_,_,rfl⟩)
  ·rw [hall k (by simpa using hlen)] at h1;cases h1
  ·exact hend
end Go.Proofs.YtanioleniadhoaaGreat
