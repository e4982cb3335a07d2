/-
  One element is put at the end of a row that the call owns: s = append(s, x).
-/
import Derived.Test.YtanioleniadhoaaGreatAG08
import Derived.Test.YtanioleniadhoaaGreatASc
set_option linter.unusedVariables false
set_option linter.unusedSimpArgs false
set_option maxHeartbeats 1000000
set_option maxRecDepth 100000
namespace Go.Proofs.YtanioleniadhoaaGreat
open Go.RowKit
def Own1 (v:Value):Nat→Prop:=fun k=>v.ownBlock = some k
theorem Mod.own1 {v:Value} {w w':World} (h:w.grownBy w' v.ownBlock):Mod (Own1 v) w w':=⟨h.os,h.tape,h.output,h.size,fun k hk hn=>h.block k hk fun e=>hn e.symm⟩
theorem Own1.above {w:World} {base:Nat} {e:TypeId} {sz n:Nat} {v:Value} {xs:List Value} (h:w.ownsRow base e sz v n xs):∀ k,Own1 v k→base≤k∧k < w.heap.size:=fun k hk=>⟨(h.lt k hk).1,(h.lt k hk).2⟩
theorem Own1.blk {w:World} {base:Nat} {e:TypeId} {sz n:Nat} {v:Value} {xs:List Value} (h:w.ownsRow base e sz v n xs):∀ k,Own1 v k→∃ cs,Blk w k cs e:=fun k hk=>by
 rcases h.2 with ⟨rfl,_⟩ | ⟨g,cap,cur,rfl,_,hg,_⟩
 ·cases hk
 ·have e1:g = k:=by unfold Own1 Value.ownBlock at hk;simpa using hk
  subst e1;exact ⟨cur.toList,by simpa [Blk] using hg⟩
theorem run_app1 {P:Program} {t e:TypeId} {z:Value} {sz bytes:Nat} (ht:P.underlying t = some (.slice e)) (hi:(P.info? e).map (fun i=>(i.zero,i.size,i.bytes)) = some (some z,sz,bytes)) (hz:z.cells.size = sz) (hsz:0 < sz)
  {w:World} {base n:Nat} {v:Value} {xs:List Value} (hown:w.ownsRow base e sz v n xs) {news:List Value} (hl:news.length = sz) (h1:∀ u ∈ news,u.oneCell' = true) (hn:n≤1000000) (hby:bytes≤1000000) (hb:base≤w.heap.size) :
  ∃ va vc w',(Builtin.append_ #[t,t] t #[v,.slice (some ⟨w.heap.size,0,none⟩) 1 1]).run P (w.alloc (.cells news.toArray e)) = .ok (.slice va (n + 1) vc) w'∧w'.ownsRow base e sz (.slice va (n + 1) vc) (n + 1) (xs ++ news)∧Mod (Own1 v) w w':=by
 obtain ⟨i0,hi0,hz0,hz1,hz2⟩:=info_parts hi
 have hm:=Nat.mul_le_mul (show n + 1≤1000001 by omega) hby
 obtain ⟨g,gc,w',hr,ho,hg,_,_⟩:=run_append_lies (P:=P) (w.alloc (.cells news.toArray e)) t t base e i0 z sz bytes ht hi0 hz0 hz1 hz2 hz hsz v n xs (hown.alloc _) ⟨w.heap.size,0,none⟩ 1 1 news (by omega) (cells_new w news e) h1 (by omega) (by unfold maxLen;omega) (by omega) (by simp only [World.size_alloc];omega) _ rfl;refine ⟨_,gc,w',hr,ho,((Mod.refl _ w).alloc _).trans (Mod.own1 hg)⟩
def apartB (ops:Array Oper):Bool :=
 (List.range ops.size).all fun i=>match (ops[i]?).bind (·.dst) with
  | none=>true
  | some d=>(List.range ops.size).all fun j=>j == i || (ops[j]?).bind (·.dst) != some d
theorem apartB_spec {ops:Array Oper} (h:apartB ops = true) {i j d:Nat} (hi:i < ops.size) (hj:j < ops.size) (hne:j ≠ i) (hd:(ops[i]?).bind (·.dst) = some d):(ops[j]?).bind (·.dst) ≠ some d:=by
 unfold apartB at h;rw [List.all_eq_true] at h;have h1:=h i (List.mem_range.2 hi);rw [hd] at h1;simp only at h1;rw [List.all_eq_true] at h1;have h2:=h1 j (List.mem_range.2 hj);have hb:(j == i) = false:=by simpa using hne
 rw [hb,Bool.false_or] at h2;intro e;rw [e] at h2;simp at h2
def updv (xs:Nat→Value) (i:Nat) (v:Value):Nat→Value:=fun j=>if j = i then v else xs j
theorem put_put (a:Act) (d:Option Tmp) (u v:Value):(a.put d u).put d v = a.put d v:=by
 cases d with
 | none=>rfl
 | some d=>simp [Act.put]
theorem put_self (a:Act) (d:Option Tmp) (h:∀ t,d = some t→True):a.put d ((d.map fun t=>a.tmps.getD t undef).getD undef) = a:=by
 cases d with
 | none=>rfl
 | some d =>
  obtain ⟨tmps,defers⟩:=a;simp only [Act.put,Option.map_some,Option.getD_some]
  congr 1
  apply Array.ext_getElem?
  intro i;rw [Array.getElem?_setIfInBounds]
  split
  ·rename_i e
   subst e
   split
   ·rename_i h2;simp [Array.getD_eq_getD_getElem?,h2]
   ·rename_i h2;simp [Array.getElem?_eq_none (Nat.le_of_not_lt h2)]
  ·rfl
section
variable {ops : Array Oper}
theorem putAll_put (hs:apartB ops = true) {i:Nat} (hi:i < ops.size) (xs:Nat→Value) (v:Value):∀ (l:List Nat) (a:Act),l.Nodup→(∀ j ∈ l,j < ops.size)→i ∉ l →
  (putAll ops xs l a).put ((ops[i]?).bind (·.dst)) v = putAll ops (updv xs i v) l (a.put ((ops[i]?).bind (·.dst)) v)
 | [],_,_,_,_=>rfl
 | j :: l,a,hn,hl,hm=>by
  obtain ⟨hj,hn'⟩:=List.nodup_cons.1 hn;have hji:j ≠ i:=fun e=>hm (by rw [e];exact List.mem_cons_self ..);simp only [putAll];rw [putAll_put hs hi xs v l _ hn' (fun k hk=>hl k (List.mem_cons_of_mem _ hk)) (fun h=>hm (List.mem_cons_of_mem _ h))];rw [show updv xs i v j = xs j by unfold updv;rw [if_neg hji]]
  congr 1
  exact Act.put_comm a _ _ fun d hd=>fun e=>apartB_spec hs (hl j (List.mem_cons_self ..)) hi (Ne.symm hji) hd e
theorem putAll_upd (hs:apartB ops = true) {i:Nat} (hi:i < ops.size) (xs:Nat→Value) (v:Value):∀ (l:List Nat) (a:Act),l.Nodup→(∀ j ∈ l,j < ops.size)→i ∈ l →
  (putAll ops xs l a).put ((ops[i]?).bind (·.dst)) v = putAll ops (updv xs i v) l a
 | [],_,_,_,h=>by cases h
 | j :: l,a,hn,hl,hm=>by
  obtain ⟨hj,hn'⟩:=List.nodup_cons.1 hn;simp only [putAll];by_cases e:j = i
  ·subst e;rw [putAll_put hs hi xs v l _ hn' (fun k hk=>hl k (List.mem_cons_of_mem _ hk)) hj,put_put];rw [show updv xs j v j = v by unfold updv;rw [if_pos rfl]]
  ·have hm':i ∈ l:=by
    rcases List.mem_cons.1 hm with q | q
    ·exact (e q.symm).elim
    ·exact q
   rw [putAll_upd hs hi xs v l _ hn' (fun k hk=>hl k (List.mem_cons_of_mem _ hk)) hm'];rw [show updv xs i v j = xs j by unfold updv;rw [if_neg e]]
theorem putAll_self (a:Act):∀ (l:List Nat),putAll ops (fun i=>(((ops[i]?).bind (·.dst)).map fun t=>a.tmps.getD t undef).getD undef) l a = a
 | []=>rfl
 | i :: l=>by
  simp only [putAll];rw [put_self a _ (fun _ _=>trivial)];exact putAll_self a l
end
def waitsB (ops:Array Oper) (i j:Nat):Bool:=match ops[i]? with
 | none=>false
 | some o=>o.after.any fun e=>Region.binds .any e && e.on == j
theorem waitsB_spec {ops:Array Oper} {i j:Nat} {o:Oper} (ho:ops[i]? = some o) (h:waitsB ops i j = true):∃ e ∈ o.after,Region.binds .any e = true∧e.on = j:=by
 unfold waitsB at h;rw [ho] at h;obtain ⟨e,he,h2⟩:=Array.any_eq_true'.1 h;simp only [Bool.and_eq_true,beq_iff_eq] at h2;exact ⟨e,he,h2.1,h2.2⟩
theorem wp_region_facts {P:Program} {id:Nat} {L:List Oper} {Q:Exit→Act→World→Prop} {a:Act} {w:World} (F:Nat→Value→World→Prop) (R:World→World→Prop) (A:(Nat→Value)→Act)
  (hm:P.follows .mixedOrders = true) (hs:apartB L.toArray = true) (hord:orderB L.toArray = true)
  (hrefl:∀ w,R w w) (htrans:∀ a b c,R a b→R b c→R a c) (hst:∀ i v w w',F i v w→R w w'→F i v w')
  (hA:∀ xs,putAll L.toArray xs (List.range L.toArray.size) a = A xs)
  (hstep:AllFrom (fun i o=>∀ (xs:Nat→Value) (w':World),R w.drew w'→(∀ j,waitsB L.toArray i j = true→F j (xs j) w')→∀ K:Act→World→Prop,(∀ v w'',F i v w''→R w' w''→K ((A xs).put o.dst v) w'') →
   if Region.wanted o (yielded L.toArray (A xs).tmps) = true then Oper.wp P o (A xs) w' K Q else K ((A xs).put o.dst undef) w') 0 L)
  (hend:∀ xs w',R w.drew w'→(∀ i,i < L.toArray.size→F i (xs i) w')→Q .normal (A xs) w') :
  (Code.region id L.toArray true).wp P Q a w:=by
 refine wp_region_any hm ?_
 have key:∀ (fuel:Nat) (listed:Array Bool) (a':Act) (w':World) (xs:Nat→Value),listed.size = L.toArray.size→((List.range L.toArray.size).filter fun j=>!listed.getD j false).length = fuel →
   a' = putAll L.toArray xs (List.range L.toArray.size) a→R w.drew w'→(∀ i,listed.getD i false = true→F i (xs i) w') →
   wpAny P .any L.toArray Q fuel listed a' w':=by
  intro fuel
  induction fuel with
  | zero =>
   intro listed a' w' xs hsz hlen hput hR hF;have hnil:=List.length_eq_zero_iff.1 hlen
   have hall:∀ i,i < L.toArray.size→listed.getD i false = true:=fun i hi=>by
    cases hb:listed.getD i false with
    | true=>rfl
    | false =>
     have:i ∈ (List.range L.toArray.size).filter fun j=>!listed.getD j false:=List.mem_filter.2 ⟨List.mem_range.2 hi,by rw [hb];rfl⟩;rw [hnil] at this
     cases this
   refine ⟨?_,?_⟩
   ·rw [List.eq_nil_iff_forall_not_mem];intro j hj;obtain ⟨h1,o,ho,_⟩:=mem_ready.1 hj;have hlt:=(Array.getElem?_eq_some_iff.1 ho).1;have h2:=hall j hlt;simp only [Array.getD_eq_getD_getElem?,Array.getElem?_eq_getElem (show j < listed.size by omega),Option.getD_some] at h1 h2;rw [h1] at h2;cases h2
   ·subst hput;rw [hA];exact hend _ _ hR (fun i hi=>hF i (hall i hi))
  | succ fuel ih =>
   intro listed a' w' xs hsz hlen hput hR hF;refine ⟨fun hnil=>?_,?_⟩
   ·exfalso
    have hall:=ready_some hord hsz hnil
    have:((List.range L.toArray.size).filter fun j=>!listed.getD j false) = []:=List.filter_eq_nil_iff.2 fun j hj=>by
     rw [hall j (List.mem_range.1 hj)];simp
    rw [this] at hlen
    cases hlen
   ·intro i hi;obtain ⟨h1,o,ho,hdeps⟩:=mem_ready.1 hi;have hlt:=(Array.getElem?_eq_some_iff.1 ho).1;have hf:listed.getD i false = false:=getD_low h1;have hin:i ∈ (List.range L.toArray.size).filter fun j=>!listed.getD j false:=List.mem_filter.2 ⟨List.mem_range.2 hlt,by rw [hf];rfl⟩;have hnd:((List.range L.toArray.size).filter fun j=>!listed.getD j false).Nodup:=List.nodup_range.filter _
    have hset:∀ j,(listed.setIfInBounds i true).getD j false = if j = i then true else listed.getD j false:=by
     intro j;by_cases e:j = i
     ·subst e;rw [if_pos rfl];simp [Array.getD_eq_getD_getElem?,show j < listed.size by omega]
     ·rw [if_neg e,getD_set_ne _ (Ne.symm e)]
    have hrem:((List.range L.toArray.size).filter fun j=>!(listed.setIfInBounds i true).getD j false) = ((List.range L.toArray.size).filter fun j=>!listed.getD j false).filter (· != i):=by
     rw [List.filter_filter];refine List.filter_congr fun j _=>?_;rw [hset];by_cases e:j = i
     ·subst e;simp
     ·have:(j != i) = true:=by simpa using e
      rw [if_neg e,this];simp
    have hst':=(AllFrom.get hstep i o (by simpa using ho));rw [Nat.zero_add] at hst';subst hput;refine wpOp_step ho ?_;intro K' hK';rw [hA];refine hst' xs w' hR (fun j hj=>by obtain ⟨e,he,hb,hon⟩:=waitsB_spec ho hj;rw [← hon];exact hF e.on (hdeps e he hb)) K' ?_;intro v w'' hFv hRw;refine hK' _ _ ?_;rw [← hA]
    have hdo:(L.toArray[i]?).bind (·.dst) = o.dst:=by rw [ho];rfl
    refine ih _ _ _ (updv xs i v) (by simp [hsz]) ?_ ?_ (htrans _ _ _ hR hRw) ?_
    ·rw [hrem];have h4:=List.length_erase_of_mem hin;rw [hnd.erase_eq_filter] at h4;rw [h4,hlen];rfl
    ·rw [← hdo];exact putAll_upd hs hlt xs v _ _ List.nodup_range (fun j hj=>List.mem_range.1 hj) (List.mem_range.2 hlt)
    ·intro j hj;rw [hset] at hj;unfold updv
     split
     ·rename_i e;subst e;exact hFv
     ·rename_i e
      rw [if_neg e] at hj;exact hst _ _ _ _ (hF j hj) hRw
 have hz:∀ j,(Array.replicate L.toArray.size false).getD j false = false:=fun j=>by
  simp only [Array.getD_eq_getD_getElem?,Array.getElem?_replicate]
  split <;> rfl
 have hfil:((List.range L.toArray.size).filter fun j=>!(Array.replicate L.toArray.size false).getD j false) = List.range L.toArray.size:=List.filter_eq_self.2 fun j _=>by rw [hz];rfl
 refine key _ _ _ _ (fun i=>(((L.toArray[i]?).bind (·.dst)).map fun t=>a.tmps.getD t undef).getD undef) (by simp) ?_ (putAll_self a _).symm (hrefl _) ?_
 ·rw [hfil];simp
 ·intro i hi;rw [hz] at hi;cases hi
theorem wp_region_calm {P:Program} {id:Nat} {L:List Oper} {Q:Exit→Act→World→Prop} {a:Act} {w:World} (F:Nat→Value→World→Prop) (A:(Nat→Value)→Act)
  (hm:P.follows .mixedOrders = true) (hs:apartB L.toArray = true) (hord:orderB L.toArray = true)
  (hA:∀ xs,putAll L.toArray xs (List.range L.toArray.size) a = A xs)
  (hstep:AllFrom (fun i o=>∀ (xs:Nat→Value) (w':World),Mod Nowhere w.drew w'→(∀ j,waitsB L.toArray i j = true→∀ W,Mod Nowhere w' W→F j (xs j) W)→∀ K:Act→World→Prop,(∀ v w'',(∀ W,Mod Nowhere w'' W→F i v W)→Mod Nowhere w' w''→K ((A xs).put o.dst v) w'') →
   if Region.wanted o (yielded L.toArray (A xs).tmps) = true then Oper.wp P o (A xs) w' K Q else K ((A xs).put o.dst undef) w') 0 L)
  (hend:∀ xs w',Mod Nowhere w.drew w'→(∀ i,i < L.toArray.size→∀ W,Mod Nowhere w' W→F i (xs i) W)→Q .normal (A xs) w') :
  (Code.region id L.toArray true).wp P Q a w :=
 wp_region_facts (fun i v w'=>∀ W,Mod Nowhere w' W→F i v W) (Mod Nowhere) A hm hs hord (Mod.refl Nowhere) (fun _ _ _=>Mod.trans) (fun _ _ _ _ h hm W hW=>h W (hm.trans hW)) hA hstep hend
def memN:List Nat→Nat→Bool
 | [],_=>false
 | a :: l,j=>if j = a then true else memN l j
theorem memN_iff {l:List Nat} {j:Nat}:memN l j = true ↔ j ∈ l:=by
 induction l with
 | nil=>simp [memN]
 | cons a l ih =>
  unfold memN;by_cases h:j = a
  ·rw [if_pos h,h];simp
  ·rw [if_neg h,ih,List.mem_cons];exact ⟨.inr,fun e=>e.resolve_left h⟩
def mixD (V:Nat→Option Value) (d:List Nat) (ys:Nat→Value):Nat→Value:=fun j=>if memN d j = true then (V j).getD (ys j) else ys j
def mixN (V:Nat→Option Value) (n:Nat) (ys:Nat→Value):Nat→Value:=fun j=>if j < n then (V j).getD (ys j) else ys j
attribute [go_sem] mixD memN mixN Option.getD_some Option.getD_none
def depsOk (ops:Array Oper) (D:Nat→List Nat):Bool:=(List.range ops.size).all fun i=>(D i).all fun j=>waitsB ops i j
theorem depsOk_spec {ops:Array Oper} {D:Nat→List Nat} (h:depsOk ops D = true) {i j:Nat} (hi:i < ops.size) (hj:j ∈ D i):waitsB ops i j = true:=by
 unfold depsOk at h;rw [List.all_eq_true] at h;have:=h i (List.mem_range.2 hi);rw [List.all_eq_true] at this;exact this j hj
def known (V:Nat→Option Value) (F:Nat→Value→World→Prop) (i:Nat) (v:Value) (W:World):Prop:=match V i with
 | some c=>v = c
 | none=>F i v W
theorem mixD_eq {V:Nat→Option Value} {F:Nat→Value→World→Prop} {d:List Nat} {xs:Nat→Value} {w:World} (h:∀ j,j ∈ d→known V F j (xs j) w):mixD V d xs = xs:=by
 funext j
 unfold mixD
 split
 ·rename_i hm
  have:=h j (memN_iff.1 hm);unfold known at this
  cases hv:V j with
  | none=>rfl
  | some c=>rw [hv] at this;exact this.symm
 ·rfl
theorem mixN_eq {V:Nat→Option Value} {F:Nat→Value→World→Prop} {n:Nat} {xs:Nat→Value} {w:World} (h:∀ j,j < n→known V F j (xs j) w):mixN V n xs = xs:=by
 funext j
 unfold mixN
 split
 ·rename_i hm
  have:=h j hm;unfold known at this
  cases hv:V j with
  | none=>rfl
  | some c=>rw [hv] at this;exact this.symm
 ·rfl
theorem AllFrom.imp {p q:Nat→Oper→Prop}:∀ (n:Nat) (L:List Oper),(∀ i o,n≤i→i < n + L.length→p i o→q i o)→AllFrom p n L→AllFrom q n L
 | _,[],_,_=>trivial
 | n,o :: L,h,⟨h1,h2⟩=>⟨h n o (Nat.le_refl _) (by rw [List.length_cons];omega) h1,AllFrom.imp (n + 1) L (fun i o a b=>h i o (by omega) (by rw [List.length_cons];omega)) h2⟩
theorem wp_region_vals {P:Program} {id:Nat} {L:List Oper} {Q:Exit→Act→World→Prop} {a:Act} {w:World} (V:Nat→Option Value) (D:Nat→List Nat) (n:Nat) (F:Nat→Value→World→Prop) (A:(Nat→Value)→Act)
  (hm:P.follows .mixedOrders = true) (hs:apartB L.toArray = true) (hord:orderB L.toArray = true) (hD:depsOk L.toArray D = true) (hn:L.length = n)
  (hA:∀ xs,putAll L.toArray xs (List.range L.toArray.size) a = A xs)
  (hstep:AllFrom (fun i o=>∀ (xs:Nat→Value) (w':World),Mod Nowhere w.drew w'→(∀ j,j ∈ D i→∀ W,Mod Nowhere w' W→known V F j (xs j) W)→∀ K:Act→World→Prop,(∀ v w'',(∀ W,Mod Nowhere w'' W→known V F i v W)→Mod Nowhere w' w''→K ((A (mixD V (D i) xs)).put o.dst v) w'') →
   if Region.wanted o (yielded L.toArray (A (mixD V (D i) xs)).tmps) = true then Oper.wp P o (A (mixD V (D i) xs)) w' K Q else K ((A (mixD V (D i) xs)).put o.dst undef) w') 0 L)
  (hend:∀ xs w',Mod Nowhere w.drew w'→(∀ i,i < n→∀ W,Mod Nowhere w' W→known V F i (xs i) W)→Q .normal (A (mixN V n xs)) w') :
  (Code.region id L.toArray true).wp P Q a w:=by
 subst hn;refine wp_region_calm (known V F) A hm hs hord hA (AllFrom.imp 0 L (fun i o _ hi h xs w' hR hF K hK=>?_) hstep) (fun xs w' hR hF=>?_)
 ·have hd:∀ j,j ∈ D i→∀ W,Mod Nowhere w' W→known V F j (xs j) W:=fun j hj=>hF j (depsOk_spec hD (by rw [List.size_toArray];omega) hj);have e:=mixD_eq fun j hj=>hd j hj w' (Mod.refl _ _);have h1:=h xs w' hR hd K;rw [e] at h1;exact h1 hK
 ·have hd:∀ i,i < L.length→∀ W,Mod Nowhere w' W→known V F i (xs i) W:=fun i hi=>hF i (by rw [List.size_toArray];exact hi);have e:=mixN_eq (V:=V) (F:=F) (n:=L.length) (xs:=xs) (w:=w') fun j hj=>hd j hj w' (Mod.refl _ _);have h1:=hend xs w' hR hd;rw [e] at h1;exact h1
namespace Cy
def num4 (l:List Nat) (i:Nat):Nat:=l.getD i 0 * 16777216 + l.getD (i + 1) 0 * 65536 + l.getD (i + 2) 0 * 256 + l.getD (i + 3) 0
def fB (x k:Nat):Nat:=(((x + k) % 4294967296 * 2654435761 % 4294967296) ^^^ ((x + k) % 4294967296 * 2654435761 % 4294967296 / 32768)) * 2246822519 % 4294967296
def rk (key:List Nat) (i:Nat):Nat:=(num4 key (4 * (i % 4)) + i * 2654435769) % 4294967296
def rds (key:List Nat) (l r:Nat):Nat→Nat × Nat
 | 0=>(l,r)
 | i + 1=>((rds key l r i).2,(rds key l r i).1 ^^^ fB (rds key l r i).2 (rk key i))
def by4 (n:Nat):List Nat:=[n / 16777216 % 256,n / 65536 % 256,n / 256 % 256,n % 256]
def encB (key blk:List Nat):List Nat:=by4 (rds key (num4 blk 0) (num4 blk 4) 16).2 ++ by4 (rds key (num4 blk 0) (num4 blk 4) 16).1
theorem getD_lt {l:List Nat} (h:∀ x ∈ l,x < 256) (i:Nat):l.getD i 0 < 256:=by
 rw [gd0];by_cases hi:i < l.length
 ·rw [List.getElem?_eq_getElem hi];exact h _ (List.getElem_mem hi)
 ·rw [List.getElem?_eq_none (by omega)];decide
theorem num4_lt {l:List Nat} (h:∀ x ∈ l,x < 256) (i:Nat):num4 l i < 4294967296:=by
 have:=getD_lt h i;have:=getD_lt h (i + 1);have:=getD_lt h (i + 2);have:=getD_lt h (i + 3);unfold num4;omega
theorem fB_lt (x k:Nat):fB x k < 4294967296:=Nat.mod_lt _ (by decide)
theorem rds_lt {key:List Nat} {l r:Nat} (hl:l < 4294967296) (hr:r < 4294967296):∀ i,(rds key l r i).1 < 4294967296∧(rds key l r i).2 < 4294967296
 | 0=>⟨hl,hr⟩
 | i + 1=>⟨(rds_lt hl hr i).2,Nat.xor_lt_two_pow (n:=32) (rds_lt hl hr i).1 (fB_lt _ _)⟩
theorem encB_len (key blk:List Nat):(encB key blk).length = 8:=rfl
theorem by4_lt (n:Nat):∀ x ∈ by4 n,x < 256:=by
 intro x hx;unfold by4 at hx;simp only [List.mem_cons,List.not_mem_nil,or_false] at hx;omega
theorem encB_lt (key blk:List Nat):∀ x ∈ encB key blk,x < 256:=by
 intro x hx;rcases List.mem_append.1 hx with h | h
 ·exact by4_lt _ x h
 ·exact by4_lt _ x h
theorem or4 {a b c d:Nat} (ha:a < 256) (hb:b < 256) (hc:c < 256) (hd:d < 256):a * 16777216 ||| b * 65536 ||| c * 256 ||| d = a * 16777216 + b * 65536 + c * 256 + d:=by
 have e1:a * 16777216 ||| b * 65536 = a * 16777216 + b * 65536:=by
  have:=Nat.shiftLeft_add_eq_or_of_lt (a:=a) (b:=b * 65536) (i:=24) (by omega);rw [Nat.shiftLeft_eq] at this;exact this.symm
 have m2:(a * 256 + b) * 65536 = a * 16777216 + b * 65536:=by rw [Nat.add_mul,Nat.mul_assoc]
 have m3:(a * 65536 + b * 256 + c) * 256 = a * 16777216 + b * 65536 + c * 256:=by rw [Nat.add_mul,Nat.add_mul,Nat.mul_assoc,Nat.mul_assoc]
 have e2:(a * 16777216 + b * 65536) ||| c * 256 = a * 16777216 + b * 65536 + c * 256:=by
  have:=Nat.shiftLeft_add_eq_or_of_lt (a:=a * 256 + b) (b:=c * 256) (i:=16) (by omega);rw [Nat.shiftLeft_eq,show (2:Nat) ^ 16 = 65536 from rfl,m2] at this;exact this.symm
 have e3:(a * 16777216 + b * 65536 + c * 256) ||| d = a * 16777216 + b * 65536 + c * 256 + d:=by
  have:=Nat.shiftLeft_add_eq_or_of_lt (a:=a * 65536 + b * 256 + c) (b:=d) (i:=8) (by omega);rw [Nat.shiftLeft_eq,show (2:Nat) ^ 8 = 256 from rfl,m3] at this;exact this.symm
 rw [e1,e2,e3]
end Cy
end Go.Proofs.YtanioleniadhoaaGreat
namespace Go.Proofs.YtanioleniadhoaaGreat
open Go.RowKit
attribute [local go_sem] Oper.semAt_some
theorem fB_T (T:Nat) (hT:T < 4294967296):bits BinOp.xor IntKind.u32 (T:Int) ((T:Int) / 32768) * 2246822519 % 4294967296 = (((T ^^^ (T / 32768)) * 2246822519 % 4294967296:Nat):Int):=by
 have e2:((T:Int) / 32768) = ((T / 32768:Nat):Int):=by omega
 rw [e2,u32_xor_nat T (T / 32768) hT (by omega)];generalize T ^^^ (T / 32768) = X;omega
theorem fB_bits (x k:Nat):bits BinOp.xor IntKind.u32 (((x:Int) + k) % 4294967296 * 2654435761 % 4294967296) (((x:Int) + k) % 4294967296 * 2654435761 % 4294967296 / 32768) * 2246822519 % 4294967296 = ((Cy.fB x k:Nat):Int):=by
 have e:((x:Int) + k) % 4294967296 * 2654435761 % 4294967296 = (((x + k) % 4294967296 * 2654435761 % 4294967296:Nat):Int):=by omega
 rw [e,fB_T _ (Nat.mod_lt _ (by decide))];unfold Cy.fB;exact Eq.refl _
theorem cf_ok (w:World) (x k:Nat):Calls Tryz.prog 332 #[.int .u32 (x:Int),.int .u32 (k:Int)] w fun e w'=>e = .returned (.int .u32 (Cy.fB x k:Nat))∧w' = w:=by
 go_enter Tryz.func332,Tryz.ntmps332;go_wp2;go_ret;exact ⟨congrArg (fun z=>Ending.returned (Value.int .u32 z)) (fB_bits x k),rfl⟩
theorem cmix_ok (w:World) (x k:Nat):Calls Tryz.prog 286 #[.int .u32 (x:Int),.int .u32 (k:Int)] w fun e w'=>e = .returned (.int .u32 (Cy.fB x k:Nat))∧w' = w:=by
 go_enter Tryz.func286,Tryz.ntmps286;go_wp2;go_ret;exact ⟨congrArg (fun z=>Ending.returned (Value.int .u32 z)) (fB_bits x k),rfl⟩
theorem or_1 (a b:Nat) (ha:a < 256) (hb:b < 256):bits .or .u32 ((a:Int) * 16777216) ((b:Int) * 65536) = (a:Int) * 16777216 + (b:Int) * 65536:=by
 have e:=Cy.or4 ha hb (by decide:0 < 256) (by decide:0 < 256);have h:=u32_or_nat (a * 16777216) (b * 65536) (by omega) (by omega);simp only [Nat.zero_mul,Nat.or_zero,Nat.add_zero] at e;rw [e] at h;rw [Int.natCast_mul,Int.natCast_mul,Int.natCast_add,Int.natCast_mul,Int.natCast_mul] at h;exact h
theorem or_2 (a b c:Nat) (ha:a < 256) (hb:b < 256) (hc:c < 256):bits .or .u32 ((a:Int) * 16777216 + (b:Int) * 65536) ((c:Int) * 256) = (a:Int) * 16777216 + (b:Int) * 65536 + (c:Int) * 256:=by
 have e1:=Cy.or4 ha hb (by decide:0 < 256) (by decide:0 < 256);have e:=Cy.or4 ha hb hc (by decide:0 < 256);have h:=u32_or_nat (a * 16777216 + b * 65536) (c * 256) (by omega) (by omega);simp only [Nat.zero_mul,Nat.or_zero,Nat.add_zero] at e e1;rw [e1] at e;rw [e] at h;simp only [Int.natCast_mul,Int.natCast_add] at h;exact h
theorem or_3 (a b c d:Nat) (ha:a < 256) (hb:b < 256) (hc:c < 256) (hd:d < 256):bits .or .u32 ((a:Int) * 16777216 + (b:Int) * 65536 + (c:Int) * 256) (d:Int) = (a:Int) * 16777216 + (b:Int) * 65536 + (c:Int) * 256 + (d:Int):=by
 have e1:=Cy.or4 ha hb hc (by decide:0 < 256);have e:=Cy.or4 ha hb hc hd;have h:=u32_or_nat (a * 16777216 + b * 65536 + c * 256) d (by omega) (by omega);simp only [Nat.zero_mul,Nat.or_zero,Nat.add_zero] at e1;rw [e1] at e;rw [e] at h;simp only [Int.natCast_mul,Int.natCast_add] at h;exact h
theorem cnum_ok (w:World) (b off cap:Nat) (x0 x1 x2 x3:Nat) (hcl:∀ w',Mod Nowhere w w'→w'.cell? ⟨b,off,none⟩ = some (.int .u8 (x0:Int))∧w'.cell? ⟨b,off + 1,none⟩ = some (.int .u8 (x1:Int))∧w'.cell? ⟨b,off + 2,none⟩ = some (.int .u8 (x2:Int))∧w'.cell? ⟨b,off + 3,none⟩ = some (.int .u8 (x3:Int)))
  (h0:x0 < 256) (h1:x1 < 256) (h2:x2 < 256) (h3:x3 < 256) :
  Calls Tryz.prog 310 #[.slice (some ⟨b,off,none⟩) 4 cap] w fun e w'=>e = .returned (.int .u32 ((x0 * 16777216 + x1 * 65536 + x2 * 256 + x3:Nat):Int))∧Mod Nowhere w w':=by
 replace hcl:=Lib.hid hcl;go_enter Tryz.func310,Tryz.ntmps310;go_wp2_with fail;refine wp_region_vals (fun i=>match i with | 0=>some (.slice (some ⟨b,off,none⟩) 4 cap) | 1=>some (.pointer (some ⟨b,off,none⟩)) | 2=>some (.int .u8 (x0:Int)) | 3=>some (.int .u32 (x0:Int)) | 4=>some (.int .u32 ((x0 * 16777216:Nat):Int)) | 5=>some (.slice (some ⟨b,off,none⟩) 4 cap) | 6=>some (.pointer (some ⟨b,off + 1,none⟩)) | 7=>some (.int .u8 (x1:Int)) | 8=>some (.int .u32 (x1:Int)) | 9=>some (.int .u32 ((x1 * 65536:Nat):Int)) | 10=>some (.int .u32 ((x0 * 16777216 + x1 * 65536:Nat):Int)) | 11=>some (.slice (some ⟨b,off,none⟩) 4 cap) | 12=>some (.pointer (some ⟨b,off + 2,none⟩)) | 13=>some (.int .u8 (x2:Int)) | 14=>some (.int .u32 (x2:Int)) | 15=>some (.int .u32 ((x2 * 256:Nat):Int)) | 16=>some (.int .u32 ((x0 * 16777216 + x1 * 65536 + x2 * 256:Nat):Int)) | 17=>some (.slice (some ⟨b,off,none⟩) 4 cap) | 18=>some (.pointer (some ⟨b,off + 3,none⟩)) | 19=>some (.int .u8 (x3:Int)) | 20=>some (.int .u32 (x3:Int)) | 21=>some (.int .u32 ((x0 * 16777216 + x1 * 65536 + x2 * 256 + x3:Nat):Int)) | 22=>some (.int .u32 ((x0 * 16777216 + x1 * 65536 + x2 * 256 + x3:Nat):Int)) | _=>none) (fun i=>match i with | 1=>[0] | 2=>[1] | 3=>[2] | 4=>[3] | 6=>[5] | 7=>[6] | 8=>[7] | 9=>[8] | 10=>[4,9] | 12=>[11] | 13=>[12] | 14=>[13] | 15=>[14] | 16=>[10,15] | 18=>[17] | 19=>[18] | 20=>[19] | 21=>[16,20] | 22=>[21,0,1,2,3,4,5,6,7,8,9,10,11,12,13,14,15,16,17,18,19,20] | _=>[]) 23 (fun _ _ _=>True) ?A_1_0 (by first | assumption | kernel_rfl) (by kernel_rfl) (by kernel_rfl) (by kernel_rfl) (by rfl) ?hA_1_0 ?hS_1_0 ?hE_1_0
 case hA_1_0=>intro xs;simp [putAll,List.range,List.range.loop,Act.put] <;> rfl
 case hS_1_0 =>
  refine ⟨?_,?_,?q2_1_0,?q3_1_0,?q4_1_0,?_,?_,?q7_1_0,?q8_1_0,?q9_1_0,?q10_1_0,?_,?_,?q13_1_0,?q14_1_0,?q15_1_0,?q16_1_0,?_,?_,?q19_1_0,?q20_1_0,?q21_1_0,?_,trivial⟩
  case q2_1_0 =>
   intro yv w' hR hF K hK;clear hF;have hm1:=(Mod.refl Nowhere w).drew.trans hR;obtain ⟨z0,z1,z2,z3⟩:=hcl.out w' hm1
   go_simp
   exact hK _ _ (fun _ _=>rfl) (Mod.refl _ _)
  case q3_1_0 =>
   intro yv w' hR hF K hK;clear hF
   go_simp
   exact hK _ _ (fun _ _=>by show _ = _;simp;rw [IntKind.wrap_u32];omega) (Mod.refl _ _)
  case q4_1_0 =>
   intro yv w' hR hF K hK;clear hF
   go_simp
   exact hK _ _ (fun _ _=>by show _ = _;simp;rw [IntKind.wrap_u32];omega) (Mod.refl _ _)
  case q7_1_0 =>
   intro yv w' hR hF K hK;clear hF;have hm1:=(Mod.refl Nowhere w).drew.trans hR;obtain ⟨z0,z1,z2,z3⟩:=hcl.out w' hm1
   go_simp
   exact hK _ _ (fun _ _=>rfl) (Mod.refl _ _)
  case q8_1_0 =>
   intro yv w' hR hF K hK;clear hF
   go_simp
   exact hK _ _ (fun _ _=>by show _ = _;simp;rw [IntKind.wrap_u32];omega) (Mod.refl _ _)
  case q9_1_0 =>
   intro yv w' hR hF K hK;clear hF
   go_simp
   exact hK _ _ (fun _ _=>by show _ = _;simp;rw [IntKind.wrap_u32];omega) (Mod.refl _ _)
  case q10_1_0 =>
   intro yv w' hR hF K hK;clear hF
   go_simp
   exact hK _ _ (fun _ _=>by show _ = _;simp;exact or_1 x0 x1 h0 h1) (Mod.refl _ _)
  case q13_1_0 =>
   intro yv w' hR hF K hK;clear hF;have hm1:=(Mod.refl Nowhere w).drew.trans hR;obtain ⟨z0,z1,z2,z3⟩:=hcl.out w' hm1
   go_simp
   exact hK _ _ (fun _ _=>rfl) (Mod.refl _ _)
  case q14_1_0 =>
   intro yv w' hR hF K hK;clear hF
   go_simp
   exact hK _ _ (fun _ _=>by show _ = _;simp;rw [IntKind.wrap_u32];omega) (Mod.refl _ _)
  case q15_1_0 =>
   intro yv w' hR hF K hK;clear hF
   go_simp
   exact hK _ _ (fun _ _=>by show _ = _;simp;rw [IntKind.wrap_u32];omega) (Mod.refl _ _)
  case q16_1_0 =>
   intro yv w' hR hF K hK;clear hF
   go_simp
   exact hK _ _ (fun _ _=>by show _ = _;simp;exact or_2 x0 x1 x2 h0 h1 h2) (Mod.refl _ _)
  case q19_1_0 =>
   intro yv w' hR hF K hK;clear hF;have hm1:=(Mod.refl Nowhere w).drew.trans hR;obtain ⟨z0,z1,z2,z3⟩:=hcl.out w' hm1
   go_simp
   exact hK _ _ (fun _ _=>rfl) (Mod.refl _ _)
  case q20_1_0 =>
   intro yv w' hR hF K hK;clear hF
   go_simp
   exact hK _ _ (fun _ _=>by show _ = _;simp;rw [IntKind.wrap_u32];omega) (Mod.refl _ _)
  case q21_1_0 =>
   intro yv w' hR hF K hK;clear hF
   go_simp
   exact hK _ _ (fun _ _=>by show _ = _;simp;exact or_3 x0 x1 x2 x3 h0 h1 h2 h3) (Mod.refl _ _)
  all_goals
   intro yv w' hR hF K hK;clear hF
   go_simp
   exact hK _ _ (fun _ _=>by first | trivial | exact rfl | simp [*,known]) (Mod.refl _ _)
 case hE_1_0 =>
  intro yv w' hR hF;clear hF;simp only [mixN,Option.getD_some,Option.getD_none,Nat.reduceLT,if_true];go_wp2;go_ret;exact ⟨rfl,(Mod.refl Nowhere w).drew.trans hR⟩
theorem rnum_ok (w:World) (b off cap:Nat) (x0 x1 x2 x3:Nat) (hcl:∀ w',Mod Nowhere w w'→w'.cell? ⟨b,off,none⟩ = some (.int .u8 (x0:Int))∧w'.cell? ⟨b,off + 1,none⟩ = some (.int .u8 (x1:Int))∧w'.cell? ⟨b,off + 2,none⟩ = some (.int .u8 (x2:Int))∧w'.cell? ⟨b,off + 3,none⟩ = some (.int .u8 (x3:Int)))
  (h0:x0 < 256) (h1:x1 < 256) (h2:x2 < 256) (h3:x3 < 256) :
  Calls Tryz.prog 285 #[.slice (some ⟨b,off,none⟩) 4 cap] w fun e w'=>e = .returned (.int .u32 ((x0 * 16777216 + x1 * 65536 + x2 * 256 + x3:Nat):Int))∧Mod Nowhere w w':=by
 replace hcl:=Lib.hid hcl;go_enter Tryz.func285,Tryz.ntmps285;go_wp2_with fail;refine wp_region_vals (fun i=>match i with | 0=>some (.slice (some ⟨b,off,none⟩) 4 cap) | 1=>some (.pointer (some ⟨b,off,none⟩)) | 2=>some (.int .u8 (x0:Int)) | 3=>some (.int .u32 (x0:Int)) | 4=>some (.int .u32 ((x0 * 16777216:Nat):Int)) | 5=>some (.slice (some ⟨b,off,none⟩) 4 cap) | 6=>some (.pointer (some ⟨b,off + 1,none⟩)) | 7=>some (.int .u8 (x1:Int)) | 8=>some (.int .u32 (x1:Int)) | 9=>some (.int .u32 ((x1 * 65536:Nat):Int)) | 10=>some (.int .u32 ((x0 * 16777216 + x1 * 65536:Nat):Int)) | 11=>some (.slice (some ⟨b,off,none⟩) 4 cap) | 12=>some (.pointer (some ⟨b,off + 2,none⟩)) | 13=>some (.int .u8 (x2:Int)) | 14=>some (.int .u32 (x2:Int)) | 15=>some (.int .u32 ((x2 * 256:Nat):Int)) | 16=>some (.int .u32 ((x0 * 16777216 + x1 * 65536 + x2 * 256:Nat):Int)) | 17=>some (.slice (some ⟨b,off,none⟩) 4 cap) | 18=>some (.pointer (some ⟨b,off + 3,none⟩)) | 19=>some (.int .u8 (x3:Int)) | 20=>some (.int .u32 (x3:Int)) | 21=>some (.int .u32 ((x0 * 16777216 + x1 * 65536 + x2 * 256 + x3:Nat):Int)) | 22=>some (.int .u32 ((x0 * 16777216 + x1 * 65536 + x2 * 256 + x3:Nat):Int)) | _=>none) (fun i=>match i with | 1=>[0] | 2=>[1] | 3=>[2] | 4=>[3] | 6=>[5] | 7=>[6] | 8=>[7] | 9=>[8] | 10=>[4,9] | 12=>[11] | 13=>[12] | 14=>[13] | 15=>[14] | 16=>[10,15] | 18=>[17] | 19=>[18] | 20=>[19] | 21=>[16,20] | 22=>[21,0,1,2,3,4,5,6,7,8,9,10,11,12,13,14,15,16,17,18,19,20] | _=>[]) 23 (fun _ _ _=>True) ?A_1_1 (by first | assumption | kernel_rfl) (by kernel_rfl) (by kernel_rfl) (by kernel_rfl) (by rfl) ?hA_1_1 ?hS_1_1 ?hE_1_1
 case hA_1_1=>intro xs;simp [putAll,List.range,List.range.loop,Act.put] <;> rfl
 case hS_1_1 =>
  refine ⟨?_,?_,?q2_1_1,?q3_1_1,?q4_1_1,?_,?_,?q7_1_1,?q8_1_1,?q9_1_1,?q10_1_1,?_,?_,?q13_1_1,?q14_1_1,?q15_1_1,?q16_1_1,?_,?_,?q19_1_1,?q20_1_1,?q21_1_1,?_,trivial⟩
  case q2_1_1 =>
   intro yv w' hR hF K hK;clear hF;have hm1:=(Mod.refl Nowhere w).drew.trans hR;obtain ⟨z0,z1,z2,z3⟩:=hcl.out w' hm1
   go_simp
   exact hK _ _ (fun _ _=>rfl) (Mod.refl _ _)
  case q3_1_1 =>
   intro yv w' hR hF K hK;clear hF
   go_simp
   exact hK _ _ (fun _ _=>by show _ = _;simp;rw [IntKind.wrap_u32];omega) (Mod.refl _ _)
  case q4_1_1 =>
   intro yv w' hR hF K hK;clear hF
   go_simp
   exact hK _ _ (fun _ _=>by show _ = _;simp;rw [IntKind.wrap_u32];omega) (Mod.refl _ _)
  case q7_1_1 =>
   intro yv w' hR hF K hK;clear hF;have hm1:=(Mod.refl Nowhere w).drew.trans hR;obtain ⟨z0,z1,z2,z3⟩:=hcl.out w' hm1
   go_simp
   exact hK _ _ (fun _ _=>rfl) (Mod.refl _ _)
  case q8_1_1 =>
   intro yv w' hR hF K hK;clear hF
   go_simp
   exact hK _ _ (fun _ _=>by show _ = _;simp;rw [IntKind.wrap_u32];omega) (Mod.refl _ _)
  case q9_1_1 =>
   intro yv w' hR hF K hK;clear hF
   go_simp
   exact hK _ _ (fun _ _=>by show _ = _;simp;rw [IntKind.wrap_u32];omega) (Mod.refl _ _)
  case q10_1_1 =>
   intro yv w' hR hF K hK;clear hF
   go_simp
   exact hK _ _ (fun _ _=>by show _ = _;simp;rw [IntKind.wrap_u32];omega) (Mod.refl _ _)
  case q13_1_1 =>
   intro yv w' hR hF K hK;clear hF;have hm1:=(Mod.refl Nowhere w).drew.trans hR;obtain ⟨z0,z1,z2,z3⟩:=hcl.out w' hm1
   go_simp
   exact hK _ _ (fun _ _=>rfl) (Mod.refl _ _)
  case q14_1_1 =>
   intro yv w' hR hF K hK;clear hF
   go_simp
   exact hK _ _ (fun _ _=>by show _ = _;simp;rw [IntKind.wrap_u32];omega) (Mod.refl _ _)
  case q15_1_1 =>
   intro yv w' hR hF K hK;clear hF
   go_simp
   exact hK _ _ (fun _ _=>by show _ = _;simp;rw [IntKind.wrap_u32];omega) (Mod.refl _ _)
  case q16_1_1 =>
   intro yv w' hR hF K hK;clear hF
   go_simp
   exact hK _ _ (fun _ _=>by show _ = _;simp;rw [IntKind.wrap_u32];omega) (Mod.refl _ _)
  case q19_1_1 =>
   intro yv w' hR hF K hK;clear hF;have hm1:=(Mod.refl Nowhere w).drew.trans hR;obtain ⟨z0,z1,z2,z3⟩:=hcl.out w' hm1
   go_simp
   exact hK _ _ (fun _ _=>rfl) (Mod.refl _ _)
  case q20_1_1 =>
   intro yv w' hR hF K hK;clear hF
   go_simp
   exact hK _ _ (fun _ _=>by show _ = _;simp;rw [IntKind.wrap_u32];omega) (Mod.refl _ _)
  case q21_1_1 =>
   intro yv w' hR hF K hK;clear hF
   go_simp
   exact hK _ _ (fun _ _=>by show _ = _;simp;rw [IntKind.wrap_u32];omega) (Mod.refl _ _)
  all_goals
   intro yv w' hR hF K hK;clear hF
   go_simp
   exact hK _ _ (fun _ _=>by first | trivial | exact rfl | simp [*,known]) (Mod.refl _ _)
 case hE_1_1 =>
  intro yv w' hR hF;clear hF;simp only [mixN,Option.getD_some,Option.getD_none,Nat.reduceLT,if_true];go_wp2;go_ret;exact ⟨rfl,(Mod.refl Nowhere w).drew.trans hR⟩
def Lies (w:World) (b off:Nat) (l:List Nat):Prop:=∀ w',Mod Nowhere w w'→∀ i,i < l.length→w'.cell? ⟨b,off + i,none⟩ = some (.int .u8 ((l.getD i 0:Nat):Int))
theorem Lies.mod {w w':World} {b off:Nat} {l:List Nat} (h:Lies w b off l) (m:Mod Nowhere w w'):Lies w' b off l:=fun w2 hm=>h w2 (m.trans hm)
theorem rround_ok (w:World) (b off cap i:Nat) (l:List Nat) (h:Lies w b off l) (hl:l.length = 16) (hb:∀ x ∈ l,x < 256) (hc:16≤cap) (hcap:cap≤maxLen) (hi:i < 16) :
  Calls Tryz.prog 287 #[.slice (some ⟨b,off,none⟩) 16 cap,.int .i64 (i:Int)] w fun e w'=>e = .returned (.int .u32 ((Cy.rk l i:Nat):Int))∧Mod Nowhere w w':=by
 have hk:i % 4 * 4 + 3 < l.length:=by omega
 have hN:=fun w1 (hm:Mod Nowhere w w1) cap'=>rnum_ok w1 b (off + 4 * (i % 4)) cap' (l.getD (4 * (i % 4)) 0) (l.getD (4 * (i % 4) + 1) 0) (l.getD (4 * (i % 4) + 2) 0) (l.getD (4 * (i % 4) + 3) 0)
  (fun w' hm'=>⟨h w' (hm.trans hm') (4 * (i % 4)) (by omega),by have:=h w' (hm.trans hm') (4 * (i % 4) + 1) (by omega);simpa [Nat.add_assoc] using this,by have:=h w' (hm.trans hm') (4 * (i % 4) + 2) (by omega);simpa [Nat.add_assoc] using this,by have:=h w' (hm.trans hm') (4 * (i % 4) + 3) (by omega);simpa [Nat.add_assoc] using this⟩)
  (Cy.getD_lt hb _) (Cy.getD_lt hb _) (Cy.getD_lt hb _) (Cy.getD_lt hb _)
 clear h;have e4:(i:Int).tmod 4 = ((i % 4:Nat):Int):=by rw [Int.tmod_eq_emod_of_nonneg (by omega)];omega
 have hq:i % 4 < 4:=Nat.mod_lt _ (by decide);obtain ⟨q,hqe⟩:∃ q,i % 4 = q:=⟨_,rfl⟩;rw [hqe] at hN e4 hq;refine hid2 ?_ hN hqe;clear hN hqe;intro hN hqe;clear hk;unfold maxLen at hcap;go_enter Tryz.func287,Tryz.ntmps287;go_wp2_with fail;refine (hN.out w (Mod.refl _ _) _).mono ?_;rintro e w' ⟨rfl,hm⟩;have hg:l.getD (4 * q) 0 * 16777216 + l.getD (4 * q + 1) 0 * 65536 + l.getD (4 * q + 2) 0 * 256 + l.getD (4 * q + 3) 0 = Cy.num4 l (4 * q):=rfl;have hr:Cy.rk l i = (Cy.num4 l (4 * q) + i * 2654435769) % 4294967296:=by rw [← hqe.out];rfl
 rw [hg];generalize Cy.num4 l (4 * q) = g at *;clear hN hg;replace hr:=Lib.hid hr;go_wp2;go_ret;refine ⟨congrArg (fun z=>Ending.returned (Value.int .u32 z)) ?_,hm⟩;rw [hr.out];simp
theorem rrun_ok (w:World) (b off cap b' off' cap':Nat) (l m:List Nat) (h:Lies w b off l) (hl:l.length = 16) (hb:∀ x ∈ l,x < 256) (hc:16≤cap) (hcap:cap≤maxLen) (h':Lies w b' off' m) (hl':m.length = 8) (hb':∀ x ∈ m,x < 256) (hc':8≤cap') (hcap':cap'≤maxLen) :
  Calls Tryz.prog 256 #[.slice (some ⟨b,off,none⟩) 16 cap,.slice (some ⟨b',off',none⟩) 8 cap',.bool false] w fun e w'=>∃ g,e = .returned (.tuple #[.slice (some ⟨g,0,none⟩) 8 8,.int .i64 0])∧Blk w' g (u8s (Cy.encB l m)) 5∧w.heap.size≤g∧Mod Nowhere w w':=by
 have hN:=fun w1 (hm:Mod Nowhere w w1) q (hq:q + 3 < 8) cap'=>rnum_ok w1 b' (off' + q) cap' (m.getD q 0) (m.getD (q + 1) 0) (m.getD (q + 2) 0) (m.getD (q + 3) 0)
  (fun w' hm'=>⟨h' w' (hm.trans hm') q (by omega),by have:=h' w' (hm.trans hm') (q + 1) (by omega);simpa [Nat.add_assoc] using this,by have:=h' w' (hm.trans hm') (q + 2) (by omega);simpa [Nat.add_assoc] using this,by have:=h' w' (hm.trans hm') (q + 3) (by omega);simpa [Nat.add_assoc] using this⟩)
  (Cy.getD_lt hb' _) (Cy.getD_lt hb' _) (Cy.getD_lt hb' _) (Cy.getD_lt hb' _)
 have hA:∀ W,Mod Nowhere w W→∀ c,Calls Tryz.prog 285 #[.slice (some ⟨b',off',none⟩) 4 c] W fun e w'=>e = .returned (.int .u32 ((Cy.num4 m 0:Nat):Int))∧Mod Nowhere W w':=fun W hm c=>hN W hm 0 (by omega) c;have hB:∀ W,Mod Nowhere w W→∀ c,Calls Tryz.prog 285 #[.slice (some ⟨b',off' + 4,none⟩) 4 c] W fun e w'=>e = .returned (.int .u32 ((Cy.num4 m 4:Nat):Int))∧Mod Nowhere W w':=fun W hm c=>hN W hm 4 (by omega) c;have hRd:∀ W,Mod Nowhere w W→∀ i:Nat,i < 16→Calls Tryz.prog 287 #[.slice (some ⟨b,off,none⟩) 16 cap,.int .i64 (i:Int)] W fun e w'=>e = .returned (.int .u32 ((Cy.rk l i:Nat):Int))∧Mod Nowhere W w':=fun W hm i hi=>rround_ok W b off cap i l (h.mod hm) hl hb hc hcap hi;have hn0:=Cy.num4_lt hb' 0
 have hn4:=Cy.num4_lt hb' 4;clear hN h h' hb hb' hl hl';refine hid3 ?_ hA hB hRd;clear hA hB hRd;intro hA hB hRd;unfold maxLen at hcap hcap';go_enter Tryz.func256,Tryz.ntmps256;go_wp2_with fail;refine wp_region_vals (fun i=>match i with | 0=>some (.slice (some ⟨b',off',none⟩) 8 cap') | 1=>some (.slice (some ⟨b',off',none⟩) 4 cap') | 2=>some (.int .u32 ((Cy.num4 m 0:Nat):Int)) | 3=>some (.slice (some ⟨b',off',none⟩) 8 cap') | 4=>some (.slice (some ⟨b',off' + 4,none⟩) 4 (cap' - 4)) | 5=>some (.int .u32 ((Cy.num4 m 4:Nat):Int)) | 6=>some (.int .u32 ((Cy.num4 m 0:Nat):Int)) | 7=>some (.int .u32 ((Cy.num4 m 4:Nat):Int)) | _=>none) (fun i=>match i with | 1=>[0] | 2=>[1] | 4=>[3] | 5=>[4,2] | 6=>[2,5,0,1] | 7=>[5,6,0,1,2,3,4] | _=>[]) 8 (fun _ _ _=>True) ?A_5_0 (by first | assumption | kernel_rfl) (by kernel_rfl) (by kernel_rfl) (by kernel_rfl) (by rfl) ?hA_5_0 ?hS_5_0 ?hE_5_0
 case hA_5_0=>intro xs;simp [putAll,List.range,List.range.loop,Act.put] <;> rfl
 case hS_5_0 =>
  refine ⟨?_,?q1_5_0,?q2_5_0,?_,?q4_5_0,?q5_5_0,?_,?_,trivial⟩
  case q1_5_0 =>
   intro yv w' hR hF K hK;clear hF;have hx:(4:Int)≤(cap':Int):=by omega
   go_simp
   exact hK _ _ (fun _ _=>rfl) (Mod.refl _ _)
  case q2_5_0 =>
   intro yv w' hR hF K hK;clear hF;have hm1:=(Mod.refl Nowhere w).drew.trans hR;have hc:=hA.out w' hm1 cap';replace hc:=Lib.hid hc
   go_simp
   go_at_call 285
   refine hc.out.mono ?_;rintro e w1 ⟨rfl,hm1'⟩;exact hK _ _ (fun _ _=>rfl) hm1'
  case q4_5_0 =>
   intro yv w' hR hF K hK;clear hF;have hx:(4:Int)≤(cap':Int):=by omega
   go_simp
   exact hK _ _ (fun _ _=>by show _ = _;simp;omega) (Mod.refl _ _)
  case q5_5_0 =>
   intro yv w' hR hF K hK;clear hF;have hm1:=(Mod.refl Nowhere w).drew.trans hR;have hc:=hB.out w' hm1 (cap' - 4);replace hc:=Lib.hid hc
   go_simp
   go_at_call 285
   refine hc.out.mono ?_;rintro e w1 ⟨rfl,hm1'⟩;exact hK _ _ (fun _ _=>rfl) hm1'
  all_goals
   intro yv w' hR hF K hK;clear hF
   go_simp
   exact hK _ _ (fun _ _=>by first | trivial | exact rfl | simp [*,known]) (Mod.refl _ _)
 case hE_5_0 =>
  intro yv w' hR hF;clear hF;simp only [mixN,Option.getD_some,Option.getD_none,Nat.reduceLT,if_true];replace hR:=Lib.hid hR;go_wp2
  go_loopw [8,9,10] (fun x y i wr=>∃ k:Nat,k≤16∧i = .int .i64 k∧x = .int .u32 ((Cy.rds l (Cy.num4 m 0) (Cy.num4 m 4) k).1:Nat)∧y = .int .u32 ((Cy.rds l (Cy.num4 m 0) (Cy.num4 m 4) k).2:Nat)∧Mod Nowhere w wr) (fun _ _ i _=>16 - (intOf i).toNat)
  case atStart=>exact ⟨0,by omega,rfl,rfl,rfl,(Mod.refl Nowhere w).drew.trans hR.out⟩
  case round =>
   obtain ⟨k,hk,rfl,rfl,rfl,hm⟩:=hrel;obtain ⟨hb1,hb2⟩:=Cy.rds_lt (key:=l) hn0 hn4 k;have hs:Cy.rds l (Cy.num4 m 0) (Cy.num4 m 4) (k + 1) = ((Cy.rds l (Cy.num4 m 0) (Cy.num4 m 4) k).2,(Cy.rds l (Cy.num4 m 0) (Cy.num4 m 4) k).1 ^^^ Cy.fB (Cy.rds l (Cy.num4 m 0) (Cy.num4 m 4) k).2 (Cy.rk l k)):=rfl;by_cases hlt:k < 16
   ·have hc1:=hRd.out wr hm k hlt;refine hid3 ?_ hs hm hc1;clear hs hm hc1;intro hs hm hc1;generalize (Cy.rds l (Cy.num4 m 0) (Cy.num4 m 4) k).1 = xl at *;generalize (Cy.rds l (Cy.num4 m 0) (Cy.num4 m 4) k).2 = xr at *;go_wp2_with fail;refine hc1.out.mono ?_;rintro e w1 ⟨rfl,hm1⟩;generalize Cy.rk l k = rkk at *;replace hm1:=Lib.hid hm1;go_wp2_with fail;refine (cmix_ok w1 xr rkk).mono ?_;rintro e w2 ⟨rfl,rfl⟩;have hx:=u32_xor_nat xl (Cy.fB xr rkk) hb1 (Cy.fB_lt _ _);generalize Cy.fB xr rkk = ff at *;go_wp2;go_roundw
    case rel=>exact ⟨k + 1,by omega,by go_num,by rw [hs.out],by rw [hs.out],hm.out.trans hm1.out⟩
    case measure=>simp [intOf];omega
   ·obtain rfl:k = 16:=by omega
    clear hs;have he:Cy.encB l m = Cy.by4 (Cy.rds l (Cy.num4 m 0) (Cy.num4 m 4) 16).2 ++ Cy.by4 (Cy.rds l (Cy.num4 m 0) (Cy.num4 m 4) 16).1:=rfl;refine hid2 ?_ he hm;clear he hm;intro he hm;generalize (Cy.rds l (Cy.num4 m 0) (Cy.num4 m 4) 16).1 = xl at *;generalize (Cy.rds l (Cy.num4 m 0) (Cy.num4 m 4) 16).2 = xr at *;go_wp2
    go_ret2
    refine ⟨wr.heap.size,rfl,(Blk.new wr _ _).conv ?_,hm.out.size,hm.out.alloc _⟩;rw [he.out];simp only [u8s,Cy.by4,List.cons_append,List.nil_append,List.map_cons,List.map_nil];have q:∀ n:Nat,n < 4294967296→(n:Int) / 16777216 = ((n / 16777216 % 256:Nat):Int):=fun n hn=>by omega
    rw [q xr hb2,q xl hb1]
    rfl
theorem ckeys_ok (w:World) (b off cap:Nat) (l:List Nat) (h:Lies w b off l) (hl:l.length = 16) (hb:∀ x ∈ l,x < 256) (hc:16≤cap) (hcap:cap≤maxLen) :
  Calls Tryz.prog 308 #[.slice (some ⟨b,off,none⟩) 16 cap] w fun e w'=>e = .returned (.agg ((List.range 16).map fun i=>Value.int .u32 ((Cy.rk l i:Nat):Int)).toArray)∧Mod Nowhere w w':=by
 have hN:=fun q (hq:q < 4) w1 (hm:Mod Nowhere w w1) cap'=>cnum_ok w1 b (off + q * 4) cap' (l.getD (4 * q) 0) (l.getD (4 * q + 1) 0) (l.getD (4 * q + 2) 0) (l.getD (4 * q + 3) 0)
  (fun w' hm'=>⟨by have:=h w' (hm.trans hm') (4 * q) (by omega);simpa [Nat.mul_comm] using this,by have:=h w' (hm.trans hm') (4 * q + 1) (by omega);simpa [Nat.add_assoc,Nat.mul_comm] using this,by have:=h w' (hm.trans hm') (4 * q + 2) (by omega);simpa [Nat.add_assoc,Nat.mul_comm] using this,by have:=h w' (hm.trans hm') (4 * q + 3) (by omega);simpa [Nat.add_assoc,Nat.mul_comm] using this⟩)
  (Cy.getD_lt hb _) (Cy.getD_lt hb _) (Cy.getD_lt hb _) (Cy.getD_lt hb _)
 clear h hb;replace hN:=Lib.hid hN;unfold maxLen at hcap;go_enter Tryz.func308,Tryz.ntmps308;go_wp2
 go_loopw [6] (fun i wr=>∃ k:Nat,k≤16∧i = .int .i64 k∧Blk wr w.heap.size (List.replicate 16 (.int .u32 0)) 349∧Blk wr (w.heap.size + 1) ((List.range 16).map fun j=>Value.int .u32 (((if j < k then Cy.rk l j else 0):Nat):Int)) 349∧Mod Nowhere w wr) (fun i _=>16 - (intOf i).toNat)
 case atStart=>exact ⟨0,by omega,rfl,((Blk.new w _ _).mod ((Mod.refl Nowhere _).alloc _) (fun e=>e)).conv rfl,(by have:=Blk.new (w.alloc (.cells (List.replicate 16 (Value.int .u32 0)).toArray 349)) (List.replicate 16 (Value.int .u32 0)) 349;refine Blk.conv ?_ (show List.replicate 16 (Value.int .u32 0) = _ from rfl);simpa using this),((Mod.refl Nowhere w).alloc _).alloc _⟩
 case round =>
  obtain ⟨k,hk,rfl,hB,hA,hm⟩:=hrel;by_cases hlt:k < 16
  ·have e4:(k:Int).tmod 4 = ((k % 4:Nat):Int):=by rw [Int.tmod_eq_emod_of_nonneg (by omega)];omega
   have hq:k % 4 < 4:=Nat.mod_lt _ (by decide);have hr:Cy.rk l k = (Cy.num4 l (4 * (k % 4)) + k * 2654435769) % 4294967296:=rfl;have hNk:=hN.out (k % 4) hq wr hm;generalize k % 4 = q at *;refine hid5 ?_ hr hB hA hm hNk;clear hr hB hA hm hNk;intro hr hB hA hm hNk;go_wp2_with fail;refine (hNk.out _).mono ?_;rintro e w1 ⟨rfl,hm1⟩;have hg:l.getD (4 * q) 0 * 16777216 + l.getD (4 * q + 1) 0 * 65536 + l.getD (4 * q + 2) 0 * 256 + l.getD (4 * q + 3) 0 = Cy.num4 l (4 * q):=rfl;rw [hg];generalize Cy.num4 l (4 * q) = g at *;have hA1:=hA.out.mod hm1 (fun e=>e);have hB1:=hB.out.mod hm1 (fun e=>e);have hz:=hA1.frozen
   have hlA:=hA1.lt;have hc0:∃ v,w1.cell? ⟨w.heap.size + 1,k,none⟩ = some v:=⟨_,by rw [hA1.cell];simp [hlt];rfl⟩;obtain ⟨old,hc0⟩:=hc0;refine hid3 ?_ hA1 hB1 hm1;clear hA1 hB1 hm1;intro hA1 hB1 hm1;clear hA hB hNk hN hg;go_wp2;go_roundw
   case rel =>
    refine ⟨k + 1,by omega,by go_num,hB1.out.mod ((Mod.refl (fun x=>x = w.heap.size + 1) w1).setCell (p:=⟨w.heap.size + 1,k,none⟩) (fun _=>rfl) _) (by omega),(hA1.out.setCell k _).conv ?_,(hm.out.trans hm1.out).setCell (p:=⟨w.heap.size + 1,k,none⟩) (fun h=>by have h:w.heap.size + 1 < w.heap.size:=h;omega) _⟩;have e1:((g:Int) + k * 2654435769) % 4294967296 = ((Cy.rk l k:Nat):Int):=by rw [hr.out];omega
    rw [e1]
    apply List.ext_getElem (by simp)
    intro i h1 h2;rw [List.getElem_set];simp only [List.getElem_map,List.getElem_range];by_cases e:k = i
    ·subst e;simp
    ·rw [if_neg e];by_cases e2:i < k
     ·rw [if_pos e2,if_pos (by omega)]
     ·rw [if_neg e2,if_neg (by omega)]
   case measure=>simp [intOf];omega
  ·obtain rfl:k = 16:=by omega
   have hA':Blk wr (w.heap.size + 1) ((List.range 16).map fun i=>Value.int .u32 ((Cy.rk l i:Nat):Int)) 349:=hA.conv (List.map_congr_left fun j hj=>by rw [if_pos (by simpa using hj)]);obtain ⟨xs,hxs⟩:∃ xs,xs = ((List.range 16).map fun i=>Value.int .u32 ((Cy.rk l i:Nat):Int)).toArray:=⟨_,rfl⟩;have hsz:xs.size = 16:=by rw [hxs];simp
   have hall:xs.all (·.oneCell') = true:=by rw [hxs];first | kernel_rfl | simp [List.range,List.range.loop,Value.oneCell']
   have hc1:wr.heap[w.heap.size + 1]? = some (.cells xs 349 (0,0)):=by rw [hxs];exact hA'
   have hc0:wr.heap[w.heap.size]? = some (.cells (List.replicate 16 (Value.int .u32 0)).toArray 349 (0,0)):=hB;have hs16:(List.replicate 16 (Value.int .u32 0)).toArray.size = xs.size:=by rw [hsz];rfl
   refine hid4 ?_ hs16 hall hxs hsz;clear hs16 hall hxs hsz;intro hs16 hall hxs hsz;clear hA hA' hN;have hb:=(show Blk wr w.heap.size (List.replicate 16 (Value.int .u32 0)) 349 from hB).setRow xs.toList;simp only [Array.toArray_toList] at hb;replace hb:=Lib.hid hb;clear hB
   go_wp2_with (first
    | (refine wpList_load_row rfl 349 _ rfl (w.heap.size + 1) rfl 349 _ (0,0) _ hc1 Tryz.underlying349 rfl (by first | (rw [hsz.out];kernel_rfl) | kernel_rfl) ?_)
    | (refine wpList_store_row rfl 349 _ _ rfl w.heap.size xs rfl rfl 349 _ hc0 (by first | (rw [hsz.out];kernel_rfl) | kernel_rfl) hs16.out hall.out ?_))
   refine bodyPost_ret (results_cell_row rfl _ _ w.heap.size 349 xs (0,0) _ rfl ?_ Tryz.underlying349 rfl (by first | (rw [hsz.out];kernel_rfl) | kernel_rfl)) rfl ⟨by rw [← hxs.out],hm.setRow (fun h=>by omega) _⟩;simpa [Blk] using hb.out
end Go.Proofs.YtanioleniadhoaaGreat
namespace Go.Proofs.YtanioleniadhoaaGreat
open Go.RowKit
def downL (ops:Array Oper):List Nat→List Nat→List Nat
 | [],l=>l
 | i :: r,l=>downL ops r (if l.contains i then l ++ (match ops[i]? with | none=>[] | some o=>(o.after.toList.filter fun e=>Region.binds .any e).map (·.on)) else l)
theorem downL_spec {ops:Array Oper} {p:Nat→Prop} (hc:∀ i o,ops[i]? = some o→p i→∀ e ∈ o.after,Region.binds .any e = true→p e.on):∀ (r l:List Nat),(∀ i ∈ l,p i)→∀ i ∈ downL ops r l,p i
 | [],_,h=>h
 | j :: r,l,h=>by
  refine downL_spec hc r _ ?_;by_cases hj:l.contains j = true
  ·rw [if_pos hj];intro i hi;rcases List.mem_append.1 hi with q | q
   ·exact h i q
   ·have hpj:=h j (by simpa using hj)
    cases ho:ops[j]? with
    | none=>rw [ho] at q;cases q
    | some o =>
     rw [ho] at q;obtain ⟨e,he,rfl⟩:=List.mem_map.1 q;obtain ⟨h1,h2⟩:=List.mem_filter.1 he;exact hc j o ho hpj e (by simpa using h1) h2
  ·rw [if_neg hj];exact h
def tailB (ops:Array Oper) (k:Nat):Bool :=
 (List.range' k (ops.size - k)).all fun i=>(List.range i).all fun j=>(downL ops (List.range (i + 1)).reverse [i]).contains j
theorem tailB_spec {ops:Array Oper} {k:Nat} (h:tailB ops k = true) {p:Nat→Prop} (hc:∀ i o,ops[i]? = some o→p i→∀ e ∈ o.after,Region.binds .any e = true→p e.on) {i:Nat} (hki:k≤i) (hi:i < ops.size) (hp:∀ o,ops[i]? = some o→∀ e ∈ o.after,Region.binds .any e = true→p e.on):∀ j,j < i→p j:=by
 unfold tailB at h;rw [List.all_eq_true] at h;have h1:=h i (List.mem_range'_1.2 ⟨hki,by omega⟩);rw [List.all_eq_true] at h1;intro j hj;have h2:=h1 j (List.mem_range.2 hj)
 have h3:=downL_spec (p:=fun x=>x = i ∨ p x) (fun x o ho hx e he hb=>by
  rcases hx with rfl | hx
  ·exact .inr (hp o ho e he hb)
  ·exact .inr (hc x o ho hx e he hb)) (List.range (i + 1)).reverse [i] (fun x hx=>.inl (List.mem_singleton.1 hx)) j (by simpa using h2)
 rcases h3 with h3 | h3
 ·omega
 ·exact h3
theorem wpAny_tail {P:Program} {ops:Array Oper} {Q:Exit→Act→World→Prop} {L:List Oper} (hL:ops = L.toArray) (k:Nat) (hord:orderB ops = true) (ht:tailB ops k = true):∀ (fuel j:Nat) (listed:Array Bool) (a:Act) (w:World),k≤j→j + fuel = L.length→listed.size = ops.size →
  (∀ i,i < ops.size→listed.getD i false = decide (i < j))→wpList P ops Q (L.drop j) a w→wpAny P .any ops Q fuel listed a w:=by
 have hsz0:ops.size = L.length:=by rw [hL];simp
 intro fuel
 induction fuel with
 | zero =>
  intro j listed a w hkj hf hsz hlist h;rw [List.drop_eq_nil_of_le (by omega)] at h;refine ⟨?_,h⟩;rw [List.eq_nil_iff_forall_not_mem];intro i hi;obtain ⟨h1,o,ho,_⟩:=mem_ready.1 hi;have hlt:=(Array.getElem?_eq_some_iff.1 ho).1;have h2:=hlist i hlt;rw [decide_eq_true (show i < j by omega)] at h2;rw [getD_low h1] at h2
  cases h2
 | succ fuel ih =>
  intro j listed a w hkj hf hsz hlist h;have hjl:j < ops.size:=by omega
  have ho:ops[j]? = some ops[j]:=Array.getElem?_eq_getElem hjl
  have hclo:Clo ops (marks listed):=by
   intro i o hio hi e he hb;have hi:listed.getD i false = true:=hi;have hlt:=(Array.getElem?_eq_some_iff.1 hio).1;rw [hlist i hlt,decide_eq_true_eq] at hi;have h2:=orderB_spec hord hio e he hb
   show listed.getD e.on false = true
   rw [hlist _ (by omega),decide_eq_true_eq];omega
  have hone:∀ i ∈ Region.ready .any ops listed,i = j:=by
   intro i hi;obtain ⟨h1,o,hio,hdeps⟩:=mem_ready.1 hi;have hlt:=(Array.getElem?_eq_some_iff.1 hio).1;have h2:=getD_low h1;rw [hlist i hlt,decide_eq_false_iff_not] at h2;by_cases e:i = j
   ·exact e
   have h3:=tailB_spec ht (p:=fun x=>listed.getD x false = true) (fun x o hx hp e he hb=>hclo x o hx hp e he hb) (i:=i) (by omega) hlt (fun o' ho' e he hb=>by rw [hio] at ho';cases ho';exact hdeps e he hb) j (by omega);rw [hlist j hjl,decide_eq_true_eq] at h3;omega
  have hin:j ∈ Region.ready .any ops listed:=by
   refine mem_ready.2 ⟨?_,ops[j],ho,fun e he hb=>?_⟩
   ·have:=hlist j hjl;rw [decide_eq_false (by omega)] at this;simpa [Array.getD_eq_getD_getElem?,Array.getElem?_eq_getElem (show j < listed.size by omega)] using this
   ·have h2:=orderB_spec hord ho e he hb;have h3:=hlist e.on (by omega);rw [decide_eq_true h2] at h3;simpa [Array.getD_eq_getD_getElem?,Array.getElem?_eq_getElem (show e.on < listed.size by omega)] using h3
  refine ⟨fun hnil=>(by rw [hnil] at hin;cases hin),fun i hi=>?_⟩;have:=hone i hi;subst this
  have hd:L.drop i = ops[i] :: L.drop (i + 1):=by
   rw [List.drop_eq_getElem_cons (by omega)]
   congr 1
   subst hL;simp
  rw [hd] at h
  have hset:∀ x,(listed.setIfInBounds i true).getD x false = if x = i then true else listed.getD x false:=by
   intro x;by_cases e:x = i
   ·subst e;rw [if_pos rfl];simp [Array.getD_eq_getD_getElem?,show x < listed.size by omega]
   ·rw [if_neg e,getD_set_ne _ (Ne.symm e)]
  have hmono:∀ a w,wpList P ops Q (L.drop (i + 1)) a w→wpAny P .any ops Q fuel (listed.setIfInBounds i true) a w:=fun a w hw =>
   ih (i + 1) _ a w (by omega) (by omega) (by simp [hsz]) (fun x hx=>by
    rw [hset]
    split
    ·rename_i e;rw [decide_eq_true (by omega)]
    ·rename_i e;rw [hlist x hx];exact decide_eq_decide.2 (by omega)) hw
  refine wpOp_mono hmono ?_;unfold wpOp;rw [ho];unfold wpList at h;exact h
theorem wp_region_rest {P:Program} {id:Nat} {L:List Oper} {Q:Exit→Act→World→Prop} {a:Act} {w:World} (k:Nat) (F:Nat→Value→World→Prop) (R:World→World→Prop) (A:(Nat→Value)→Act)
  (hm:P.follows .mixedOrders = true) (hs:apartB L.toArray = true) (hord:orderB L.toArray = true) (ht:tailB L.toArray k = true) (hk:k≤L.length)
  (hrefl:∀ w,R w w) (htrans:∀ a b c,R a b→R b c→R a c) (hst:∀ i v w w',F i v w→R w w'→F i v w')
  (hA:∀ xs,putAll L.toArray xs (List.range L.toArray.size) a = A xs)
  (hstep:AllFrom (fun i o=>∀ (xs:Nat→Value) (w':World),R w.drew w'→(∀ j,waitsB L.toArray i j = true→F j (xs j) w')→∀ K:Act→World→Prop,(∀ v w'',F i v w''→R w' w''→K ((A xs).put o.dst v) w'') →
   if Region.wanted o (yielded L.toArray (A xs).tmps) = true then Oper.wp P o (A xs) w' K Q else K ((A xs).put o.dst undef) w') 0 (L.take k))
  (hend:∀ xs w',R w.drew w'→(∀ i,i < k→F i (xs i) w')→wpList P L.toArray Q (L.drop k) (A xs) w') :
  (Code.region id L.toArray true).wp P Q a w:=by
 refine wp_region_any hm ?_;have hsz0:L.toArray.size = L.length:=by simp
 have key:∀ (fuel:Nat) (listed:Array Bool) (a':Act) (w':World) (xs:Nat→Value),listed.size = L.toArray.size→((List.range L.toArray.size).filter fun j=>!listed.getD j false).length = fuel →
   a' = putAll L.toArray xs (List.range L.toArray.size) a→Clo L.toArray (marks listed)→(∀ i,k≤i→listed.getD i false = false)→R w.drew w'→(∀ i,i < k→listed.getD i false = true→F i (xs i) w') →
   wpAny P .any L.toArray Q fuel listed a' w':=by
  intro fuel
  induction fuel with
  | zero =>
   intro listed a' w' xs hsz hlen hput hcl hbig hR hF;have hnil:=List.length_eq_zero_iff.1 hlen
   have hall2:∀ i,i < L.toArray.size→listed.getD i false = true:=fun i hi=>by
    cases hb:listed.getD i false with
    | true=>rfl
    | false =>
     have:i ∈ (List.range L.toArray.size).filter fun j=>!listed.getD j false:=List.mem_filter.2 ⟨List.mem_range.2 hi,by rw [hb];rfl⟩;rw [hnil] at this
     cases this
   have hkn:k = L.length:=by
    rcases Nat.lt_or_ge k L.length with h | h
    ·have h1:=hall2 k (by omega);rw [hbig k (Nat.le_refl _)] at h1;cases h1
    ·omega
   subst hput;rw [hA];refine wpAny_tail rfl k hord ht 0 k listed _ _ (Nat.le_refl _) (by omega) hsz (fun i hi=>by rw [hall2 i hi,decide_eq_true (by omega)]) ?_;exact hend xs w' hR fun i hi=>hF i hi (hall2 i (by omega))
  | succ fuel ih =>
   intro listed a' w' xs hsz hlen hput hcl hbig hR hF;by_cases hdone:∀ i,i < k→listed.getD i false = true
   ·subst hput;rw [hA]
    have hcount:((List.range L.toArray.size).filter fun j=>!listed.getD j false).length = L.length - k:=by
     have h1:((List.range L.toArray.size).filter fun j=>!listed.getD j false) = List.range' k (L.length - k):=by
      have h2:List.range L.toArray.size = List.range k ++ List.range' k (L.length - k):=by
       have h5:=List.range'_append_1 (s:=0) (m:=k) (n:=L.length - k);rw [Nat.zero_add,show k + (L.length - k) = L.length by omega] at h5;rw [hsz0,List.range_eq_range',List.range_eq_range',h5]
      rw [h2,List.filter_append];have h3:(List.range k).filter (fun j=>!listed.getD j false) = []:=List.filter_eq_nil_iff.2 fun j hj=>by rw [hdone j (List.mem_range.1 hj)];decide
      have h4:(List.range' k (L.length - k)).filter (fun j=>!listed.getD j false) = List.range' k (L.length - k):=List.filter_eq_self.2 fun j hj=>by rw [hbig j (List.mem_range'_1.1 hj).1];rfl
      rw [h3,h4,List.nil_append]
     rw [h1,List.length_range']
    refine wpAny_tail rfl k hord ht (fuel + 1) k listed _ _ (Nat.le_refl _) (by omega) hsz (fun i hi=>?_) ?_
    ·by_cases h:i < k
     ·rw [hdone i h,decide_eq_true h]
     ·rw [hbig i (by omega),decide_eq_false h]
    ·exact hend xs w' hR fun i hi=>hF i hi (hdone i hi)
   refine ⟨fun hnil=>?_,?_⟩
   ·exfalso
    have hall:=ready_some hord hsz hnil;exact hdone fun i hi=>hall i (by omega)
   ·intro i hi;obtain ⟨h1,o,ho,hdeps⟩:=mem_ready.1 hi;have hlt:=(Array.getElem?_eq_some_iff.1 ho).1;have hf:listed.getD i false = false:=getD_low h1
    have hik:i < k:=by
     rcases Nat.lt_or_ge i k with h | h
     ·exact h
     ·exfalso
      have h3:=tailB_spec ht (p:=fun x=>listed.getD x false = true) (fun x o hx hp e he hb=>hcl x o hx hp e he hb) h hlt (fun o' ho' e he hb=>by rw [ho] at ho';cases ho';exact hdeps e he hb);exact hdone fun j hj=>h3 j (by omega)
    have hin:i ∈ (List.range L.toArray.size).filter fun j=>!listed.getD j false:=List.mem_filter.2 ⟨List.mem_range.2 hlt,by rw [hf];rfl⟩;have hnd:((List.range L.toArray.size).filter fun j=>!listed.getD j false).Nodup:=List.nodup_range.filter _
    have hset:∀ j,(listed.setIfInBounds i true).getD j false = if j = i then true else listed.getD j false:=by
     intro j;by_cases e:j = i
     ·subst e;rw [if_pos rfl];simp [Array.getD_eq_getD_getElem?,show j < listed.size by omega]
     ·rw [if_neg e,getD_set_ne _ (Ne.symm e)]
    have hrem:((List.range L.toArray.size).filter fun j=>!(listed.setIfInBounds i true).getD j false) = ((List.range L.toArray.size).filter fun j=>!listed.getD j false).filter (· != i):=by
     rw [List.filter_filter];refine List.filter_congr fun j _=>?_;rw [hset];by_cases e:j = i
     ·subst e;simp
     ·have:(j != i) = true:=by simpa using e
      rw [if_neg e,this];simp
    have hlen':((List.range L.toArray.size).filter fun j=>!(listed.setIfInBounds i true).getD j false).length = fuel:=by
     rw [hrem];have h4:=List.length_erase_of_mem hin;rw [hnd.erase_eq_filter] at h4;rw [h4,hlen];rfl
    have hcl':Clo L.toArray (marks (listed.setIfInBounds i true)):=by
     intro j q hq hj e he hbd
     show (listed.setIfInBounds i true).getD e.on false = true
     rw [hset]
     split
     ·rfl
     ·by_cases eji:j = i
      ·subst eji;rw [ho] at hq;cases hq;exact hdeps e he hbd
      ·have hj':(listed.setIfInBounds i true).getD j false = true:=hj;rw [hset,if_neg eji] at hj';exact hcl j q hq hj' e he hbd
    subst hput;refine wpOp_step ho ?_;intro K' hK';rw [hA]
    have hdo:(L.toArray[i]?).bind (·.dst) = o.dst:=by rw [ho];rfl
    have hst':=(AllFrom.get hstep i o (by rw [List.getElem?_take_of_lt hik];simpa using ho));rw [Nat.zero_add] at hst'
    refine hst' xs w' hR (fun j hj=>by
     obtain ⟨e,he,hb,hon⟩:=waitsB_spec ho hj;rw [← hon]
     exact hF e.on (by have:=orderB_spec hord ho e he hb;omega) (hdeps e he hb)) K' ?_
    intro v w'' hFv hRw2;refine hK' _ _ ?_;rw [← hA];refine ih _ _ _ (updv xs i v) (by simp [hsz]) hlen' ?_ hcl' (fun j hj=>?_) (htrans _ _ _ hR hRw2) ?_
    ·rw [← hdo];exact putAll_upd hs hlt xs v _ _ List.nodup_range (fun j hj=>List.mem_range.1 hj) (List.mem_range.2 hlt)
    ·rw [hset,if_neg (by omega)];exact hbig j hj
    ·intro j hjk hj;rw [hset] at hj;unfold updv
     split
     ·rename_i e;subst e;exact hFv
     ·rename_i e
      rw [if_neg e] at hj;exact hst _ _ _ _ (hF j hjk hj) hRw2
 have hz:∀ j,(Array.replicate L.toArray.size false).getD j false = false:=fun j=>by
  simp only [Array.getD_eq_getD_getElem?,Array.getElem?_replicate]
  split <;> rfl
 have hfil:((List.range L.toArray.size).filter fun j=>!(Array.replicate L.toArray.size false).getD j false) = List.range L.toArray.size:=List.filter_eq_self.2 fun j _=>by rw [hz];rfl
 refine key _ _ _ _ (fun i=>(((L.toArray[i]?).bind (·.dst)).map fun t=>a.tmps.getD t undef).getD undef) (by simp) ?_ (putAll_self a _).symm ?_ (fun i _=>hz i) (hrefl _) ?_
 ·rw [hfil];simp
 ·intro i o _ hi;have hi':(Array.replicate L.toArray.size false).getD i false = true:=hi;rw [hz] at hi';cases hi'
 ·intro i _ hi;rw [hz] at hi;cases hi
theorem wp_region_calm_rest {P:Program} {id:Nat} {L:List Oper} {Q:Exit→Act→World→Prop} {a:Act} {w:World} (k:Nat) (F:Nat→Value→World→Prop) (A:(Nat→Value)→Act)
  (hm:P.follows .mixedOrders = true) (hs:apartB L.toArray = true) (hord:orderB L.toArray = true) (ht:tailB L.toArray k = true) (hk:k≤L.length)
  (hA:∀ xs,putAll L.toArray xs (List.range L.toArray.size) a = A xs)
  (hstep:AllFrom (fun i o=>∀ (xs:Nat→Value) (w':World),Mod Nowhere w.drew w'→(∀ j,waitsB L.toArray i j = true→∀ W,Mod Nowhere w' W→F j (xs j) W)→∀ K:Act→World→Prop,(∀ v w'',(∀ W,Mod Nowhere w'' W→F i v W)→Mod Nowhere w' w''→K ((A xs).put o.dst v) w'') →
   if Region.wanted o (yielded L.toArray (A xs).tmps) = true then Oper.wp P o (A xs) w' K Q else K ((A xs).put o.dst undef) w') 0 (L.take k))
  (hend:∀ xs w',Mod Nowhere w.drew w'→(∀ i,i < k→∀ W,Mod Nowhere w' W→F i (xs i) W)→wpList P L.toArray Q (L.drop k) (A xs) w') :
  (Code.region id L.toArray true).wp P Q a w :=
 wp_region_rest k (fun i v w'=>∀ W,Mod Nowhere w' W→F i v W) (Mod Nowhere) A hm hs hord ht hk (Mod.refl Nowhere) (fun _ _ _=>Mod.trans) (fun _ _ _ _ h hm W hW=>h W (hm.trans hW)) hA hstep hend
def depsOkK (ops:Array Oper) (D:Nat→List Nat) (k:Nat):Bool:=(List.range k).all fun i=>(D i).all fun j=>waitsB ops i j
theorem depsOkK_spec {ops:Array Oper} {D:Nat→List Nat} {k:Nat} (h:depsOkK ops D k = true) {i j:Nat} (hi:i < k) (hj:j ∈ D i):waitsB ops i j = true:=by
 unfold depsOkK at h;rw [List.all_eq_true] at h;have:=h i (List.mem_range.2 hi);rw [List.all_eq_true] at this;exact this j hj
theorem wp_region_vals_rest {P:Program} {id:Nat} {L:List Oper} {Q:Exit→Act→World→Prop} {a:Act} {w:World} (k:Nat) (V:Nat→Option Value) (D:Nat→List Nat) (F:Nat→Value→World→Prop) (A:(Nat→Value)→Act)
  (hm:P.follows .mixedOrders = true) (hs:apartB L.toArray = true) (hord:orderB L.toArray = true) (ht:tailB L.toArray k = true) (hk:k≤L.length) (hD:depsOkK L.toArray D k = true)
  (hA:∀ xs,putAll L.toArray xs (List.range L.toArray.size) a = A xs)
  (hstep:AllFrom (fun i o=>∀ (xs:Nat→Value) (w':World),Mod Nowhere w.drew w'→(∀ j,j ∈ D i→∀ W,Mod Nowhere w' W→known V F j (xs j) W)→∀ K:Act→World→Prop,(∀ v w'',(∀ W,Mod Nowhere w'' W→known V F i v W)→Mod Nowhere w' w''→K ((A (mixD V (D i) xs)).put o.dst v) w'') →
   if Region.wanted o (yielded L.toArray (A (mixD V (D i) xs)).tmps) = true then Oper.wp P o (A (mixD V (D i) xs)) w' K Q else K ((A (mixD V (D i) xs)).put o.dst undef) w') 0 (L.take k))
  (hend:∀ xs w',Mod Nowhere w.drew w'→(∀ i,i < k→∀ W,Mod Nowhere w' W→known V F i (xs i) W)→wpList P L.toArray Q (L.drop k) (A (mixN V k xs)) w') :
  (Code.region id L.toArray true).wp P Q a w:=by
 refine wp_region_calm_rest k (known V F) A hm hs hord ht hk hA (AllFrom.imp 0 (L.take k) (fun i o _ hi h xs w' hR hF K hK=>?_) hstep) (fun xs w' hR hF=>?_)
 ·have hik:i < k:=by rw [List.length_take] at hi;omega
  have hd:∀ j,j ∈ D i→∀ W,Mod Nowhere w' W→known V F j (xs j) W:=fun j hj=>hF j (depsOkK_spec hD hik hj);have e:=mixD_eq fun j hj=>hd j hj w' (Mod.refl _ _);have h1:=h xs w' hR hd K;rw [e] at h1;exact h1 hK
 ·have e:=mixN_eq (V:=V) (F:=F) (n:=k) (xs:=xs) (w:=w') fun j hj=>hF j hj w' (Mod.refl _ _);have h1:=hend xs w' hR hF;rw [e] at h1;exact h1
end Go.Proofs.YtanioleniadhoaaGreat
namespace Go.Proofs.YtanioleniadhoaaGreat
open Go.RowKit
attribute [local go_sem] Oper.semAt_some
def Cy.keyC (l:List Nat):List Value:=(List.range 16).map fun i=>Value.int .u32 ((Cy.rk l i:Nat):Int)
theorem crun_ok (w:World) (l:List Nat) (x y:Nat) (hx:x < 4294967296) (hy:y < 4294967296) :
  Calls Tryz.prog 309 #[.agg #[.int .u32 (x:Int),.int .u32 (y:Int)],.agg (Cy.keyC l).toArray] w fun e w'=>e = .returned (.agg #[.int .u32 ((Cy.rds l x y 16).2:Nat),.int .u32 ((Cy.rds l x y 16).1:Nat)])∧Mod Nowhere w w':=by
 go_enter Tryz.func309,Tryz.ntmps309;go_wp2_with fail
 go_loopw [6] (fun i wr=>∃ k:Nat,k≤16∧i = .int .i64 k∧Blk wr w.heap.size [.int .u32 ((Cy.rds l x y k).1:Nat),.int .u32 ((Cy.rds l x y k).2:Nat)] 352∧Blk wr (w.heap.size + 1) (Cy.keyC l) 349∧Blk wr (w.heap.size + 2) [.int .u32 0,.int .u32 0] 352∧Mod Nowhere w wr) (fun i _=>16 - (intOf i).toNat)
 case atStart =>
  refine ⟨0,by omega,rfl,(((Blk.new w [.int .u32 (x:Int),.int .u32 (y:Int)] 352).mod ((Mod.refl Nowhere _).alloc _) (fun e=>e)).mod ((Mod.refl Nowhere _).alloc _) (fun e=>e)).conv rfl,?_,?_,(((Mod.refl Nowhere w).alloc _).alloc _).alloc _⟩
  ·have:=(Blk.new (w.alloc (.cells #[.int .u32 (x:Int),.int .u32 (y:Int)] 352)) (Cy.keyC l) 349).mod ((Mod.refl Nowhere _).alloc (.cells #[Value.int .u32 0,Value.int .u32 0] 352)) (fun e=>e);simpa using this
  ·have:=Blk.new ((w.alloc (.cells #[.int .u32 (x:Int),.int .u32 (y:Int)] 352)).alloc (.cells (Cy.keyC l).toArray 349)) [Value.int .u32 0,Value.int .u32 0] 352;simpa using this
 case round =>
  obtain ⟨k,hk,rfl,hB,hA,hZ,hm⟩:=hrel;obtain ⟨hb1,hb2⟩:=Cy.rds_lt (key:=l) hx hy k;have hs:Cy.rds l x y (k + 1) = ((Cy.rds l x y k).2,(Cy.rds l x y k).1 ^^^ Cy.fB (Cy.rds l x y k).2 (Cy.rk l k)):=rfl;by_cases hlt:k < 16
  ·have hcl:∀ w',Mod Nowhere wr w'→w'.cell? ⟨w.heap.size,0,none⟩ = some (.int .u32 ((Cy.rds l x y k).1:Nat))∧w'.cell? ⟨w.heap.size,1,none⟩ = some (.int .u32 ((Cy.rds l x y k).2:Nat))∧w'.cell? ⟨w.heap.size + 1,k,none⟩ = some (.int .u32 ((Cy.rk l k:Nat):Int))∧w.heap.size < w'.heap.size∧w.heap.size + 1 < w'.heap.size:=by
    intro w' hm';have g1:=hB.mod hm' (fun e=>e);have g2:=hA.mod hm' (fun e=>e);exact ⟨g1.cell 0,g1.cell 1,by rw [g2.cell];simp [Cy.keyC,hlt],g1.lt,g2.lt⟩
   have fin:∀ w',Mod Nowhere wr w'→Blk w' w.heap.size [.int .u32 ((Cy.rds l x y k).1:Nat),.int .u32 ((Cy.rds l x y k).2:Nat)] 352∧Blk w' (w.heap.size + 1) (Cy.keyC l) 349∧Blk w' (w.heap.size + 2) [.int .u32 0,.int .u32 0] 352∧Mod Nowhere w w':=fun w' hm'=>⟨hB.mod hm' (fun e=>e),hA.mod hm' (fun e=>e),hZ.mod hm' (fun e=>e),hm.trans hm'⟩;clear hB hA hZ hm;generalize (Cy.rds l x y k).1 = xl at *;generalize (Cy.rds l x y k).2 = xr at *;have hx:=u32_xor_nat xl (Cy.fB xr (Cy.rk l k)) hb1 (Cy.fB_lt _ _);have hf:=fun W=>cf_ok W xr (Cy.rk l k);generalize Cy.fB xr (Cy.rk l k) = ff at *
   generalize Cy.rk l k = rkk at *;refine hid4 ?_ hcl fin hs hf;clear hcl fin hs hf;intro hcl fin hs hf;go_wp2_with fail;rw [show decide ((k:Int) < 16) = true from decide_eq_true (by omega)];refine wp_region_vals_rest 12 (fun i=>match i with | 0=>some (.pointer (some ⟨w.heap.size,1,none⟩)) | 1=>some (.int .u32 (xr:Nat)) | 2=>some (.pointer (some ⟨w.heap.size,0,none⟩)) | 3=>some (.int .u32 (xl:Nat)) | 4=>some (.pointer (some ⟨w.heap.size,1,none⟩)) | 5=>some (.int .u32 (xr:Nat)) | 6=>some (.int .i64 (k:Nat)) | 7=>some (.pointer (some ⟨w.heap.size + 1,k,none⟩)) | 8=>some (.int .u32 (rkk:Nat)) | 9=>some (.int .u32 (ff:Nat)) | 10=>some (.int .u32 ((xl ^^^ ff:Nat):Int)) | 11=>some (.agg #[.int .u32 (xr:Nat),.int .u32 ((xl ^^^ ff:Nat):Int)]) | _=>none) (fun i=>match i with | 1=>[0] | 3=>[2] | 5=>[4] | 7=>[6] | 8=>[7] | 9=>[5,8] | 10=>[3,9] | 11=>[1,10] | _=>[]) (fun _ _ _=>True) ?A_4_0 (by first | assumption | kernel_rfl) (by kernel_rfl) (by kernel_rfl) (by kernel_rfl) (by decide) (by kernel_rfl) ?hA_4_0 ?hS_4_0 ?hE_4_0
   case hA_4_0=>intro xs;simp [putAll,List.range,List.range.loop,Act.put] <;> rfl
   case hS_4_0 =>
    refine ⟨?_,?q1_4_0,?_,?q3_4_0,?_,?q5_4_0,?_,?_,?q8_4_0,?q9_4_0,?_,?_,trivial⟩
    case q1_4_0 =>
     intro yv w' hR hF K hK;clear hF;clear hf fin hs;obtain ⟨z0,z1,z2,zl,zm⟩:=hcl.out w' ((Mod.refl Nowhere wr).drew.trans hR)
     go_simp
     exact hK _ _ (fun _ _=>rfl) (Mod.refl _ _)
    case q3_4_0 =>
     intro yv w' hR hF K hK;clear hF;clear hf fin hs;obtain ⟨z0,z1,z2,zl,zm⟩:=hcl.out w' ((Mod.refl Nowhere wr).drew.trans hR)
     go_simp
     exact hK _ _ (fun _ _=>rfl) (Mod.refl _ _)
    case q5_4_0 =>
     intro yv w' hR hF K hK;clear hF;clear hf fin hs;obtain ⟨z0,z1,z2,zl,zm⟩:=hcl.out w' ((Mod.refl Nowhere wr).drew.trans hR)
     go_simp
     exact hK _ _ (fun _ _=>rfl) (Mod.refl _ _)
    case q8_4_0 =>
     intro yv w' hR hF K hK;clear hF;clear hf fin hs;obtain ⟨z0,z1,z2,zl,zm⟩:=hcl.out w' ((Mod.refl Nowhere wr).drew.trans hR)
     go_simp
     exact hK _ _ (fun _ _=>rfl) (Mod.refl _ _)
    case q9_4_0 =>
     intro yv w' hR hF K hK;clear hF;have hc:=hf.out w';replace hc:=Lib.hid hc
     go_simp
     go_at_call 332
     refine hc.out.mono ?_;rintro e w1 ⟨rfl,rfl⟩;exact hK _ _ (fun _ _=>rfl) (Mod.refl _ _)
    all_goals
     intro yv w' hR hF K hK;clear hF
     go_simp
     exact hK _ _ (fun _ _=>by first | trivial | exact rfl | simp [*,known]) (Mod.refl _ _)
   case hE_4_0 =>
    intro yv w' hR hF;clear hF;simp only [mixN,Option.getD_some,Option.getD_none,Nat.reduceLT,if_true];simp only [List.drop_succ_cons,List.drop_zero];obtain ⟨b2,b3,b4,hm2⟩:=fin.out w' ((Mod.refl Nowhere wr).drew.trans hR);obtain ⟨z0,z1,z2,zl,zm⟩:=hcl.out w' ((Mod.refl Nowhere wr).drew.trans hR);have zf:=b2.frozen;refine hid4 ?_ b2 b3 b4 hm2;clear b2 b3 b4 hm2;intro b2 b3 b4 hm2;clear hcl fin hf;have hb':=(b2.out.setCell 0 (.int .u32 (xr:Nat))).setCell 1 (.int .u32 ((xl ^^^ ff:Nat):Int));have hm3:=((Mod.refl (fun j=>j = w.heap.size) w').setCell (p:=⟨w.heap.size,0,none⟩) (fun _=>rfl) (.int .u32 (xr:Nat))).setCell (p:=⟨w.heap.size,1,none⟩) (fun _=>rfl) (.int .u32 ((xl ^^^ ff:Nat):Int));have hfin:=b3.out.mod hm3 (by omega)
    have hfin2:=b4.out.mod hm3 (by omega);have hm4:=hm2.out.step hm3 fun i hi e=>absurd e (by omega);refine hid4 ?_ hb' hfin hfin2 hm4;clear hb' hfin hfin2 hm4;intro hb' hfin hfin2 hm4;clear hm3 hm2 b2 b3 b4 zm;go_wp2;go_roundw
    case rel=>exact ⟨k + 1,by omega,by go_num,by rw [hs.out];exact hb'.out,hfin.out,hfin2.out,hm4.out⟩
    case measure=>simp [intOf];omega
  ·obtain rfl:k = 16:=by omega
   obtain ⟨xl,hxl⟩:∃ z,(Cy.rds l x y 16).1 = z:=⟨_,rfl⟩;obtain ⟨xr,hxr⟩:∃ z,(Cy.rds l x y 16).2 = z:=⟨_,rfl⟩;rw [hxl,hxr] at hB;rw [hxl] at hb1;rw [hxr] at hb2;refine hid2 ?_ hxl hxr;clear hxl hxr;intro hxl hxr;clear hs;have z0:=hB.cell 0;have z1:=hB.cell 1;have zf:=hB.frozen;have zl:=hB.lt;have y0:=hZ.cell 0;have y1:=hZ.cell 1;have yf:=hZ.frozen;have yl:=hZ.lt;simp only [gz0,gs0] at z0 z1 y0 y1;have hZ':=(hZ.setCell 0 (.int .u32 (xr:Nat))).setCell 1 (.int .u32 (xl:Nat));have hm':=(hm.setCell (p:=⟨w.heap.size + 2,0,none⟩) (fun h=>by have h:w.heap.size + 2 < w.heap.size:=h;omega) (.int .u32 (xr:Nat))).setCell (p:=⟨w.heap.size + 2,1,none⟩) (fun h=>by have h:w.heap.size + 2 < w.heap.size:=h;omega) (.int .u32 (xl:Nat));refine hid6 ?_ hZ' hm' hB hA hZ hm;clear hZ' hm' hB hA hZ hm;intro hZ' hm' hB hA hZ hm
   go_wp2;refine bodyPost_ret (results_cell_row rfl _ _ (w.heap.size + 2) 352 _ (0,0) _ rfl hZ'.out Tryz.underlying352 rfl (by kernel_rfl)) rfl ?_;exact ⟨by rw [hxl.out,hxr.out];rfl,hm'.out⟩
end Go.Proofs.YtanioleniadhoaaGreat
namespace Go.Proofs.YtanioleniadhoaaGreat
open Go.RowKit
open Jn
attribute [local go_sem] Oper.semAt_some
theorem Src.lies {w:World} {b off n cap:Nat} {d:List Nat} (h:Src w (.slice (some ⟨b,off,none⟩) n cap) d):Lies w b off d:=by
 intro w' hm i hi;obtain ⟨a,c,e,h1,h2,h3⟩:=h.fresh hm;simp at e;obtain ⟨rfl,rfl,rfl⟩:=e;obtain ⟨b',off',e,hb,hc⟩:=h3 (by omega);simp at e;obtain ⟨rfl,rfl⟩:=e;rw [hc i hi]
theorem by4_src (W:World) {z:Nat} (hz:z < 4294967296):Src (W.alloc (.cells #[.int .u8 ((z:Int) / 16777216),.int .u8 ((z:Int) / 65536 % 256),.int .u8 ((z:Int) / 256 % 256),.int .u8 ((z:Int) % 256)] 5)) (.slice (some ⟨W.heap.size,0,none⟩) 4 4) (Cy.by4 z):=by
 have e:u8s (Cy.by4 z) = [.int .u8 ((z:Int) / 16777216),.int .u8 ((z:Int) / 65536 % 256),.int .u8 ((z:Int) / 256 % 256),.int .u8 ((z:Int) % 256)]:=by
  simp only [u8s,Cy.by4,List.map_cons,List.map_nil];rw [show ((z / 16777216 % 256:Nat):Int) = (z:Int) / 16777216 by omega]
  rfl
 have hb:=Blk.new W (u8s (Cy.by4 z)) 5;rw [e] at hb;refine DSl.src (d:=Cy.by4 z) ?_;have:=sl_whole (sz:=1) (n:=4) hb rfl (by decide);unfold DSl;rw [e];exact this
theorem info_u32y:(Tryz.prog.info? 315).map (fun i=>(i.zero,i.size,i.bytes)) = some (some (Value.int .u32 0),1,4):=by kernel_rfl
theorem idx_halves (W:World) (x y z k:Nat) (h:k = 0∧z = x ∨ k = 1∧z = y):(Instr.index 352 (.agg #[Value.int .u32 (x:Nat),Value.int .u32 (y:Nat)]) (.int .i64 (k:Nat))).run Tryz.prog W = .ok (.int .u32 (z:Nat)) W:=by
 obtain ⟨i0,hi0,hz0,hz1,hz2⟩:=info_parts info_u32y;rcases h with ⟨rfl,rfl⟩ | ⟨rfl,rfl⟩ <;> simp [Instr.index,asIntOf,run_underlying Tryz.underlying352,run_underlying Tryz.underlying315,sizeOf,typeInfo,hi0,hz1,part,isAgg]
theorem ccrypt_own (w:World) (b off cap b' off' cap':Nat) (l m:List Nat) (h:Lies w b off l) (hl:l.length = 16) (hb:∀ x ∈ l,x < 256) (hc:16≤cap) (hcap:cap≤maxLen) (h':Lies w b' off' m) (hl':m.length = 8) (hb':∀ x ∈ m,x < 256) (hc':8≤cap') (hcap':cap'≤maxLen) :
  Calls Tryz.prog 284 #[.slice (some ⟨b,off,none⟩) 16 cap,.slice (some ⟨b',off',none⟩) 8 cap',.bool false] w fun e w'=>∃ v,e = .returned (.tuple #[v,.int .i64 0])∧DSl w' v (Cy.encB l m)∧(∀ k,v.ownBlock = some k→w.heap.size≤k)∧Mod Nowhere w w':=by
 have hN:=fun w1 (hm:Mod Nowhere w w1) q (hq:q + 3 < 8) cap'=>cnum_ok w1 b' (off' + q) cap' (m.getD q 0) (m.getD (q + 1) 0) (m.getD (q + 2) 0) (m.getD (q + 3) 0)
  (fun w' hm'=>⟨h' w' (hm.trans hm') q (by omega),by have:=h' w' (hm.trans hm') (q + 1) (by omega);simpa [Nat.add_assoc] using this,by have:=h' w' (hm.trans hm') (q + 2) (by omega);simpa [Nat.add_assoc] using this,by have:=h' w' (hm.trans hm') (q + 3) (by omega);simpa [Nat.add_assoc] using this⟩)
  (Cy.getD_lt hb' _) (Cy.getD_lt hb' _) (Cy.getD_lt hb' _) (Cy.getD_lt hb' _)
 have hA:∀ W,Mod Nowhere w W→∀ c,Calls Tryz.prog 310 #[.slice (some ⟨b',off',none⟩) 4 c] W fun e w'=>e = .returned (.int .u32 ((Cy.num4 m 0:Nat):Int))∧Mod Nowhere W w':=fun W hm c=>hN W hm 0 (by omega) c;have hB:∀ W,Mod Nowhere w W→∀ c,Calls Tryz.prog 310 #[.slice (some ⟨b',off' + 4,none⟩) 4 c] W fun e w'=>e = .returned (.int .u32 ((Cy.num4 m 4:Nat):Int))∧Mod Nowhere W w':=fun W hm c=>hN W hm 4 (by omega) c;have hn0:=Cy.num4_lt hb' 0;have hn4:=Cy.num4_lt hb' 4;have hKy:=ckeys_ok w b off cap l h hl hb hc hcap;have hRun:=fun W=>crun_ok W l (Cy.num4 m 0) (Cy.num4 m 4) hn0 hn4;obtain ⟨hr1,hr2⟩:=Cy.rds_lt (key:=l) hn0 hn4 16
 have he:Cy.encB l m = Cy.by4 (Cy.rds l (Cy.num4 m 0) (Cy.num4 m 4) 16).2 ++ Cy.by4 (Cy.rds l (Cy.num4 m 0) (Cy.num4 m 4) 16).1:=rfl;rw [he];clear hN h h' hb hb' hl hl' he;have hkey:(Cy.keyC l).toArray = #[Value.int .u32 ((Cy.rk l 0:Nat):Int),Value.int .u32 ((Cy.rk l 1:Nat):Int),Value.int .u32 ((Cy.rk l 2:Nat):Int),Value.int .u32 ((Cy.rk l 3:Nat):Int),Value.int .u32 ((Cy.rk l 4:Nat):Int),Value.int .u32 ((Cy.rk l 5:Nat):Int),Value.int .u32 ((Cy.rk l 6:Nat):Int),Value.int .u32 ((Cy.rk l 7:Nat):Int),Value.int .u32 ((Cy.rk l 8:Nat):Int),Value.int .u32 ((Cy.rk l 9:Nat):Int),Value.int .u32 ((Cy.rk l 10:Nat):Int),Value.int .u32 ((Cy.rk l 11:Nat):Int),Value.int .u32 ((Cy.rk l 12:Nat):Int),Value.int .u32 ((Cy.rk l 13:Nat):Int),Value.int .u32 ((Cy.rk l 14:Nat):Int),Value.int .u32 ((Cy.rk l 15:Nat):Int)]:=rfl;have hkey2:((List.range 16).map fun i=>Value.int .u32 ((Cy.rk l i:Nat):Int)).toArray = (Cy.keyC l).toArray:=rfl
 rw [hkey2,hkey] at hKy;rw [hkey] at hRun;clear hkey hkey2;generalize (Cy.rds l (Cy.num4 m 0) (Cy.num4 m 4) 16).1 = xl at *;generalize (Cy.rds l (Cy.num4 m 0) (Cy.num4 m 4) 16).2 = xr at *;generalize Cy.num4 m 0 = n0 at *;generalize Cy.num4 m 4 = n4 at *;generalize Cy.rk l 0 = k0 at *;generalize Cy.rk l 1 = k1 at *;generalize Cy.rk l 2 = k2 at *;generalize Cy.rk l 3 = k3 at *;generalize Cy.rk l 4 = k4 at *;generalize Cy.rk l 5 = k5 at *;generalize Cy.rk l 6 = k6 at *;generalize Cy.rk l 7 = k7 at *;generalize Cy.rk l 8 = k8 at *;generalize Cy.rk l 9 = k9 at *;generalize Cy.rk l 10 = k10 at *;generalize Cy.rk l 11 = k11 at *
 generalize Cy.rk l 12 = k12 at *;generalize Cy.rk l 13 = k13 at *;generalize Cy.rk l 14 = k14 at *;generalize Cy.rk l 15 = k15 at *;unfold maxLen at hcap hcap';refine hid4 ?_ hA hB hKy hRun;clear hA hB hKy hRun;intro hA hB hKy hRun;go_enter Tryz.func284,Tryz.ntmps284;go_wp2_with fail;refine (hKy.out).mono ?_;rintro e w1 ⟨rfl,hm1⟩;have hb:=Blk.new w1 [Value.int .u32 (k0:Nat),Value.int .u32 (k1:Nat),Value.int .u32 (k2:Nat),Value.int .u32 (k3:Nat),Value.int .u32 (k4:Nat),Value.int .u32 (k5:Nat),Value.int .u32 (k6:Nat),Value.int .u32 (k7:Nat),Value.int .u32 (k8:Nat),Value.int .u32 (k9:Nat),Value.int .u32 (k10:Nat),Value.int .u32 (k11:Nat),Value.int .u32 (k12:Nat),Value.int .u32 (k13:Nat),Value.int .u32 (k14:Nat),Value.int .u32 (k15:Nat)] 349;have hm2:=hm1.alloc (.cells #[Value.int .u32 (k0:Nat),Value.int .u32 (k1:Nat),Value.int .u32 (k2:Nat),Value.int .u32 (k3:Nat),Value.int .u32 (k4:Nat),Value.int .u32 (k5:Nat),Value.int .u32 (k6:Nat),Value.int .u32 (k7:Nat),Value.int .u32 (k8:Nat),Value.int .u32 (k9:Nat),Value.int .u32 (k10:Nat),Value.int .u32 (k11:Nat),Value.int .u32 (k12:Nat),Value.int .u32 (k13:Nat),Value.int .u32 (k14:Nat),Value.int .u32 (k15:Nat)] 349)
 refine hid3 ?_ hm1 hb hm2;clear hm1 hb hm2;intro hm1 hb hm2;go_wp2_with fail;obtain ⟨W0,hW0⟩:∃ W,w1.alloc (.cells #[Value.int .u32 (k0:Nat),Value.int .u32 (k1:Nat),Value.int .u32 (k2:Nat),Value.int .u32 (k3:Nat),Value.int .u32 (k4:Nat),Value.int .u32 (k5:Nat),Value.int .u32 (k6:Nat),Value.int .u32 (k7:Nat),Value.int .u32 (k8:Nat),Value.int .u32 (k9:Nat),Value.int .u32 (k10:Nat),Value.int .u32 (k11:Nat),Value.int .u32 (k12:Nat),Value.int .u32 (k13:Nat),Value.int .u32 (k14:Nat),Value.int .u32 (k15:Nat)] 349) = W:=⟨_,rfl⟩;have hb:=hb.out;have hm2:=hm2.out;rw [show [Value.int .u32 (k0:Nat),Value.int .u32 (k1:Nat),Value.int .u32 (k2:Nat),Value.int .u32 (k3:Nat),Value.int .u32 (k4:Nat),Value.int .u32 (k5:Nat),Value.int .u32 (k6:Nat),Value.int .u32 (k7:Nat),Value.int .u32 (k8:Nat),Value.int .u32 (k9:Nat),Value.int .u32 (k10:Nat),Value.int .u32 (k11:Nat),Value.int .u32 (k12:Nat),Value.int .u32 (k13:Nat),Value.int .u32 (k14:Nat),Value.int .u32 (k15:Nat)].toArray = #[Value.int .u32 (k0:Nat),Value.int .u32 (k1:Nat),Value.int .u32 (k2:Nat),Value.int .u32 (k3:Nat),Value.int .u32 (k4:Nat),Value.int .u32 (k5:Nat),Value.int .u32 (k6:Nat),Value.int .u32 (k7:Nat),Value.int .u32 (k8:Nat),Value.int .u32 (k9:Nat),Value.int .u32 (k10:Nat),Value.int .u32 (k11:Nat),Value.int .u32 (k12:Nat),Value.int .u32 (k13:Nat),Value.int .u32 (k14:Nat),Value.int .u32 (k15:Nat)] from rfl] at hb
 rw [hW0] at hb hm2 ⊢;clear hW0 hm1;generalize w1.heap.size = B at *;refine hid2 ?_ hb hm2;clear hb hm2;intro hb hm2;refine wp_region_vals (fun i=>match i with | 0=>some (.slice (some ⟨b',off',none⟩) 8 cap') | 1=>some (.slice (some ⟨b',off',none⟩) 4 cap') | 2=>some (.int .u32 (n0:Nat)) | 3=>some (.slice (some ⟨b',off',none⟩) 8 cap') | 4=>some (.slice (some ⟨b',off' + 4,none⟩) 4 (cap' - 4)) | 5=>some (.int .u32 (n4:Nat)) | 6=>some (.agg #[.int .u32 (n0:Nat),.int .u32 (n4:Nat)]) | 7=>some (.agg #[.int .u32 (k0:Nat),.int .u32 (k1:Nat),.int .u32 (k2:Nat),.int .u32 (k3:Nat),.int .u32 (k4:Nat),.int .u32 (k5:Nat),.int .u32 (k6:Nat),.int .u32 (k7:Nat),.int .u32 (k8:Nat),.int .u32 (k9:Nat),.int .u32 (k10:Nat),.int .u32 (k11:Nat),.int .u32 (k12:Nat),.int .u32 (k13:Nat),.int .u32 (k14:Nat),.int .u32 (k15:Nat)]) | 8=>some (.agg #[.int .u32 (xr:Nat),.int .u32 (xl:Nat)]) | 9=>some (.int .i64 0) | _=>none) (fun i=>match i with | 1=>[0] | 2=>[1] | 4=>[3] | 5=>[4,2] | 6=>[2,5] | 8=>[6,7,5] | _=>[]) 10 (fun _ _ _=>True) ?A_13_0 (by first | assumption | kernel_rfl) (by kernel_rfl) (by kernel_rfl) (by kernel_rfl) (by rfl) ?hA_13_0 ?hS_13_0 ?hE_13_0
 case hA_13_0=>intro xs;simp [putAll,List.range,List.range.loop,Act.put] <;> rfl
 case hS_13_0 =>
  refine ⟨?_,?q1_13_0,?q2_13_0,?_,?q4_13_0,?q5_13_0,?_,?q7_13_0,?q8_13_0,?_,trivial⟩
  case q1_13_0 =>
   intro yv w' hR hF K hK;clear hF;have hx:(4:Int)≤(cap':Int):=by omega
   go_simp
   exact hK _ _ (fun _ _=>rfl) (Mod.refl _ _)
  case q2_13_0 =>
   intro yv w' hR hF K hK;clear hF;have hc:=hA.out w' (hm2.out.drew.trans hR) cap';replace hc:=Lib.hid hc
   go_simp
   go_at_call 310
   refine hc.out.mono ?_;rintro e w2 ⟨rfl,hm1'⟩;exact hK _ _ (fun _ _=>rfl) hm1'
  case q4_13_0 =>
   intro yv w' hR hF K hK;clear hF;have hx:(4:Int)≤(cap':Int):=by omega
   go_simp
   exact hK _ _ (fun _ _=>by show _ = _;simp;omega) (Mod.refl _ _)
  case q5_13_0 =>
   intro yv w' hR hF K hK;clear hF;have hc:=hB.out w' (hm2.out.drew.trans hR) (cap' - 4);replace hc:=Lib.hid hc
   go_simp
   go_at_call 310
   refine hc.out.mono ?_;rintro e w2 ⟨rfl,hm1'⟩;exact hK _ _ (fun _ _=>rfl) hm1'
  case q7_13_0 =>
   intro yv w' hR hF K hK;clear hF;have b2:=hb.out.mod ((Mod.refl Nowhere W0).drew.trans hR) (fun e=>e);have y0:=b2.cell 0;have y1:=b2.cell 1;have y2:=b2.cell 2;have y3:=b2.cell 3;have y4:=b2.cell 4;have y5:=b2.cell 5;have y6:=b2.cell 6;have y7:=b2.cell 7;have y8:=b2.cell 8;have y9:=b2.cell 9;have y10:=b2.cell 10;have y11:=b2.cell 11;have y12:=b2.cell 12;have y13:=b2.cell 13;have y14:=b2.cell 14;have y15:=b2.cell 15;simp only [gz0,gs0] at y0 y1 y2 y3 y4 y5 y6 y7 y8 y9 y10 y11 y12 y13 y14 y15;have yl:=b2.lt;clear b2 hA hB hKy hRun
   go_simp
   exact hK _ _ (fun _ _=>rfl) (Mod.refl _ _)
  case q8_13_0 =>
   intro yv w' hR hF K hK;clear hF;have hc:=hRun.out w';replace hc:=Lib.hid hc
   go_simp
   go_at_call 309
   refine hc.out.mono ?_;rintro e w2 ⟨rfl,hm1'⟩;exact hK _ _ (fun _ _=>rfl) hm1'
  all_goals
   intro yv w' hR hF K hK;clear hF
   go_simp
   exact hK _ _ (fun _ _=>by first | trivial | exact rfl | simp [*,known]) (Mod.refl _ _)
 case hE_13_0 =>
  intro yv w' hR hF;clear hF;simp only [mixN,Option.getD_some,Option.getD_none,Nat.reduceLT,if_true];have hm3:=hm2.out.drew.trans hR;clear hR hb hm2 hA hB hKy hRun;replace hm3:=Lib.hid hm3;go_wp2
  go_loopw [10,47] (fun v i wr=>∃ k:Nat,k≤2∧i = .int .i64 k∧wr.ownsRow w.heap.size 5 1 v (4 * k) (u8s ((Cy.by4 xr ++ Cy.by4 xl).take (4 * k)))∧Mod Nowhere w wr) (fun _ i _=>2 - (intOf i).toNat)
  case atStart=>exact ⟨0,by omega,rfl,World.ownsRow_nil _ _ _ _,hm3.out⟩
  case round =>
   obtain ⟨k,hk,rfl,hown,hm⟩:=hrel;by_cases hlt:k < 2
   ·obtain ⟨va,vcap,rfl,hvc⟩:=owns_form hown
    have hz:∃ z:Nat,z < 4294967296∧(k = 0∧z = xr ∨ k = 1∧z = xl):=by
     rcases (show k = 0 ∨ k = 1 by omega) with e | e
     ·exact ⟨xr,hr2,.inl ⟨e,rfl⟩⟩
     ·exact ⟨xl,hr1,.inr ⟨e,rfl⟩⟩
    obtain ⟨z,hz1,hz2⟩:=hz;have hix:=fun W=>idx_halves W xr xl z k hz2;have hm3:Mod Nowhere wr (wr.alloc (.cells #[.int .u8 ((z:Int) / 16777216),.int .u8 ((z:Int) / 65536 % 256),.int .u8 ((z:Int) / 256 % 256),.int .u8 ((z:Int) % 256)] 5)):=(Mod.refl _ wr).alloc _;have hwz:=hm.size;obtain ⟨va2,vc2,w3,hrun,hown2,hmA⟩:=append_to (l:=(Cy.by4 xr ++ Cy.by4 xl).take (4 * k)) (n:=4 * k) (by rw [List.length_take,List.length_append];show min (4 * k) (4 + 4) = _;omega) (owns_mod hown hm3 (fun _ _ e=>e)) (by4_src wr hz1) (by show 4 * k + 4≤_;omega) (by simp only [World.size_alloc];omega) 22;rw [show (Cy.by4 z).length = 4 from rfl] at hrun hown2
    have htk:(Cy.by4 xr ++ Cy.by4 xl).take (4 * k) ++ Cy.by4 z = (Cy.by4 xr ++ Cy.by4 xl).take (4 * (k + 1)):=by
     rcases hz2 with ⟨rfl,rfl⟩ | ⟨rfl,rfl⟩ <;> rfl
    rw [htk] at hown2;have hmF:Mod Nowhere w w3:=(hm.trans hm3).step hmA fun i hi e=>by have e:w.heap.size≤i:=e;omega
    clear hm3 hmA htk hwz;refine hid5 ?_ hown hm hz2 hown2 hmF;clear hown hm hz2 hown2 hmF;intro hown hm hz2 hown2 hmF
    go_wp2_with (at_builtin;refine Lib.wpList_append_run _ rfl _ _ _ _ rfl _ _ (by rfl) (by rfl) _ _ hrun ?_;clear hrun)
    go_roundw
    case rel=>exact ⟨k + 1,by omega,by go_num,hown2.out,hmF.out⟩
    case measure=>simp [intOf];omega
   ·obtain rfl:k = 2:=by omega
    rw [show (Cy.by4 xr ++ Cy.by4 xl).take (4 * 2) = Cy.by4 xr ++ Cy.by4 xl from rfl] at hown;have hfr:=owns_fresh hown;have hfin:DSl wr _ (Cy.by4 xr ++ Cy.by4 xl):=Sl.of_owns hown;refine hid4 ?_ hown hm hfin hfr;clear hown hm hfin hfr;intro hown hm hfin hfr;go_wp2
    go_ret2
    exact ⟨_,rfl,hfin.out,hfr.out,hm.out⟩
end Go.Proofs.YtanioleniadhoaaGreat
namespace Go.Proofs.YtanioleniadhoaaGreat
open Go.RowKit
attribute [local go_sem] Oper.semAt_some
theorem rEncrypt_ok (w:World) (b off cap b' off' cap':Nat) (l m:List Nat) (h:Lies w b off l) (hl:l.length = 16) (hb:∀ x ∈ l,x < 256) (hc:16≤cap) (hcap:cap≤maxLen) (h':Lies w b' off' m) (hl':m.length = 8) (hb':∀ x ∈ m,x < 256) (hc':8≤cap') (hcap':cap'≤maxLen) :
  Calls Tryz.prog 206 #[.slice (some ⟨b,off,none⟩) 16 cap,.slice (some ⟨b',off',none⟩) 8 cap'] w fun e w'=>∃ g,e = .returned (.tuple #[.slice (some ⟨g,0,none⟩) 8 8,.int .i64 0])∧Blk w' g (u8s (Cy.encB l m)) 5∧w.heap.size≤g∧Mod Nowhere w w':=by
 have hR:=rrun_ok w b off cap b' off' cap' l m h hl hb hc hcap h' hl' hb' hc' hcap';clear h h' hl hl' hb hb' hc hcap hc' hcap';replace hR:=Lib.hid hR;go_enter Tryz.func206,Tryz.ntmps206;go_wp2_with fail;refine hR.out.mono ?_;rintro e w' ⟨g,rfl,hB,hg,hm⟩;replace hB:=Lib.hid hB;go_wp2
 go_ret2
 exact ⟨g,rfl,hB.out,hg,hm⟩
end Go.Proofs.YtanioleniadhoaaGreat
namespace Go.Proofs.YtanioleniadhoaaGreat
open Go.RowKit
open Jn
attribute [local go_sem] Oper.semAt_some
theorem Src.form {w:World} {v:Value} {d:List Nat} (h:Src w v d) (h0:0 < d.length):∃ b off cap,v = .slice (some ⟨b,off,none⟩) d.length cap∧d.length≤cap∧cap≤maxLen∧Lies w b off d:=by
 have h':=h;obtain ⟨a,c,rfl,h1,h2,h3⟩:=h;obtain ⟨b,off,rfl,-⟩:=h3 h0;exact ⟨b,off,c,rfl,h1,h2,h'.lies⟩
theorem DSl.upto {w:World} {b off n cap:Nat} {d:List Nat} (h:DSl w (.slice (some ⟨b,off,none⟩) n cap) d) {k:Nat} (hk:k≤d.length):DSl w (.slice (some ⟨b,off,none⟩) k cap) (d.take k):=by
 have hl:(d.take k).length = k:=by rw [List.length_take];omega
 obtain ⟨h1,h2⟩:=h;unfold DSl;rw [hl];refine ⟨by rw [u8s,List.length_map,hl,Nat.mul_one],?_⟩;rcases h2 with ⟨e,-⟩ | ⟨b',off',cap',cs,e,hb,g1,g2,g3,g4⟩
 ·simp at e
 ·simp at e;obtain ⟨⟨rfl,rfl⟩,rfl,rfl⟩:=e;refine .inr ⟨_,_,_,cs,rfl,hb,by omega,g2,g3,?_⟩;have e2:u8s (d.take k) = (u8s d).take k:=by simp [u8s,List.map_take]
  rw [e2,← g4,List.take_take]
  congr 1
  omega
theorem DSl.from {w:World} {b off n cap:Nat} {d:List Nat} (h:DSl w (.slice (some ⟨b,off,none⟩) n cap) d) {k:Nat} (hk:k≤d.length):DSl w (.slice (some ⟨b,off + k,none⟩) (d.length - k) (cap - k)) (d.drop k):=by
 have hl:(d.drop k).length = d.length - k:=List.length_drop;obtain ⟨h1,h2⟩:=h;unfold DSl;rw [hl];refine ⟨by rw [u8s,List.length_map,hl,Nat.mul_one],?_⟩;rcases h2 with ⟨e,-⟩ | ⟨b',off',cap',cs,e,hb,g1,g2,g3,g4⟩
 ·simp at e
 ·simp at e;obtain ⟨⟨rfl,rfl⟩,rfl,rfl⟩:=e;refine .inr ⟨_,_,_,cs,rfl,hb,by omega,by omega,by omega,?_⟩;have e2:u8s (d.drop k) = (u8s d).drop k:=by simp [u8s,List.map_drop]
  rw [e2,← g4,Nat.mul_one,Nat.mul_one,List.drop_take,List.drop_drop]
section
variable {w : World} {v u : Value} {l m : List Nat}
theorem cEncrypt_own (hv:Src w v l) (hl:l.length = 16) (bl:Bytes l) (hu:Src w u m) (hm:m.length = 8) (bm:Bytes m) :
  Calls Tryz.prog 252 #[v,u] w fun e w'=>∃ r,e = .returned (.tuple #[r,errno 0])∧DSl w' r (Cy.encB l m)∧(∀ k,r.ownBlock = some k→w.heap.size≤k)∧Mod Nowhere w w':=by
 obtain ⟨b,off,cap,rfl,c1,c2,hb⟩:=hv.form (by omega);obtain ⟨b',off',cap',rfl,c3,c4,hb'⟩:=hu.form (by omega);rw [hl] at c1 ⊢;rw [hm] at c3 ⊢;have hR:=ccrypt_own w b off cap b' off' cap' l m hb hl (bytes_mem.1 bl) c1 c2 hb' hm (bytes_mem.1 bm) c3 c4;clear hb hb';replace hR:=Lib.hid hR;go_enter Tryz.func252,Tryz.ntmps252;go_wp2_with fail;refine (hR.out).mono ?_;rintro e w' ⟨r,rfl,hB,hfr,hm⟩;refine hid2 ?_ hB hfr;clear hB hfr;intro hB hfr;go_wp2
 go_ret2
 exact ⟨r,rfl,hB.out,hfr.out,hm⟩
theorem mEncrypt_own (hv:Src w v l) (hl:l.length = 16) (bl:Bytes l) (hu:Src w u m) (hm:m.length = 8) (bm:Bytes m) :
  Calls Tryz.prog 195 #[v,u] w fun e w'=>∃ r,e = .returned r∧DSl w' r (Cy.encB l m)∧(∀ k,r.ownBlock = some k→w.heap.size≤k)∧Mod Nowhere w w':=by
 have hR:=cEncrypt_own hv hl bl hu hm bm;obtain ⟨a1,c1,rfl,-⟩:=hv;obtain ⟨a2,c2,rfl,-⟩:=hu;refine hid3 ?_ hR hl hm;clear hR hl hm;intro hR hl hm;go_enter Tryz.func195,Tryz.ntmps195;go_wp2_with fail;refine (hR.out).mono ?_;rintro e w' ⟨r,rfl,hB,hfr,hm'⟩;refine hid3 ?_ hB hfr hm';clear hB hfr hm';intro hB hfr hm';go_wp2;go_ret;exact ⟨r,rfl,hB.out,hfr.out,hm'.out⟩
end
namespace Cy
def zeros:List Nat:=[0,0,0,0,0,0,0,0]
def chk (l:List Nat):List Nat:=(encB l zeros).take 3
end Cy
theorem made8 (W:World):(Instr.makeSlice 22 (.int .i64 8) (.int .i64 8)).run Tryz.prog W = .ok (.slice (some ⟨W.heap.size,0,none⟩) 8 8) (W.alloc (.cells (u8s Cy.zeros).toArray 5)):=by
 have:=run_make_full (P:=Tryz.prog) 22 5 (.int .u8 0) 1 Tryz.underlying22 info_u8 rfl 8 (by omega) (by omega) W;simpa [List.replicate,u8s,Cy.zeros] using this
theorem zeros_src (W:World):∀ W',Mod Nowhere (W.alloc (.cells (u8s Cy.zeros).toArray 5)) W'→Src W' (.slice (some ⟨W.heap.size,0,none⟩) 8 8) Cy.zeros:=fun W' hm =>
 (DSl.src (d:=Cy.zeros) (sl_whole (sz:=1) (n:=8) (Blk.new W (u8s Cy.zeros) 5) rfl (by decide))).fresh hm
theorem bytes_z:Bytes Cy.zeros:=bytes_mem.2 (by decide)
theorem Src.takeK {w:World} {a:Option Addr} {n c:Nat} {d:List Nat} (h:Src w (.slice a n c) d) {k:Nat} (hk:k≤n):Src w (.slice a k c) (d.take k):=by
 obtain ⟨a',c',e,h1,h2,h3⟩:=h;simp at e;obtain ⟨rfl,rfl,rfl⟩:=e;have hl:(d.take k).length = k:=by rw [List.length_take];omega
 refine ⟨a,c,by rw [hl],by omega,h2,fun h0=>?_⟩;obtain ⟨b,off,e,hb,hc⟩:=h3 (by omega);refine ⟨b,off,e,hb,fun i hi=>?_⟩;rw [hl] at hi;rw [hc i (by omega),gd0,gd0,List.getElem?_take_of_lt hi]
end Go.Proofs.YtanioleniadhoaaGreat
