/-
  A region that draws its order, each operation once: what is known of what each operation yields.
-/
import Derived.Test.YthmahbfmfpjjcaaGreatQG08
set_option linter.unusedVariables false
set_option linter.unusedSimpArgs false
namespace Go.Proofs.YthmahbfmfpjjcaaGreat
open Go.RowKit
def apartB (ops:Array Oper):Bool :=
 (List.range ops.size).all fun i=>match (ops[i]?).bind (·.dst) with
  | none=>true
  | some d=>(List.range ops.size).all fun j=>j == i || (ops[j]?).bind (·.dst) != some d
theorem Zh9 {ops:Array Oper} (h:apartB ops = true) {i j d:Nat} (hi:i < ops.size) (hj:j < ops.size) (hne:j ≠ i) (hd:(ops[i]?).bind (·.dst) = some d):(ops[j]?).bind (·.dst) ≠ some d:=by
 unfold apartB at h;rw [List.all_eq_true] at h;have h1:=h i (List.mem_range.2 hi);rw [hd] at h1;simp only at h1;rw [List.all_eq_true] at h1;have h2:=h1 j (List.mem_range.2 hj);have hb:(j == i) = false:=by simpa using hne
 rw [hb,Bool.false_or] at h2;intro e;rw [e] at h2;simp at h2
def updv (xs:Nat→Value) (i:Nat) (v:Value):Nat→Value:=fun j=>if j = i then v else xs j
theorem Zia (a:Act) (d:Option Tmp) (u v:Value):(a.put d u).put d v = a.put d v:=by
 cases d with
 | none=>rfl
 | some d=>simp [Act.put]
theorem Zib (a:Act) (d:Option Tmp) (h:∀ t,d = some t→True):a.put d ((d.map fun t=>a.tmps.getD t undef).getD undef) = a:=by
 cases d with
 | none=>rfl
 | some d =>
  obtain ⟨tmps,defers⟩:=a;simp only [Act.put,Option.map_some,Option.getD_some]
  congr 1
  apply Array.ext_getElem?
  intro i;rw [Array.getElem?_setIfInBounds]
  split
  ·rename_i e
   subst e
   split
   ·rename_i h2;simp [Array.getD_eq_getD_getElem?,h2]
   ·rename_i h2;simp [Array.getElem?_eq_none (Nat.le_of_not_lt h2)]
  ·rfl
section
variable {ops : Array Oper}
theorem ZcG (hs:apartB ops = true) {i:Nat} (hi:i < ops.size) (xs:Nat→Value) (v:Value):∀ (l:List Nat) (a:Act),l.Nodup→(∀ j ∈ l,j < ops.size)→i ∉ l →
  (putAll ops xs l a).put ((ops[i]?).bind (·.dst)) v = putAll ops (updv xs i v) l (a.put ((ops[i]?).bind (·.dst)) v)
 | [],_,_,_,_=>rfl
 | j :: l,a,hn,hl,hm=>by
  obtain ⟨hj,hn'⟩:=List.nodup_cons.1 hn;have hji:j ≠ i:=fun e=>hm (by rw [e];exact List.mem_cons_self ..);simp only [putAll];rw [ZcG hs hi xs v l _ hn' (fun k hk=>hl k (List.mem_cons_of_mem _ hk)) (fun h=>hm (List.mem_cons_of_mem _ h))];rw [show updv xs i v j = xs j by unfold updv;rw [if_neg hji]]
  congr 1
  exact Act.put_comm a _ _ fun d hd=>fun e=>Zh9 hs (hl j (List.mem_cons_self ..)) hi (Ne.symm hji) hd e
theorem ZcH (hs:apartB ops = true) {i:Nat} (hi:i < ops.size) (xs:Nat→Value) (v:Value):∀ (l:List Nat) (a:Act),l.Nodup→(∀ j ∈ l,j < ops.size)→i ∈ l →
  (putAll ops xs l a).put ((ops[i]?).bind (·.dst)) v = putAll ops (updv xs i v) l a
 | [],_,_,_,h=>by cases h
 | j :: l,a,hn,hl,hm=>by
  obtain ⟨hj,hn'⟩:=List.nodup_cons.1 hn;simp only [putAll];by_cases e:j = i
  ·subst e;rw [ZcG hs hi xs v l _ hn' (fun k hk=>hl k (List.mem_cons_of_mem _ hk)) hj,Zia];rw [show updv xs j v j = v by unfold updv;rw [if_pos rfl]]
  ·have hm':i ∈ l:=by
    rcases List.mem_cons.1 hm with q | q
    ·exact (e q.symm).elim
    ·exact q
   rw [ZcH hs hi xs v l _ hn' (fun k hk=>hl k (List.mem_cons_of_mem _ hk)) hm'];rw [show updv xs i v j = xs j by unfold updv;rw [if_neg e]]
theorem ZcI (a:Act):∀ (l:List Nat),putAll ops (fun i=>(((ops[i]?).bind (·.dst)).map fun t=>a.tmps.getD t undef).getD undef) l a = a
 | []=>rfl
 | i :: l=>by
  simp only [putAll];rw [Zib a _ (fun _ _=>trivial)];exact ZcI a l
end
def waitsB (ops:Array Oper) (i j:Nat):Bool:=match ops[i]? with
 | none=>false
 | some o=>o.after.any fun e=>Region.binds .any e && e.on == j
theorem Zic {ops:Array Oper} {i j:Nat} {o:Oper} (ho:ops[i]? = some o) (h:waitsB ops i j = true):∃ e ∈ o.after,Region.binds .any e = true∧e.on = j:=by
 unfold waitsB at h;rw [ho] at h;obtain ⟨e,he,h2⟩:=Array.any_eq_true'.1 h;simp only [Bool.and_eq_true,beq_iff_eq] at h2;exact ⟨e,he,h2.1,h2.2⟩
theorem Zid {P:Program} {id:Nat} {L:List Oper} {Q:Exit→Act→World→Prop} {a:Act} {w:World} (F:Nat→Value→World→Prop) (R:World→World→Prop) (A:(Nat→Value)→Act)
  (hm:P.follows .mixedOrders = true) (hs:apartB L.toArray = true) (hord:orderB L.toArray = true)
  (hrefl:∀ w,R w w) (htrans:∀ a b c,R a b→R b c→R a c) (hst:∀ i v w w',F i v w→R w w'→F i v w')
  (hA:∀ xs,putAll L.toArray xs (List.range L.toArray.size) a = A xs)
  (hstep:AllFrom (fun i o=>∀ (xs:Nat→Value) (w':World),R w.drew w'→(∀ j,waitsB L.toArray i j = true→F j (xs j) w')→∀ K:Act→World→Prop,(∀ v w'',F i v w''→R w' w''→K ((A xs).put o.dst v) w'') →
   if Region.wanted o (yielded L.toArray (A xs).tmps) = true then Oper.wp P o (A xs) w' K Q else K ((A xs).put o.dst undef) w') 0 L)
  (hend:∀ xs w',R w.drew w'→(∀ i,i < L.toArray.size→F i (xs i) w')→Q .normal (A xs) w') :
  (Code.region id L.toArray true).wp P Q a w:=by
 refine wp_region_any hm ?_
 have key:∀ (fuel:Nat) (listed:Array Bool) (a':Act) (w':World) (xs:Nat→Value),listed.size = L.toArray.size→((List.range L.toArray.size).filter fun j=>!listed.getD j false).length = fuel →
   a' = putAll L.toArray xs (List.range L.toArray.size) a→R w.drew w'→(∀ i,listed.getD i false = true→F i (xs i) w') →
   wpAny P .any L.toArray Q fuel listed a' w':=by
  intro fuel
  induction fuel with
  | zero =>
   intro listed a' w' xs hsz hlen hput hR hF;have hnil:=List.length_eq_zero_iff.1 hlen
   have hall:∀ i,i < L.toArray.size→listed.getD i false = true:=fun i hi=>by
    cases hb:listed.getD i false with
    | true=>rfl
    | false =>
     have:i ∈ (List.range L.toArray.size).filter fun j=>!listed.getD j false:=List.mem_filter.2 ⟨List.mem_range.2 hi,by rw [hb];rfl⟩;rw [hnil] at this
     cases this
   refine ⟨?_,?_⟩
   ·rw [List.eq_nil_iff_forall_not_mem];intro j hj;obtain ⟨h1,o,ho,_⟩:=mem_ready.1 hj;have hlt:=(Array.getElem?_eq_some_iff.1 ho).1;have h2:=hall j hlt;simp only [Array.getD_eq_getD_getElem?,Array.getElem?_eq_getElem (show j < listed.size by omega),Option.getD_some] at h1 h2;rw [h1] at h2;cases h2
   ·subst hput;rw [hA];exact hend _ _ hR (fun i hi=>hF i (hall i hi))
  | succ fuel ih =>
   intro listed a' w' xs hsz hlen hput hR hF;refine ⟨fun hnil=>?_,?_⟩
   ·exfalso
    have hall:=Zb4 hord hsz hnil
    have:((List.range L.toArray.size).filter fun j=>!listed.getD j false) = []:=List.filter_eq_nil_iff.2 fun j hj=>by
     rw [hall j (List.mem_range.1 hj)];simp
    rw [this] at hlen
    cases hlen
   ·intro i hi;obtain ⟨h1,o,ho,hdeps⟩:=mem_ready.1 hi;have hlt:=(Array.getElem?_eq_some_iff.1 ho).1;have hf:listed.getD i false = false:=Zb3 h1;have hin:i ∈ (List.range L.toArray.size).filter fun j=>!listed.getD j false:=List.mem_filter.2 ⟨List.mem_range.2 hlt,by rw [hf];rfl⟩;have hnd:((List.range L.toArray.size).filter fun j=>!listed.getD j false).Nodup:=List.nodup_range.filter _
    have hset:∀ j,(listed.setIfInBounds i true).getD j false = if j = i then true else listed.getD j false:=by
     intro j;by_cases e:j = i
     ·subst e;rw [if_pos rfl];simp [Array.getD_eq_getD_getElem?,show j < listed.size by omega]
     ·rw [if_neg e,getD_set_ne _ (Ne.symm e)]
    have hrem:((List.range L.toArray.size).filter fun j=>!(listed.setIfInBounds i true).getD j false) = ((List.range L.toArray.size).filter fun j=>!listed.getD j false).filter (· != i):=by
     rw [List.filter_filter];refine List.filter_congr fun j _=>?_;rw [hset];by_cases e:j = i
     ·subst e;simp
     ·have:(j != i) = true:=by simpa using e
      rw [if_neg e,this];simp
    have hst':=(AllFrom.get hstep i o (by simpa using ho));rw [Nat.zero_add] at hst';subst hput;refine wpOp_step ho ?_;intro K' hK';rw [hA];refine hst' xs w' hR (fun j hj=>by obtain ⟨e,he,hb,hon⟩:=Zic ho hj;rw [← hon];exact hF e.on (hdeps e he hb)) K' ?_;intro v w'' hFv hRw;refine hK' _ _ ?_;rw [← hA]
    have hdo:(L.toArray[i]?).bind (·.dst) = o.dst:=by rw [ho];rfl
    refine ih _ _ _ (updv xs i v) (by simp [hsz]) ?_ ?_ (htrans _ _ _ hR hRw) ?_
    ·rw [hrem];have h4:=List.length_erase_of_mem hin;rw [hnd.erase_eq_filter] at h4;rw [h4,hlen];rfl
    ·rw [← hdo];exact ZcH hs hlt xs v _ _ List.nodup_range (fun j hj=>List.mem_range.1 hj) (List.mem_range.2 hlt)
    ·intro j hj;rw [hset] at hj;unfold updv
     split
     ·rename_i e;subst e;exact hFv
     ·rename_i e
      rw [if_neg e] at hj;exact hst _ _ _ _ (hF j hj) hRw
 have hz:∀ j,(Array.replicate L.toArray.size false).getD j false = false:=fun j=>by
  simp only [Array.getD_eq_getD_getElem?,Array.getElem?_replicate]
  split <;> rfl
 have hfil:((List.range L.toArray.size).filter fun j=>!(Array.replicate L.toArray.size false).getD j false) = List.range L.toArray.size:=List.filter_eq_self.2 fun j _=>by rw [hz];rfl
 refine key _ _ _ _ (fun i=>(((L.toArray[i]?).bind (·.dst)).map fun t=>a.tmps.getD t undef).getD undef) (by simp) ?_ (ZcI a _).symm (hrefl _) ?_
 ·rw [hfil];simp
 ·intro i hi;rw [hz] at hi;cases hi
theorem ZC {P:Program} {id:Nat} {L:List Oper} {Q:Exit→Act→World→Prop} {a:Act} {w:World} (F:Nat→Value→World→Prop) (A:(Nat→Value)→Act)
  (hm:P.follows .mixedOrders = true) (hs:apartB L.toArray = true) (hord:orderB L.toArray = true)
  (hA:∀ xs,putAll L.toArray xs (List.range L.toArray.size) a = A xs)
  (hstep:AllFrom (fun i o=>∀ (xs:Nat→Value) (w':World),Mod Nowhere w.drew w'→(∀ j,waitsB L.toArray i j = true→∀ W,Mod Nowhere w' W→F j (xs j) W)→∀ K:Act→World→Prop,(∀ v w'',(∀ W,Mod Nowhere w'' W→F i v W)→Mod Nowhere w' w''→K ((A xs).put o.dst v) w'') →
   if Region.wanted o (yielded L.toArray (A xs).tmps) = true then Oper.wp P o (A xs) w' K Q else K ((A xs).put o.dst undef) w') 0 L)
  (hend:∀ xs w',Mod Nowhere w.drew w'→(∀ i,i < L.toArray.size→∀ W,Mod Nowhere w' W→F i (xs i) W)→Q .normal (A xs) w') :
  (Code.region id L.toArray true).wp P Q a w :=
 Zid (fun i v w'=>∀ W,Mod Nowhere w' W→F i v W) (Mod Nowhere) A hm hs hord (Mod.refl Nowhere) (fun _ _ _=>Mod.trans) (fun _ _ _ _ h hm W hW=>h W (hm.trans hW)) hA hstep hend
end Go.Proofs.YthmahbfmfpjjcaaGreat
