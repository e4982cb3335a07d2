/-
  Joining bytes.
-/
import Derived.Test.YtanioleniadhoaaGreatAK1
import Derived.Test.YtanioleniadhoaaGreatAG48
set_option linter.unusedVariables false
set_option linter.unusedSimpArgs false
set_option maxHeartbeats 4000000
set_option maxRecDepth 100000
namespace Go.Proofs.YtanioleniadhoaaGreat
open Go.RowKit
open Jn
attribute [local go_sem] Oper.semAt_some
theorem oJoin_ok {w:World} {v:Value} {xs:List (Value × List Nat)} (h:Sl w v 22 1 xs.length (xs.map (·.1))) (hx:∀ x ∈ xs,Src w x.1 x.2) (hxl:xs.length≤1000) (hn:(cat xs).length≤1099511627776) :
  Calls Tryz.prog 90 #[v] w fun e w'=>∃ v',e = .returned v'∧w'.ownsRow w.heap.size 5 1 v' (cat xs).length (u8s (cat xs))∧Mod Nowhere w w':=by
 obtain ⟨i0,hi0,hz0,hz1,hz2⟩:=info_parts info_u8;obtain ⟨a,cap,rfl,h1,h2,hcells⟩:=h.gen;refine hid2 ?_ h hx;clear h hx;intro h hx;clear hcells;go_enter Tryz.func90,Tryz.ntmps90;go_wp2
 go_loopg [3,8] xs.length (fun gg vv i wr=>∃ k:Nat,k≤xs.length∧gg + k = xs.length∧i = .int .i64 k∧wr.ownsRow w.heap.size 5 1 vv (cat (xs.take k)).length (u8s (cat (xs.take k)))∧Mod Nowhere w wr)
 case atStart=>exact ⟨0,by omega,by omega,rfl,World.ownsRow_nil _ _ _ _,Mod.refl _ _⟩
 case round =>
  obtain ⟨k,hk,hgg,rfl,hown,hm⟩:=hrel;have hle:=cat_le xs k;by_cases hlt:k < xs.length
  ·have hsl:=h.out.mod hm (fun _ _=>id);obtain ⟨b,off,cap',e0,hbl,_,_,hc,hz⟩:=hsl.open (by omega);have hck:=hc k (by omega);have hct:=cat_take xs k hlt;have hle2:=cat_le xs (k + 1);rw [hct,List.length_append] at hle2
   have e1:(xs.map (·.1)).getD k default = xs[k].1:=by simp [gd0,hlt]
   rw [e1] at hck;have hxk:=(hx.out xs[k] (List.getElem_mem hlt)).fresh hm;obtain ⟨vb,vcap,rfl,hvc⟩:=owns_form hown
   obtain ⟨rfl,rfl⟩:a = some ⟨b,off,none⟩∧cap = cap':=by
    simp at e0;exact ⟨e0.1,e0.2⟩
   clear hc;obtain ⟨va,vc,w2,hrun,ho2,hm2⟩:=append_to rfl hown hxk (by omega) hm.size 22;obtain ⟨xa,xc,e2,_,_,_⟩:=hxk;rw [e2] at hck hrun;rw [← hct] at ho2;have hM2:Mod Nowhere w w2:=hm.step hm2 (fun i hi e=>by have e:w.heap.size≤i:=e;omega);have hlen:(cat (xs.take (k + 1))).length = (cat (xs.take k)).length + xs[k].2.length:=by rw [hct,List.length_append]
   rw [← hlen] at ho2 hrun;clear hown hm hm2 hsl hct hlen;generalize hs2:(cat (xs.take (k + 1))).length = s2 at *;generalize (cat (xs.take k)).length = s at *;generalize xs[k].2.length = q at *;refine hid5 ?_ ho2 hM2 e1 e2 hs2;clear ho2 hM2 e1 e2 hs2;intro ho2 hM2 e1 e2 hs2
   go_wp2_with (at_builtin;refine Lib.wpList_append_run _ rfl _ _ _ _ rfl _ _ rfl rfl _ _ hrun ?_)
   go_roundg (xs.length - (k + 1))
   case measure=>omega
   case rel=>exact ⟨k + 1,by omega,by omega,by go_num,by rw [hs2.out];exact ho2.out,hM2.out⟩
  ·obtain rfl:k = xs.length:=by omega
   rw [List.take_length] at hown;replace hown:=Lib.hid hown;go_wp2;go_ret;exact ⟨_,rfl,hown.out,hm⟩
namespace Cy
def xo (a b:List Nat) (k:Nat):List Nat:=(List.range 8).map fun j=>if j < k then a.getD j 0 ^^^ b.getD j 0 else 0
def xorL (a b:List Nat):List Nat:=(List.range 8).map fun j=>a.getD j 0 ^^^ b.getD j 0
theorem xo_all (a b:List Nat):xo a b 8 = xorL a b:=List.map_congr_left fun j hj=>by rw [if_pos (by simpa using hj)]
theorem xorL_len (a b:List Nat):(xorL a b).length = 8:=by simp [xorL]
theorem xo_len (a b:List Nat) (k:Nat):(xo a b k).length = 8:=by simp [xo]
theorem u8_get (l:List Nat) (i:Nat) (h:i < l.length):(u8s l)[i]? = some (.int .u8 ((l.getD i 0:Nat):Int)):=by
 simp [u8s,gd0,List.getElem?_eq_getElem h]
theorem xo_set (a b:List Nat) {k:Nat} (hk:k < 8):(u8s (xo a b k)).set k (.int .u8 ((a.getD k 0 ^^^ b.getD k 0:Nat):Int)) = u8s (xo a b (k + 1)):=by
 apply List.ext_getElem (by simp [u8s,xo])
 intro i h1 h2;rw [List.getElem_set];simp only [u8s,xo,List.getElem_map,List.getElem_range];by_cases e:k = i
 ·subst e;simp
 ·rw [if_neg e];by_cases e2:i < k
  ·rw [if_pos e2,if_pos (by omega)]
  ·rw [if_neg e2,if_neg (by omega)]
theorem xorL_take (a b:List Nat) {k:Nat} (hk:k < 8):(xorL a b).take (k + 1) = (xorL a b).take k ++ [a.getD k 0 ^^^ b.getD k 0]:=by
 rw [List.take_add_one]
 congr 1
 simp [xorL,List.getElem?_map,List.getElem?_range hk]
end Cy
theorem bytes_xor {a b:List Nat} (ha:Bytes a) (hb:Bytes b):Bytes (Cy.xorL a b):=by
 refine bytes_mem.2 fun x hx=>?_;simp only [Cy.xorL,List.mem_map] at hx;obtain ⟨j,-,rfl⟩:=hx;exact Nat.xor_lt_two_pow (n:=8) (Cy.getD_lt (bytes_mem.1 ha) j) (Cy.getD_lt (bytes_mem.1 hb) j)
theorem ofInt_u8 (a:Nat) (ha:a < 256):(BitVec.ofInt 8 (a:Int)).toNat = a:=by
 rw [BitVec.toNat_ofInt];omega
theorem u8_xor (a b:Nat) (ha:a < 256) (hb:b < 256):bits .xor .u8 (a:Int) (b:Int) = ((a ^^^ b:Nat):Int):=by
 have h:=Nat.xor_lt_two_pow (n:=8) ha hb;have e:(BitVec.ofInt 8 (a:Int) ^^^ BitVec.ofInt 8 (b:Int)).toNat = a ^^^ b:=by rw [BitVec.toNat_xor,ofInt_u8 a ha,ofInt_u8 b hb]
 show IntKind.u8.wrap ((BitVec.ofInt 8 (a:Int) ^^^ BitVec.ofInt 8 (b:Int)).toNat:Int) = _
 rw [e,IntKind.wrap_u8];omega
section
variable {w : World} {u v : Value} {a b : List Nat}
theorem oXor_ok (hu:Src w u a) (hv:Src w v b) (ha:a.length = 8) (hb:b.length = 8) (ba:Bytes a) (bb:Bytes b) :
  Calls Tryz.prog 283 #[u,v] w fun e w'=>∃ r,e = .returned (.tuple #[r,errno 0])∧DSl w' r (Cy.xorL a b)∧Mod Nowhere w w':=by
 obtain ⟨x,ox,cx,rfl,c1,c2,hx⟩:=hu.form (by omega);obtain ⟨y,oy,cy,rfl,c3,c4,hy⟩:=hv.form (by omega);have hmk:=made8 w;have hcl:∀ k,k < 8→∀ W,Mod Nowhere w W→W.cell? ⟨x,ox + k,none⟩ = some (.int .u8 ((a.getD k 0:Nat):Int))∧W.cell? ⟨y,oy + k,none⟩ = some (.int .u8 ((b.getD k 0:Nat):Int)):=fun k hk W hm=>⟨hx W hm k (by omega),hy W hm k (by omega)⟩;have hbt:∀ k,a.getD k 0 < 256∧b.getD k 0 < 256:=fun k=>⟨Cy.getD_lt (bytes_mem.1 ba) k,Cy.getD_lt (bytes_mem.1 bb) k⟩;have hB0:=Blk.new w (u8s Cy.zeros) 5;have hm0:Mod Nowhere w (w.alloc (.cells (u8s Cy.zeros).toArray 5)):=(Mod.refl _ w).alloc _;rw [ha] at c1 ⊢
 rw [hb] at c3 ⊢;generalize (u8s Cy.zeros).toArray = zs at *;clear hu hv hx hy ha hb ba bb;unfold maxLen at c2 c4;refine hid4 ?_ hcl hbt hB0 hm0;clear hcl hbt hB0 hm0;intro hcl hbt hB0 hm0;go_enter Tryz.func283,Tryz.ntmps283;go_wp2
 go_loopw [18] (fun i wr=>∃ k:Nat,k≤8∧i = .int .i64 k∧Blk wr w.heap.size (u8s (Cy.xo a b k)) 5∧Mod Nowhere w wr) (fun i _=>8 - (intOf i).toNat)
 case atStart=>exact ⟨0,by omega,rfl,hB0.out,hm0.out⟩
 case round =>
  obtain ⟨k,hk,rfl,hB,hm⟩:=hrel;by_cases hlt:k < 8
  ·have hki:(k:Int) < 8:=by omega
   obtain ⟨q1,q2⟩:=hbt.out k;have hck:=hcl.out k hlt;have hset:=Cy.xo_set a b hlt;have hxr:=u8_xor _ _ q1 q2;generalize a.getD k 0 = p at *;generalize b.getD k 0 = q at *;have hz1:=hB.frozen;refine hid5 ?_ hB hm hck hset hz1;clear hB hm hck hset hz1;intro hB hm hck hset hz1;clear hB0 hm0 hcl hbt;go_wp2_with fail;refine wp_region_vals_rest 12 (fun i=>match i with | 0=>some (.slice (some ⟨w.heap.size,0,none⟩) 8 8) | 1=>some (.int .i64 (k:Int)) | 2=>some (.slice (some ⟨x,ox,none⟩) 8 cx) | 3=>some (.int .i64 (k:Int)) | 4=>some (.pointer (some ⟨x,ox + k,none⟩)) | 5=>some (.int .u8 (p:Nat)) | 6=>some (.slice (some ⟨y,oy,none⟩) 8 cy) | 7=>some (.int .i64 (k:Int)) | 8=>some (.pointer (some ⟨y,oy + k,none⟩)) | 9=>some (.int .u8 (q:Nat)) | 10=>some (.int .u8 ((p ^^^ q:Nat):Int)) | 11=>some (.pointer (some ⟨w.heap.size,k,none⟩)) | _=>none) (fun i=>match i with | 4=>[2,3] | 5=>[4] | 8=>[6,7] | 9=>[8] | 10=>[5,9] | 11=>[0,1,2,3,4,5,6,7,8,9,10] | _=>[]) (fun _ _ _=>True) ?A_7_0 (by first | assumption | kernel_rfl) (by kernel_rfl) (by kernel_rfl) (by kernel_rfl) (by decide) (by kernel_rfl) ?hA_7_0 ?hS_7_0 ?hE_7_0
   case hA_7_0=>intro xs;simp [putAll,List.range,List.range.loop,Act.put] <;> rfl
   case hS_7_0 =>
    refine ⟨?_,?_,?_,?_,?_,?q5_7_0,?_,?_,?_,?q9_7_0,?_,?_,trivial⟩
    case q5_7_0 =>
     intro yv w' hR hF K hK;clear hF;obtain ⟨z0,z1⟩:=hck.out w' (hm.out.trans ((Mod.refl Nowhere wr).drew.trans hR))
     go_simp
     exact hK _ _ (fun _ _=>rfl) (Mod.refl _ _)
    case q9_7_0 =>
     intro yv w' hR hF K hK;clear hF;obtain ⟨z0,z1⟩:=hck.out w' (hm.out.trans ((Mod.refl Nowhere wr).drew.trans hR))
     go_simp
     exact hK _ _ (fun _ _=>rfl) (Mod.refl _ _)
    all_goals
     intro yv w' hR hF K hK;clear hF
     go_simp
     exact hK _ _ (fun _ _=>by first | trivial | exact rfl | simp [*,known]) (Mod.refl _ _)
   case hE_7_0 =>
    intro yv w' hR hF;clear hF;simp only [mixN,Option.getD_some,Option.getD_none,Nat.reduceLT,if_true];simp only [List.drop_succ_cons,List.drop_zero];have hm4:=hm.out.trans ((Mod.refl Nowhere wr).drew.trans hR);have hB2:=hB.out.mod ((Mod.refl Nowhere wr).drew.trans hR) id;have zf:=hB2.frozen;have zl:=hB2.lt;have zc:∃ v,w'.cell? ⟨w.heap.size,k,none⟩ = some v:=⟨_,by rw [hB2.cell,Cy.u8_get _ _ (by rw [Cy.xo_len];exact hlt)]⟩;obtain ⟨old,zc⟩:=zc;have hB3:=(hB2.setCell k (.int .u8 ((p ^^^ q:Nat):Int))).conv hset.out;have hm5:=hm4.setCell (p:=⟨w.heap.size,k,none⟩) (fun h=>by have h:w.heap.size < w.heap.size:=h;omega) (.int .u8 ((p ^^^ q:Nat):Int));refine hid4 ?_ hB2 hB3 hm4 hm5;clear hB2 hB3 hm4 hm5;intro hB2 hB3 hm4 hm5
    clear hB hm hck;go_wp2;go_roundw
    case rel=>exact ⟨k + 1,by omega,by go_num,hB3.out,hm5.out⟩
    case measure=>simp [intOf];omega
  ·obtain rfl:k = 8:=by omega
   have hf:DSl wr (.slice (some ⟨w.heap.size,0,none⟩) 8 8) (Cy.xorL a b):=by
    rw [Cy.xo_all] at hB;unfold DSl;rw [Cy.xorL_len];exact sl_whole (sz:=1) (n:=8) hB (by rw [u8s,List.length_map,Cy.xorL_len]) (by decide)
   refine hid3 ?_ hf hm hB;clear hf hm hB;intro hf hm hB;go_wp2
   go_ret2
   exact ⟨_,rfl,hf.out,hm.out⟩
theorem mxor_ok (hu:Src w u a) (hv:Src w v b) (ha:a.length = 8) (hb:b.length = 8) (ba:Bytes a) (bb:Bytes b) :
  Calls Tryz.prog 249 #[u,v] w fun e w'=>∃ r,e = .returned r∧DSl w' r (Cy.xorL a b)∧Mod Nowhere w w':=by
 have hR:=oXor_ok hu hv ha hb ba bb;obtain ⟨a1,c1,rfl,-⟩:=hu;obtain ⟨a2,c2,rfl,-⟩:=hv;rw [ha,hb] at hR ⊢;replace hR:=Lib.hid hR;clear ba bb ha hb;go_enter Tryz.func249,Tryz.ntmps249;go_wp2_with fail;refine (hR.out).mono ?_;rintro e w' ⟨r,rfl,hB,hm'⟩;refine hid2 ?_ hB hm';clear hB hm';intro hB hm';go_wp2;go_ret;exact ⟨r,rfl,hB.out,hm'.out⟩
end
end Go.Proofs.YtanioleniadhoaaGreat
namespace Go.Proofs.YtanioleniadhoaaGreat
open Go.RowKit
theorem wp_region_rest_z {P:Program} {id:Nat} {L:List Oper} {Q:Exit→Act→World→Prop} {a:Act} {w:World} (k:Nat) (F:Nat→Value→World→Prop) (R:World→World→Prop) (A:(Nat→Value)→Act)
  (hm:P.follows .mixedOrders = true) (hs:apartB L.toArray = true) (hord:orderB L.toArray = true) (ht:tailB L.toArray k = true) (hk:k≤L.length)
  (hrefl:∀ w,R w w) (htrans:∀ a b c,R a b→R b c→R a c) (hst:∀ i v w w',F i v w→R w w'→F i v w')
  (hA:∀ xs,(∀ i,k≤i→xs i = (((L.toArray[i]?).bind (·.dst)).map fun t=>a.tmps.getD t undef).getD undef)→putAll L.toArray xs (List.range L.toArray.size) a = A xs)
  (hstep:AllFrom (fun i o=>∀ (xs:Nat→Value) (w':World),R w.drew w'→(∀ j,waitsB L.toArray i j = true→F j (xs j) w')→∀ K:Act→World→Prop,(∀ v w'',F i v w''→R w' w''→K ((A xs).put o.dst v) w'') →
   if Region.wanted o (yielded L.toArray (A xs).tmps) = true then Oper.wp P o (A xs) w' K Q else K ((A xs).put o.dst undef) w') 0 (L.take k))
  (hend:∀ xs w',R w.drew w'→(∀ i,i < k→F i (xs i) w')→wpList P L.toArray Q (L.drop k) (A xs) w') :
  (Code.region id L.toArray true).wp P Q a w:=by
 refine wp_region_any hm ?_;have hsz0:L.toArray.size = L.length:=by simp
 have key:∀ (fuel:Nat) (listed:Array Bool) (a':Act) (w':World) (xs:Nat→Value),listed.size = L.toArray.size→((List.range L.toArray.size).filter fun j=>!listed.getD j false).length = fuel →
   a' = putAll L.toArray xs (List.range L.toArray.size) a→Clo L.toArray (marks listed)→(∀ i,k≤i→listed.getD i false = false)→R w.drew w'→(∀ i,i < k→listed.getD i false = true→F i (xs i) w')→(∀ i,k≤i→xs i = (((L.toArray[i]?).bind (·.dst)).map fun t=>a.tmps.getD t undef).getD undef) →
   wpAny P .any L.toArray Q fuel listed a' w':=by
  intro fuel
  induction fuel with
  | zero =>
   intro listed a' w' xs hsz hlen hput hcl hbig hR hF hxz;have hnil:=List.length_eq_zero_iff.1 hlen
   have hall2:∀ i,i < L.toArray.size→listed.getD i false = true:=fun i hi=>by
    cases hb:listed.getD i false with
    | true=>rfl
    | false =>
     have:i ∈ (List.range L.toArray.size).filter fun j=>!listed.getD j false:=List.mem_filter.2 ⟨List.mem_range.2 hi,by rw [hb];rfl⟩;rw [hnil] at this
     cases this
   have hkn:k = L.length:=by
    rcases Nat.lt_or_ge k L.length with h | h
    ·have h1:=hall2 k (by omega);rw [hbig k (Nat.le_refl _)] at h1;cases h1
    ·omega
   subst hput;rw [hA xs hxz];refine wpAny_tail rfl k hord ht 0 k listed _ _ (Nat.le_refl _) (by omega) hsz (fun i hi=>by rw [hall2 i hi,decide_eq_true (by omega)]) ?_;exact hend xs w' hR fun i hi=>hF i hi (hall2 i (by omega))
  | succ fuel ih =>
   intro listed a' w' xs hsz hlen hput hcl hbig hR hF hxz;by_cases hdone:∀ i,i < k→listed.getD i false = true
   ·subst hput;rw [hA xs hxz]
    have hcount:((List.range L.toArray.size).filter fun j=>!listed.getD j false).length = L.length - k:=by
     have h1:((List.range L.toArray.size).filter fun j=>!listed.getD j false) = List.range' k (L.length - k):=by
      have h2:List.range L.toArray.size = List.range k ++ List.range' k (L.length - k):=by
       have h5:=List.range'_append_1 (s:=0) (m:=k) (n:=L.length - k);rw [Nat.zero_add,show k + (L.length - k) = L.length by omega] at h5;rw [hsz0,List.range_eq_range',List.range_eq_range',h5]
      rw [h2,List.filter_append];have h3:(List.range k).filter (fun j=>!listed.getD j false) = []:=List.filter_eq_nil_iff.2 fun j hj=>by rw [hdone j (List.mem_range.1 hj)];decide
      have h4:(List.range' k (L.length - k)).filter (fun j=>!listed.getD j false) = List.range' k (L.length - k):=List.filter_eq_self.2 fun j hj=>by rw [hbig j (List.mem_range'_1.1 hj).1];rfl
      rw [h3,h4,List.nil_append]
     rw [h1,List.length_range']
    refine wpAny_tail rfl k hord ht (fuel + 1) k listed _ _ (Nat.le_refl _) (by omega) hsz (fun i hi=>?_) ?_
    ·by_cases h:i < k
     ·rw [hdone i h,decide_eq_true h]
     ·rw [hbig i (by omega),decide_eq_false h]
    ·exact hend xs w' hR fun i hi=>hF i hi (hdone i hi)
   refine ⟨fun hnil=>?_,?_⟩
   ·exfalso
    have hall:=ready_some hord hsz hnil;exact hdone fun i hi=>hall i (by omega)
   ·intro i hi;obtain ⟨h1,o,ho,hdeps⟩:=mem_ready.1 hi;have hlt:=(Array.getElem?_eq_some_iff.1 ho).1;have hf:listed.getD i false = false:=getD_low h1
    have hik:i < k:=by
     rcases Nat.lt_or_ge i k with h | h
     ·exact h
     ·exfalso
      have h3:=tailB_spec ht (p:=fun x=>listed.getD x false = true) (fun x o hx hp e he hb=>hcl x o hx hp e he hb) h hlt (fun o' ho' e he hb=>by rw [ho] at ho';cases ho';exact hdeps e he hb);exact hdone fun j hj=>h3 j (by omega)
    have hin:i ∈ (List.range L.toArray.size).filter fun j=>!listed.getD j false:=List.mem_filter.2 ⟨List.mem_range.2 hlt,by rw [hf];rfl⟩;have hnd:((List.range L.toArray.size).filter fun j=>!listed.getD j false).Nodup:=List.nodup_range.filter _
    have hset:∀ j,(listed.setIfInBounds i true).getD j false = if j = i then true else listed.getD j false:=by
     intro j;by_cases e:j = i
     ·subst e;rw [if_pos rfl];simp [Array.getD_eq_getD_getElem?,show j < listed.size by omega]
     ·rw [if_neg e,getD_set_ne _ (Ne.symm e)]
    have hrem:((List.range L.toArray.size).filter fun j=>!(listed.setIfInBounds i true).getD j false) = ((List.range L.toArray.size).filter fun j=>!listed.getD j false).filter (· != i):=by
     rw [List.filter_filter];refine List.filter_congr fun j _=>?_;rw [hset];by_cases e:j = i
     ·subst e;simp
     ·have:(j != i) = true:=by simpa using e
      rw [if_neg e,this];simp
    have hlen':((List.range L.toArray.size).filter fun j=>!(listed.setIfInBounds i true).getD j false).length = fuel:=by
     rw [hrem];have h4:=List.length_erase_of_mem hin;rw [hnd.erase_eq_filter] at h4;rw [h4,hlen];rfl
    have hcl':Clo L.toArray (marks (listed.setIfInBounds i true)):=by
     intro j q hq hj e he hbd
     show (listed.setIfInBounds i true).getD e.on false = true
     rw [hset]
     split
     ·rfl
     ·by_cases eji:j = i
      ·subst eji;rw [ho] at hq;cases hq;exact hdeps e he hbd
      ·have hj':(listed.setIfInBounds i true).getD j false = true:=hj;rw [hset,if_neg eji] at hj';exact hcl j q hq hj' e he hbd
    subst hput;refine wpOp_step ho ?_;intro K' hK';rw [hA xs hxz]
    have hdo:(L.toArray[i]?).bind (·.dst) = o.dst:=by rw [ho];rfl
    have hst':=(AllFrom.get hstep i o (by rw [List.getElem?_take_of_lt hik];simpa using ho));rw [Nat.zero_add] at hst'
    refine hst' xs w' hR (fun j hj=>by
     obtain ⟨e,he,hb,hon⟩:=waitsB_spec ho hj;rw [← hon]
     exact hF e.on (by have:=orderB_spec hord ho e he hb;omega) (hdeps e he hb)) K' ?_
    intro v w'' hFv hRw2;refine hK' _ _ ?_;rw [← hA xs hxz];refine ih _ _ _ (updv xs i v) (by simp [hsz]) hlen' ?_ hcl' (fun j hj=>?_) (htrans _ _ _ hR hRw2) ?_ (fun j hj=>by unfold updv;rw [if_neg (by omega)];exact hxz j hj)
    ·rw [← hdo];exact putAll_upd hs hlt xs v _ _ List.nodup_range (fun j hj=>List.mem_range.1 hj) (List.mem_range.2 hlt)
    ·rw [hset,if_neg (by omega)];exact hbig j hj
    ·intro j hjk hj;rw [hset] at hj;unfold updv
     split
     ·rename_i e;subst e;exact hFv
     ·rename_i e
      rw [if_neg e] at hj;exact hst _ _ _ _ (hF j hjk hj) hRw2
 have hz:∀ j,(Array.replicate L.toArray.size false).getD j false = false:=fun j=>by
  simp only [Array.getD_eq_getD_getElem?,Array.getElem?_replicate]
  split <;> rfl
 have hfil:((List.range L.toArray.size).filter fun j=>!(Array.replicate L.toArray.size false).getD j false) = List.range L.toArray.size:=List.filter_eq_self.2 fun j _=>by rw [hz];rfl
 refine key _ _ _ _ (fun i=>(((L.toArray[i]?).bind (·.dst)).map fun t=>a.tmps.getD t undef).getD undef) (by simp) ?_ (putAll_self a _).symm ?_ (fun i _=>hz i) (hrefl _) ?_ (fun _ _=>rfl)
 ·rw [hfil];simp
 ·intro i o _ hi;have hi':(Array.replicate L.toArray.size false).getD i false = true:=hi;rw [hz] at hi';cases hi'
 ·intro i _ hi;rw [hz] at hi;cases hi
theorem wp_region_calm_rest_z {P:Program} {id:Nat} {L:List Oper} {Q:Exit→Act→World→Prop} {a:Act} {w:World} (k:Nat) (F:Nat→Value→World→Prop) (A:(Nat→Value)→Act)
  (hm:P.follows .mixedOrders = true) (hs:apartB L.toArray = true) (hord:orderB L.toArray = true) (ht:tailB L.toArray k = true) (hk:k≤L.length)
  (hA:∀ xs,(∀ i,k≤i→xs i = (((L.toArray[i]?).bind (·.dst)).map fun t=>a.tmps.getD t undef).getD undef)→putAll L.toArray xs (List.range L.toArray.size) a = A xs)
  (hstep:AllFrom (fun i o=>∀ (xs:Nat→Value) (w':World),Mod Nowhere w.drew w'→(∀ j,waitsB L.toArray i j = true→∀ W,Mod Nowhere w' W→F j (xs j) W)→∀ K:Act→World→Prop,(∀ v w'',(∀ W,Mod Nowhere w'' W→F i v W)→Mod Nowhere w' w''→K ((A xs).put o.dst v) w'') →
   if Region.wanted o (yielded L.toArray (A xs).tmps) = true then Oper.wp P o (A xs) w' K Q else K ((A xs).put o.dst undef) w') 0 (L.take k))
  (hend:∀ xs w',Mod Nowhere w.drew w'→(∀ i,i < k→∀ W,Mod Nowhere w' W→F i (xs i) W)→wpList P L.toArray Q (L.drop k) (A xs) w') :
  (Code.region id L.toArray true).wp P Q a w :=
 wp_region_rest_z k (fun i v w'=>∀ W,Mod Nowhere w' W→F i v W) (Mod Nowhere) A hm hs hord ht hk (Mod.refl Nowhere) (fun _ _ _=>Mod.trans) (fun _ _ _ _ h hm W hW=>h W (hm.trans hW)) hA hstep hend
end Go.Proofs.YtanioleniadhoaaGreat
namespace Go.Proofs.YtanioleniadhoaaGreat
open Go.RowKit
open Jn
attribute [local go_sem] Oper.semAt_some
theorem src_one {w:World} (x:Nat):∀ W,Mod Nowhere (w.alloc (.cells (u8s [x]).toArray 5)) W→Src W (.slice (some ⟨w.heap.size,0,none⟩) 1 1) [x]:=fun _ hm =>
 (DSl.src (d:=[x]) (sl_whole (sz:=1) (n:=1) (Blk.new w (u8s [x]) 5) rfl (by decide))).fresh hm
section
variable {w : World} {u v : Value} {a b : List Nat}
theorem rxor_ok (hu:Src w u a) (hv:Src w v b) (ha:a.length = 8) (hb:b.length = 8) (ba:Bytes a) (bb:Bytes b) :
  Calls Tryz.prog 217 #[u,v] w fun e w'=>∃ r,e = .returned r∧DSl w' r (Cy.xorL a b)∧Mod Nowhere w w':=by
 obtain ⟨x,ox,cx,rfl,c1,c2,hx⟩:=hu.form (by omega);obtain ⟨y,oy,cy,rfl,c3,c4,hy⟩:=hv.form (by omega);have hcl:∀ k,k < 8→∀ W,Mod Nowhere w W→W.cell? ⟨x,ox + k,none⟩ = some (.int .u8 ((a.getD k 0:Nat):Int))∧W.cell? ⟨y,oy + k,none⟩ = some (.int .u8 ((b.getD k 0:Nat):Int)):=fun k hk W hm=>⟨hx W hm k (by omega),hy W hm k (by omega)⟩;have hbt:∀ k,a.getD k 0 < 256∧b.getD k 0 < 256:=fun k=>⟨Cy.getD_lt (bytes_mem.1 ba) k,Cy.getD_lt (bytes_mem.1 bb) k⟩;rw [ha] at c1 ⊢;rw [hb] at c3 ⊢;clear hu hv hx hy ha hb ba bb;unfold maxLen at c2 c4;refine hid2 ?_ hcl hbt;clear hcl hbt;intro hcl hbt
 go_enter Tryz.func217,Tryz.ntmps217;go_wp2
 go_loopw [5,6] (fun v i wr=>∃ k:Nat,k≤8∧i = .int .i64 k∧wr.ownsRow w.heap.size 5 1 v k (u8s ((Cy.xorL a b).take k))∧Mod Nowhere w wr) (fun _ i _=>8 - (intOf i).toNat)
 case atStart=>exact ⟨0,by omega,rfl,World.ownsRow_nil _ _ _ _,Mod.refl _ _⟩
 case round =>
  obtain ⟨k,hk,rfl,hown,hm⟩:=hrel;by_cases hlt:k < 8
  ·have hki:(k:Int) < 8:=by omega
   obtain ⟨q1,q2⟩:=hbt.out k;have hck:=hcl.out k hlt;have htk:=Cy.xorL_take a b hlt;have hxr:=u8_xor _ _ q1 q2;have hln:((Cy.xorL a b).take k).length = k:=by rw [List.length_take,Cy.xorL_len];omega
   generalize a.getD k 0 = p at *;generalize b.getD k 0 = q at *;generalize Cy.xorL a b = XL at *;obtain ⟨va,vc,rfl,-⟩:=owns_form hown;refine hid5 ?_ hown hm hck htk hln;clear hown hm hck htk hln;intro hown hm hck htk hln;clear hcl hbt;go_wp2_with fail;refine wp_region_calm_rest_z 11 (fun i v w'=>match i with | 0=>(v = .slice va k vc) | 1=>(v = .slice (some ⟨x,ox,none⟩) 8 cx) | 2=>(v = .int .i64 (k:Int)) | 3=>(v = .pointer (some ⟨x,ox + k,none⟩)) | 4=>(v = .int .u8 (p:Nat)) | 5=>(v = .slice (some ⟨y,oy,none⟩) 8 cy) | 6=>(v = .int .i64 (k:Int)) | 7=>(v = .pointer (some ⟨y,oy + k,none⟩)) | 8=>(v = .int .u8 (q:Nat)) | 9=>(v = .int .u8 ((p ^^^ q:Nat):Int)) | 10=>(∃ g:Nat,v = .slice (some ⟨g,0,none⟩) 1 1∧Src w' (.slice (some ⟨g,0,none⟩) 1 1) [p ^^^ q]) | _=>True) ?A_ (by first | assumption | kernel_rfl) (by kernel_rfl) (by kernel_rfl) (by kernel_rfl) (by decide) ?hA_ ?hS_ ?hE_
   case hA_=>intro xs hz;simp [putAll,List.range,List.range.loop,Act.put,hz 11 (by decide),hz 12 (by decide)] <;> rfl
   case hS_ =>
    refine ⟨?_,?_,?_,?_,?_,?_,?_,?_,?_,?_,?_,trivial⟩
    ·-- 0: t11:=move(t5)
     intro yv w' hR hF K hK;clear hF
     go_simp
     exact hK _ _ (fun _ _=>by first | trivial | rfl | simp [*]) (Mod.refl _ _)
    ·-- 1: t12:=move(t0)
     intro yv w' hR hF K hK;clear hF
     go_simp
     exact hK _ _ (fun _ _=>by first | trivial | rfl | simp [*]) (Mod.refl _ _)
    ·-- 2: t13:=move(t6)
     intro yv w' hR hF K hK;clear hF
     go_simp
     exact hK _ _ (fun _ _=>by first | trivial | rfl | simp [*]) (Mod.refl _ _)
    ·-- 3: t14:=indexAddr(22,t12,t13)
     intro yv w' hR hF K hK;have f1:(yv 1) = .slice (some ⟨x,ox,none⟩) 8 cx:=hF 1 (by kernel_rfl) w' (Mod.refl _ _);have f2:(yv 2) = .int .i64 (k:Int):=hF 2 (by kernel_rfl) w' (Mod.refl _ _);clear hF;generalize yv 1 = y1 at *;subst f1;generalize yv 2 = y2 at *;subst f2
     go_simp
     exact hK _ _ (fun _ _=>by first | trivial | rfl | simp [*]) (Mod.refl _ _)
    ·-- 4: t15:=load(5,t14)
     intro yv w' hR hF K hK;have f3:(yv 3) = .pointer (some ⟨x,ox + k,none⟩):=hF 3 (by kernel_rfl) w' (Mod.refl _ _);clear hF;generalize yv 3 = y3 at *;subst f3;obtain ⟨z0,z1⟩:=hck.out w' (hm.out.trans ((Mod.refl Nowhere wr).drew.trans hR))
     go_simp
     exact hK _ _ (fun _ _=>rfl) (Mod.refl _ _)
    ·-- 5: t16:=move(t1)
     intro yv w' hR hF K hK;clear hF
     go_simp
     exact hK _ _ (fun _ _=>by first | trivial | rfl | simp [*]) (Mod.refl _ _)
    ·-- 6: t17:=move(t6)
     intro yv w' hR hF K hK;clear hF
     go_simp
     exact hK _ _ (fun _ _=>by first | trivial | rfl | simp [*]) (Mod.refl _ _)
    ·-- 7: t18:=indexAddr(22,t16,t17)
     intro yv w' hR hF K hK;have f5:(yv 5) = .slice (some ⟨y,oy,none⟩) 8 cy:=hF 5 (by kernel_rfl) w' (Mod.refl _ _);have f6:(yv 6) = .int .i64 (k:Int):=hF 6 (by kernel_rfl) w' (Mod.refl _ _);clear hF;generalize yv 5 = y5 at *;subst f5;generalize yv 6 = y6 at *;subst f6
     go_simp
     exact hK _ _ (fun _ _=>by first | trivial | rfl | simp [*]) (Mod.refl _ _)
    ·-- 8: t19:=load(5,t18)
     intro yv w' hR hF K hK;have f7:(yv 7) = .pointer (some ⟨y,oy + k,none⟩):=hF 7 (by kernel_rfl) w' (Mod.refl _ _);clear hF;generalize yv 7 = y7 at *;subst f7;obtain ⟨z0,z1⟩:=hck.out w' (hm.out.trans ((Mod.refl Nowhere wr).drew.trans hR))
     go_simp
     exact hK _ _ (fun _ _=>rfl) (Mod.refl _ _)
    ·-- 9: t20:=binOp(xor,5,t15,t19,5)
     intro yv w' hR hF K hK;have f4:(yv 4) = .int .u8 (p:Nat):=hF 4 (by kernel_rfl) w' (Mod.refl _ _);have f8:(yv 8) = .int .u8 (q:Nat):=hF 8 (by kernel_rfl) w' (Mod.refl _ _);clear hF;generalize yv 4 = y4 at *;subst f4;generalize yv 8 = y8 at *;subst f8
     go_simp
     exact hK _ _ (fun _ _=>by first | trivial | rfl | simp [*]) (Mod.refl _ _)
    ·-- 10: t21:=buildSlice(22,1,[(0,t20)])
     intro yv w' hR hF K hK;have f9:(yv 9) = .int .u8 ((p ^^^ q:Nat):Int):=hF 9 (by kernel_rfl) w' (Mod.refl _ _);clear hF;generalize yv 9 = y9 at *;subst f9;have hs:=src_one (w:=w') (p ^^^ q);have hma:Mod Nowhere w' (w'.alloc (.cells (u8s [p ^^^ q]).toArray 5)):=(Mod.refl _ _).alloc _;have hu8:(u8s [p ^^^ q]).toArray = #[.int .u8 ((p ^^^ q:Nat):Int)]:=rfl;rw [hu8] at hs hma;refine hid2 ?_ hs hma;clear hs hma;intro hs hma
     go_simp
     exact hK _ _ (fun W hW=>⟨_,rfl,hs.out W hW⟩) hma.out
   case hE_ =>
    intro yv w' hR hF;have f0:(yv 0) = .slice va k vc:=hF 0 (by simp) w' (Mod.refl _ _);have f1:(yv 1) = .slice (some ⟨x,ox,none⟩) 8 cx:=hF 1 (by simp) w' (Mod.refl _ _);have f2:(yv 2) = .int .i64 (k:Int):=hF 2 (by simp) w' (Mod.refl _ _);have f3:(yv 3) = .pointer (some ⟨x,ox + k,none⟩):=hF 3 (by simp) w' (Mod.refl _ _);have f4:(yv 4) = .int .u8 (p:Nat):=hF 4 (by simp) w' (Mod.refl _ _);have f5:(yv 5) = .slice (some ⟨y,oy,none⟩) 8 cy:=hF 5 (by simp) w' (Mod.refl _ _);have f6:(yv 6) = .int .i64 (k:Int):=hF 6 (by simp) w' (Mod.refl _ _);have f7:(yv 7) = .pointer (some ⟨y,oy + k,none⟩):=hF 7 (by simp) w' (Mod.refl _ _);have f8:(yv 8) = .int .u8 (q:Nat):=hF 8 (by simp) w' (Mod.refl _ _)
    have f9:(yv 9) = .int .u8 ((p ^^^ q:Nat):Int):=hF 9 (by simp) w' (Mod.refl _ _);have f10:∃ g:Nat,(yv 10) = .slice (some ⟨g,0,none⟩) 1 1∧Src w' (.slice (some ⟨g,0,none⟩) 1 1) [p ^^^ q]:=hF 10 (by simp) w' (Mod.refl _ _);clear hF;generalize yv 0 = y0 at *;subst f0;generalize yv 1 = y1 at *;subst f1;generalize yv 2 = y2 at *;subst f2;generalize yv 3 = y3 at *;subst f3;generalize yv 4 = y4 at *;subst f4;generalize yv 5 = y5 at *;subst f5;generalize yv 6 = y6 at *;subst f6;generalize yv 7 = y7 at *;subst f7;generalize yv 8 = y8 at *;subst f8;generalize yv 9 = y9 at *;subst f9
    generalize yv 10 = y10 at *;simp only [List.drop_succ_cons,List.drop_zero];obtain ⟨g,rfl,hs⟩:=f10;have hmr:=(Mod.refl Nowhere wr).drew.trans hR;have hmw:=hm.out.trans hmr;obtain ⟨va2,vc2,w3,hrun,hown3,hmO⟩:=append_to hln.out (owns_mod hown.out hmr (fun _ _ e=>e)) hs (show k + [p ^^^ q].length≤_ by show k + 1≤_;omega) hmw.size 22;rw [show [p ^^^ q].length = 1 from rfl] at hrun hown3;rw [← htk.out] at hown3;have hmF:=hmw.step hmO fun i hi e=>by have e:w.heap.size≤i:=e;omega
    clear hs hR hmr hmw hmO hm hown;refine hid2 ?_ hown3 hmF;clear hown3 hmF;intro hown3 hmF
    go_wp2_with (at_builtin;refine Lib.wpList_append_run _ rfl _ _ _ _ rfl _ _ (by rfl) (by rfl) _ _ hrun ?_;clear hrun)
    go_roundw
    case rel=>exact ⟨k + 1,by omega,by go_num,hown3.out,hmF.out⟩
    case measure=>simp [intOf];omega
  ·obtain rfl:k = 8:=by omega
   obtain ⟨va,vc,rfl,-⟩:=owns_form hown
   have hf:DSl wr (.slice va 8 vc) (Cy.xorL a b):=by
    rw [List.take_of_length_le (by rw [Cy.xorL_len];exact Nat.le_refl _)] at hown;unfold DSl;rw [Cy.xorL_len];exact Sl.of_owns hown
   refine hid3 ?_ hf hm hown;clear hf hm hown;intro hf hm hown;go_wp2;go_ret;exact ⟨_,rfl,hf.out,hm.out⟩
end
namespace Cy
def padL (d:List Nat):List Nat:=d ++ [128] ++ List.replicate ((8 - (d.length + 1) % 8) % 8) 0
theorem padL_len (d:List Nat):(padL d).length = d.length + 1 + (8 - (d.length + 1) % 8) % 8:=by simp [padL];omega
theorem padL_mod (d:List Nat):(padL d).length % 8 = 0:=by rw [padL_len];omega
end Cy
theorem bytes_pad {d:List Nat} (h:Bytes d):Bytes (Cy.padL d):=by
 refine bytes_append (bytes_append h (bytes_mem.2 (by decide))) (bytes_mem.2 fun x hx=>?_);rw [List.eq_of_mem_replicate hx]
 decide
theorem pad_none {d:List Nat} (h:(d.length + 1) % 8 = 0):Cy.padL d = d ++ [128]:=by unfold Cy.padL;rw [h];simp
theorem pad_some {d:List Nat} (h:¬ (d.length + 1) % 8 = 0):Cy.padL d = d ++ [128] ++ List.replicate (8 - (d.length + 1) % 8) 0:=by
 unfold Cy.padL;rw [show (8 - (d.length + 1) % 8) % 8 = 8 - (d.length + 1) % 8 by omega]
section
variable {w : World} {v : Value} {d : List Nat}
theorem oPad_ok (hs:Src w v d) (hl:d.length≤1000000) :
  Calls Tryz.prog 250 #[v,.int .i64 8] w fun e w'=>∃ r,e = .returned (.tuple #[r,errno 0])∧DSl w' r (Cy.padL d)∧Mod Nowhere w w':=by
 obtain ⟨va,vc,rfl,-⟩:=id hs;have hm1:Mod Nowhere w (w.alloc (.cells #[.int .u8 128] 5)):=(Mod.refl _ w).alloc _;have hm2:Mod Nowhere (w.alloc (.cells #[.int .u8 128] 5)) ((w.alloc (.cells #[.int .u8 128] 5)).alloc (.cells #[.slice va d.length vc,.slice (some ⟨w.heap.size,0,none⟩) 1 1] 22)):=(Mod.refl _ _).alloc _;have hs1:Src (w.alloc (.cells #[.int .u8 128] 5)) (.slice (some ⟨w.heap.size,0,none⟩) 1 1) [128]:=src_one 128 _ (Mod.refl _ _)
 have hb2:Blk ((w.alloc (.cells #[.int .u8 128] 5)).alloc (.cells #[.slice va d.length vc,.slice (some ⟨w.heap.size,0,none⟩) 1 1] 22)) (w.heap.size + 1) [.slice va d.length vc,.slice (some ⟨w.heap.size,0,none⟩) 1 1] 22:=by
  have:=Blk.new (w.alloc (.cells #[.int .u8 128] 5)) [.slice va d.length vc,.slice (some ⟨w.heap.size,0,none⟩) 1 1] 22;simpa using this
 have hJ:=oJoin_ok (xs:=[(.slice va d.length vc,d),(.slice (some ⟨w.heap.size,0,none⟩) 1 1,[128])]) (sl_whole (sz:=1) (n:=2) hb2 rfl (by decide))
  (by
   intro x hx;simp only [List.mem_cons,List.not_mem_nil,or_false] at hx;rcases hx with rfl | rfl
   ·exact (hs.fresh hm1).fresh hm2
   ·exact hs1.fresh hm2) (show 2≤1000 by decide) (by simp [cat];omega)
 have hc:cat [(Value.slice va d.length vc,d),(.slice (some ⟨w.heap.size,0,none⟩) 1 1,[128])] = d ++ [128]:=by simp [cat]
 have hjl:(d ++ [128]).length = d.length + 1:=by simp
 rw [hc,hjl] at hJ;have hmA:=hm1.trans hm2;have hp0:=pad_none (d:=d);have hp1:=pad_some (d:=d);have hpl:=Cy.padL_len d;clear hc hb2 hs1 hs hm1 hm2;generalize Cy.padL d = pd at *;generalize d ++ [128] = jd at *;generalize hn:d.length = dn at *;refine hid6 ?_ hJ hmA hp0 hp1 hpl hjl;clear hJ hmA hp0 hp1 hpl hjl;intro hJ hmA hp0 hp1 hpl hjl;go_enter Tryz.func250,Tryz.ntmps250;go_wp2_with fail;refine (hJ.out).mono ?_;rintro e w3 ⟨v',rfl,hown,hm3⟩;obtain ⟨ja,jc,rfl,-⟩:=owns_form hown;have hmB:=hmA.out.trans hm3;have hn1:0 < dn + 1:=by omega
 generalize hN:dn + 1 = n at *;have htm:(n:Int).tmod 8 = ((n % 8:Nat):Int):=by rw [Int.tmod_eq_emod_of_nonneg (by omega)];omega
 have hr8:n % 8 < 8:=Nat.mod_lt _ (by decide);generalize hq:n % 8 = q at *;have hsz3:=hm3.size;by_cases hz:q = 0
 ·have hp:=hp0.out hz
  have hf:DSl w3 (.slice ja n jc) pd:=by
   rw [hp];unfold DSl;rw [hjl.out];exact Sl.of_owns hown
  subst hz;refine hid5 ?_ hown hm3 hmB hf hq;clear hown hm3 hmB hf hq;intro hown hm3 hmB hf hq;clear hp0 hp1 hpl hjl hsz3;go_wp2
  go_ret2
  exact ⟨_,rfl,hf.out,hmB.out⟩
 ·have hp:=hp1.out hz;have hzi:¬ (q:Int) = 0:=by omega
  have e8:(8:Int) - (q:Int) = ((8 - q:Nat):Int):=by omega
  obtain ⟨g,gc,w4,hrun,hown4,hm4⟩:=append_zeros_any hown (k:=8 - q) (by omega) (by omega) hm3.size 22;rw [← e8] at hrun;have hmC:=hmB.step hm4 fun i hi e=>by have h1:=hmA.out.size;have e:_≤i:=e;omega
  have hu:u8s jd ++ List.replicate (8 - q) (Value.int .u8 0) = u8s pd:=by rw [hp];simp [u8s]
  have hl4:n + (8 - q) = pd.length:=by
   rw [hpl.out];have:(8 - q) % 8 = 8 - q:=by omega
   omega
  rw [hu] at hown4
  have hf:DSl w4 (.slice (some ⟨g,0,none⟩) (n + (8 - q)) gc) pd:=by
   unfold DSl;rw [← hl4];exact Sl.of_owns hown4
  generalize n + (8 - q) = N at *;clear hown4 hu hp e8;refine hid9 ?_ hown hm3 hmB hf hmC hm4 hl4 hsz3 hq;clear hown hm3 hmB hf hmC hm4 hl4 hsz3 hq;intro hown hm3 hmB hf hmC hm4 hl4 hsz3 hq;clear hp0 hp1 hpl hjl
  go_wp2_with (at_builtin;refine Lib.wpList_append_run _ rfl _ _ _ _ rfl _ _ (by rfl) (by rfl) _ _ hrun ?_;clear hrun)
  go_ret2
  exact ⟨_,rfl,hf.out,hmC.out⟩
theorem mpad_ok (hs:Src w v d) (hl:d.length≤1000000) :
  Calls Tryz.prog 179 #[v] w fun e w'=>∃ r,e = .returned r∧DSl w' r (Cy.padL d)∧Mod Nowhere w w':=by
 have hR:=oPad_ok hs hl;obtain ⟨a1,c1,rfl,-⟩:=hs;generalize d.length = dn at *;replace hR:=Lib.hid hR;go_enter Tryz.func179,Tryz.ntmps179;go_wp2_with fail;refine (hR.out).mono ?_;rintro e w' ⟨r,rfl,hB,hm'⟩;refine hid2 ?_ hB hm';clear hB hm';intro hB hm';go_wp2;go_ret;exact ⟨r,rfl,hB.out,hm'.out⟩
theorem rPad_ok (hs:Src w v d) (hl:d.length≤1000000) :
  Calls Tryz.prog 154 #[v,.int .i64 8] w fun e w'=>∃ r,e = .returned (.tuple #[r,errno 0])∧DSl w' r (Cy.padL d)∧Mod Nowhere w w':=by
 have hm0:Mod Nowhere w (w.alloc (.cells #[] 5)):=(Mod.refl _ w).alloc _;obtain ⟨va,vc,w2,r1,ho,hma⟩:=append_src (run_none_u8 w) (hs.fresh hm0) (by omega) (by simp) 22;have hmb:Mod Nowhere w2 (w2.alloc (.cells #[.int .u8 128] 5)):=(Mod.refl _ w2).alloc _;have hm2:Mod Nowhere w w2:=hm0.step hma fun i hi e=>by have e:w.heap.size≤i:=e;omega
 obtain ⟨va2,vc2,w3,r2,ho3,hmc⟩:=append_to (d:=[128]) rfl (owns_mod ho hmb (fun _ _ e=>e)) (src_one 128 _ (Mod.refl _ _)) (show d.length + 1≤_ by omega) (hm2.trans hmb).size 22;have hm3:Mod Nowhere w w3:=(hm2.trans hmb).step hmc fun i hi e=>by have e:w.heap.size≤i:=e;omega
 obtain ⟨a1,c1,rfl,-⟩:=hs;rw [show [128].length = 1 from rfl] at r2 ho3;have hjl:(d ++ [128]).length = d.length + 1:=by simp
 have hpd:Cy.padL d = d ++ [128] ++ List.replicate ((8 - (d.length + 1) % 8) % 8) 0:=rfl;have hpl:=Cy.padL_len d;have hNT:(d.length + 1 + (8 - (d.length + 1) % 8) % 8) % 8 = 0:=by omega
 have hlt8:(8 - (d.length + 1) % 8) % 8 < 8:=Nat.mod_lt _ (by decide);generalize (8 - (d.length + 1) % 8) % 8 = T at *;generalize Cy.padL d = pd at *;generalize d ++ [128] = jd at *;generalize d.length = dn at *;clear hm0 hma hmb hmc ho hm2;refine hid6 ?_ ho3 hm3 hpd hpl hjl hNT;clear ho3 hm3 hpd hpl hjl hNT;intro ho3 hm3 hpd hpl hjl hNT;go_enter Tryz.func154,Tryz.ntmps154
 go_wp2_with (at_builtin;refine Lib.wpList_append_run _ rfl _ _ _ _ rfl _ _ (by rfl) (by rfl) _ _ (by first | exact r1 | exact r2) ?_)
 go_loopg [6] T (fun gg vv wr=>∃ k n:Nat,k≤T∧gg + k = T∧n = dn + 1 + k∧wr.ownsRow w.heap.size 5 1 vv n (u8s (jd ++ List.replicate k 0))∧Mod Nowhere w wr)
 case atStart=>exact ⟨0,dn + 1,by omega,by omega,rfl,by rw [List.replicate_zero,List.append_nil];exact ho3.out,hm3.out⟩
 case round =>
  obtain ⟨k,n,hk,hgg,hn,hown,hm⟩:=hrel;obtain ⟨ja,jc,rfl,-⟩:=owns_form hown;have htm:(n:Int).tmod 8 = ((n % 8:Nat):Int):=by rw [Int.tmod_eq_emod_of_nonneg (by omega)];omega
  by_cases hlt:k < T
  ·have hz:¬ ((n % 8:Nat):Int) = 0:=by have:=hNT.out;omega
   generalize hq:n % 8 = q at *;have hmA:Mod Nowhere wr (wr.alloc (.cells #[.int .u8 0] 5)):=(Mod.refl _ wr).alloc _;obtain ⟨va3,vc3,w4,hrun,hown4,hmD⟩:=append_to (d:=[0]) (by rw [List.length_append,List.length_replicate,hjl.out];omega) (owns_mod hown hmA (fun _ _ e=>e)) (src_one 0 _ (Mod.refl _ _)) (show n + 1≤_ by omega) (hm.trans hmA).size 22;rw [show [0].length = 1 from rfl] at hrun hown4;have hru:jd ++ List.replicate k 0 ++ [0] = jd ++ List.replicate (k + 1) 0:=by rw [List.replicate_succ',List.append_assoc]
   rw [hru] at hown4;have hmF:Mod Nowhere w w4:=(hm.trans hmA).step hmD fun i hi e=>by have e:w.heap.size≤i:=e;omega
   have hu8:(u8s [0]).toArray = #[.int .u8 0]:=rfl;clear hmA hmD hru;refine hid6 ?_ hown hm hown4 hmF hn hq;clear hown hm hown4 hmF hn hq;intro hown hm hown4 hmF hn hq
   go_wp2_with (at_builtin;refine Lib.wpList_append_run _ rfl _ _ _ _ rfl _ _ (by rfl) (by rfl) _ _ hrun ?_;clear hrun)
   go_roundg (T - (k + 1))
   case measure=>omega
   case rel=>exact ⟨k + 1,n + 1,by omega,by omega,by have:=hn.out;omega,hown4.out,hmF.out⟩
  ·obtain rfl:k = T:=by omega
   have hz:n % 8 = 0:=by rw [hn];exact hNT.out
   rw [hz] at htm
   have hf:DSl wr (.slice ja n jc) pd:=by
    rw [← hpd.out] at hown;have hl4:pd.length = n:=by rw [hpl.out,hn]
    unfold DSl;rw [hl4];exact Sl.of_owns hown
   refine hid5 ?_ hf hm hown hn hz;clear hf hm hown hn hz;intro hf hm hown hn hz;go_wp2
   go_ret2
   exact ⟨_,rfl,hf.out,hm.out⟩
end
end Go.Proofs.YtanioleniadhoaaGreat
namespace Go.Proofs.YtanioleniadhoaaGreat
open Go.RowKit
open Jn
attribute [local go_sem] Oper.semAt_some
namespace Cy
def blk (d:List Nat) (k:Nat):List Nat:=(d.drop (8 * k)).take 8
def st (key iv d:List Nat):Nat→List Nat
 | 0=>iv
 | k + 1=>encB key (xorL (blk d k) (st key iv d k))
def cout (key iv d:List Nat):Nat→List Nat
 | 0=>[]
 | k + 1=>cout key iv d k ++ st key iv d (k + 1)
def cbc (key iv d:List Nat):List Nat:=cout key iv d (d.length / 8)
theorem blk_len {d:List Nat} {k:Nat} (h:8 * k + 8≤d.length):(blk d k).length = 8:=by unfold blk;rw [List.length_take,List.length_drop];omega
theorem st_len {key iv d:List Nat} (h:iv.length = 8):∀ k,(st key iv d k).length = 8
 | 0=>h
 | _ + 1=>encB_len _ _
theorem cout_len (key iv d:List Nat):∀ k,(cout key iv d k).length = 8 * k
 | 0=>rfl
 | k + 1=>by
  rw [cout,List.length_append,cout_len key iv d k,st,encB_len];omega
theorem cbc_len {key iv d:List Nat} (h:d.length % 8 = 0):(cbc key iv d).length = d.length:=by unfold cbc;rw [cout_len];omega
theorem cbc_last {key iv d:List Nat} (h:d.length % 8 = 0) (h8:8≤d.length):(cbc key iv d).drop (d.length - 8) = st key iv d (d.length / 8):=by
 unfold cbc;obtain ⟨n,hn⟩:∃ n,d.length / 8 = n + 1:=⟨d.length / 8 - 1,by omega⟩;rw [hn,cout,List.drop_append_of_le_length (by rw [cout_len];omega),List.drop_of_length_le (by rw [cout_len];omega),List.nil_append]
end Cy
theorem bytes_blk {d:List Nat} (h:Bytes d) (k:Nat):Bytes (Cy.blk d k):=bytes_mem.2 fun x hx=>bytes_mem.1 h x (List.mem_of_mem_drop (List.mem_of_mem_take hx))
theorem bytes_enc (l m:List Nat):Bytes (Cy.encB l m):=bytes_mem.2 (Cy.encB_lt l m)
theorem bytes_st {key iv d:List Nat} (h:Bytes iv):∀ k,Bytes (Cy.st key iv d k)
 | 0=>h
 | _ + 1=>bytes_enc _ _
theorem Src.blk {w:World} {b off n cap:Nat} {d:List Nat} (h:Src w (.slice (some ⟨b,off,none⟩) n cap) d) {k:Nat} (hk:8 * k + 8≤n):Src w (.slice (some ⟨b,off + 8 * k,none⟩) 8 (cap - 8 * k)) (Cy.blk d k):=by
 obtain ⟨a,c,e,h1,h2,h3⟩:=h;simp at e;obtain ⟨rfl,rfl,rfl⟩:=e;have hl:=Cy.blk_len hk;refine ⟨_,_,by rw [hl],by omega,by omega,fun _=>?_⟩;obtain ⟨b',off',e,hb,hc⟩:=h3 (by omega);simp at e;obtain ⟨rfl,rfl⟩:=e;refine ⟨_,_,rfl,hb,fun i hi=>?_⟩;rw [hl] at hi;rw [show off + 8 * k + i = off + (8 * k + i) by omega,hc _ (by omega)];unfold Cy.blk;rw [gd0,gd0,List.getElem?_take_of_lt hi,List.getElem?_drop]
theorem copy8 {W:World} {g o dl dc rc:Nat} {ra:Option Addr} {cur:List Value} {d:List Nat} (hg:Blk W g cur 5) (hr:Src W (.slice ra 8 rc) d) (hd:d.length = 8) (ho:o + 8≤cur.length) (hdl:8≤dl) (ty:TypeId) :
  (Builtin.copy_ #[22,22] ty #[.slice (some ⟨g,o,none⟩) dl dc,.slice ra 8 rc]).run Tryz.prog W = .ok (.int .i64 8) (W.setRow g (cur.take o ++ (u8s d ++ cur.drop (o + 8))).toArray):=by
 obtain ⟨i0,hi0,hz0,hz1,hz2⟩:=info_parts info_u8;obtain ⟨a,c,e,h1,h2,h3⟩:=hr;simp at e;obtain ⟨rfl,-,rfl⟩:=e;obtain ⟨b,off,rfl,hb,hc⟩:=h3 (by omega);have hu:(u8s d).length = 8:=by rw [u8s,List.length_map,hd]
 have:=run_copy_row (P:=Tryz.prog) W 22 22 ty 5 g o dl dc ⟨b,off,none⟩ 8 rc cur.toArray 5 (u8s d) Tryz.underlying22 (by rw [hi0,Option.map_some,hz1]) hg (by rw [hu];exact (Nat.min_eq_left hdl).symm) (fun j v hj=>by
  have hjl:j < d.length:=by
   have:=(List.getElem?_eq_some_iff.1 hj).1;simpa [u8s] using this
  rw [add_lit,hc j hjl,← u8s_at d j hjl,gd0,hj]
  rfl) (by rw [hu];simpa using ho) (one_u8s d)
 rw [hu] at this;simpa [goInt] using this
theorem make_n (n:Nat) (hn:n≤1099511627776) (W:World):(Instr.makeSlice 22 (.int .i64 n) (.int .i64 n)).run Tryz.prog W = .ok (.slice (some ⟨W.heap.size,0,none⟩) n n) (W.alloc (.cells (u8s (List.replicate n 0)).toArray 5)):=by
 have:=run_make_full (P:=Tryz.prog) 22 5 (.int .u8 0) 1 Tryz.underlying22 info_u8 rfl n (by omega) (by omega) W;rw [this];simp [u8s]
section
variable {w : World} {kv u v : Value} {l a b d : List Nat} {kb : Nat}
theorem cbcF_ok (hk:Blk w kb [kv] 22) (hkv:Src w kv l) (hl:l.length = 16) (bl:Bytes l) (hu:Src w u a) (ha:a.length = 8) (ba:Bytes a) (hv:Src w v b) (hb:b.length = 8) (bb:Bytes b) :
  Calls Tryz.prog 248 #[u,v,.pointer (some ⟨kb,0,none⟩)] w fun e w'=>∃ r,e = .returned (.tuple #[r,r])∧DSl w' r (Cy.encB l (Cy.xorL a b))∧(∀ k,r.ownBlock = some k→w.heap.size≤k)∧Mod Nowhere w w':=by
 have hX:=fun W (hm:Mod Nowhere w W)=>mxor_ok (hu.fresh hm) (hv.fresh hm) ha hb ba bb;have hE:=fun W u (hm:Mod Nowhere w W) (hx:Src W u (Cy.xorL a b))=>mEncrypt_own (hkv.fresh hm) hl bl hx (Cy.xorL_len a b) (bytes_xor ba bb);obtain ⟨x1,c1,rfl,-⟩:=hu;obtain ⟨x2,c2,rfl,-⟩:=hv;obtain ⟨x3,c3,rfl,-⟩:=hkv;rw [ha] at hX ⊢;rw [hb] at hX ⊢;rw [hl] at hE hk;have hq:=Cy.encB_len l (Cy.xorL a b);have hxl:=Cy.xorL_len a b;generalize Cy.encB l (Cy.xorL a b) = q at *;generalize Cy.xorL a b = xl at *;clear ha hb hl bl ba bb;refine hid5 ?_ hX hE hk hq hxl;clear hX hE hk hq hxl;intro hX hE hk hq hxl
 go_enter Tryz.func248,Tryz.ntmps248;go_wp2_with fail;refine wp_region_vals (fun i=>match i with | 0=>some (.slice x3 16 c3) | 1=>some (.slice x1 8 c1) | 2=>some (.slice x2 8 c2) | _=>none) (fun i=>match i with | 3=>[1,2] | 4=>[0,3] | 5=>[4,0,1,2,3] | _=>[]) 6 (fun i v w'=>match i with | 3=>(∃ (g:Option Addr) (c:Nat),v = .slice g 8 c∧Src w' (.slice g 8 c) xl) | 4=>(∃ (g:Option Addr) (c:Nat),v = .slice g 8 c∧DSl w' (.slice g 8 c) q∧∀ k,(Value.slice g 8 c).ownBlock = some k→w.heap.size≤k) | 5=>(∃ (g:Option Addr) (c:Nat),v = .slice g 8 c∧DSl w' (.slice g 8 c) q∧∀ k,(Value.slice g 8 c).ownBlock = some k→w.heap.size≤k) | _=>True) ?A_1_0 (by first | assumption | kernel_rfl) (by kernel_rfl) (by kernel_rfl) (by kernel_rfl) (by rfl) ?hA_1_0 ?hS_1_0 ?hE_1_0
 case hA_1_0=>intro xs;simp [putAll,List.range,List.range.loop,Act.put] <;> rfl
 case hS_1_0 =>
  refine ⟨?q0_1_0,?_,?_,?q3_1_0,?q4_1_0,?q5_1_0,trivial⟩
  case q0_1_0 =>
   intro yv w' hR hF K hK;clear hF;have b2:=hk.out.mod ((Mod.refl Nowhere _).drew.trans hR) id;have z0:=b2.cell 0;have zl:=b2.lt;simp only [gz0] at z0;clear b2
   go_simp
   exact hK _ _ (fun _ _=>rfl) (Mod.refl _ _)
  case q3_1_0 =>
   intro yv w' hR hF K hK;clear hF;have hc:=hX.out w' ((Mod.refl Nowhere _).drew.trans hR);replace hc:=Lib.hid hc
   go_simp
   go_at_call 249
   refine hc.out.mono ?_;rintro e w9 ⟨r,rfl,hd,hm9⟩;obtain ⟨g,c,rfl,-⟩:=id hd.src;rw [hxl.out] at hd;refine hK _ _ (fun W hW=>⟨g,c,by rw [hxl.out],hd.src.fresh hW⟩) hm9
  case q4_1_0 =>
   intro yv w' hR hF K hK;have f3:=hF 3 (by decide) w' (Mod.refl _ w');clear hF;simp only [mixD,memN,Option.getD_some,Option.getD_none] at hK ⊢;generalize yv 3 = y3 at *;obtain ⟨g,c,rfl,hx⟩:=f3;have hc:=hE.out w' _ ((Mod.refl Nowhere _).drew.trans hR) hx;have hsz:=((Mod.refl Nowhere w).drew.trans hR).size;refine hid3 ?_ hc hx hsz;clear hc hx hsz;intro hc hx hsz
   go_simp
   go_at_call 195
   refine hc.out.mono ?_;rintro e w9 ⟨r,rfl,hd,hfr,hm9⟩;obtain ⟨g,c,rfl,-⟩:=id hd.src;rw [hq.out] at hd hfr ⊢;refine hK _ _ (fun W hW=>⟨g,c,rfl,hd.fresh hW,fun k hk=>Nat.le_trans hsz.out (hfr k hk)⟩) hm9
  case q5_1_0 =>
   intro yv w' hR hF K hK;have f4:=hF 4 (by decide) w' (Mod.refl _ w');have f3:=hF 3 (by decide) w' (Mod.refl _ w');clear hF;simp only [mixD,memN,Option.getD_some,Option.getD_none] at hK ⊢;generalize yv 4 = y4 at *;generalize yv 3 = y3 at *;obtain ⟨g,c,rfl,hd,hfr⟩:=f4;refine hid2 ?_ hd hfr;clear hd hfr;intro hd hfr
   go_simp
   exact hK _ _ (fun W hW=>⟨g,c,rfl,hd.out.fresh hW,hfr.out⟩) (Mod.refl _ _)
  all_goals
   intro yv w' hR hF K hK;clear hF
   go_simp
   exact hK _ _ (fun _ _=>by first | trivial | exact rfl | simp [*,known]) (Mod.refl _ _)
 case hE_1_0 =>
  intro yv w' hR hF;have f3:=hF 3 (by decide) w' (Mod.refl _ w');have f4:=hF 4 (by decide) w' (Mod.refl _ w');have f5:=hF 5 (by decide) w' (Mod.refl _ w');clear hF;simp only [mixN,Option.getD_some,Option.getD_none,Nat.reduceLT,if_true];generalize yv 3 = y3 at *;generalize yv 4 = y4 at *;generalize yv 5 = y5 at *;obtain ⟨g,c,rfl,hd,hfr⟩:=f5;clear f4 f3;have hm4:=(Mod.refl Nowhere _).drew.trans hR;refine hid3 ?_ hd hfr hm4;clear hd hfr hm4;intro hd hfr hm4;go_wp2
  go_ret2
  exact ⟨_,rfl,hd.out,hfr.out,hm4.out⟩
theorem cout_row (l iv d:List Nat) {k n:Nat} (hk:8 * k + 8≤n):(u8s (Cy.cout l iv d k ++ List.replicate (n - 8 * k) 0)).take (8 * k) ++ (u8s (Cy.st l iv d (k + 1)) ++ (u8s (Cy.cout l iv d k ++ List.replicate (n - 8 * k) 0)).drop (8 * k + 8)) = u8s (Cy.cout l iv d (k + 1) ++ List.replicate (n - 8 * (k + 1)) 0):=by
 have h1:=Cy.cout_len l iv d k;have h2:(u8s (Cy.cout l iv d k)).length = 8 * k:=by rw [u8s,List.length_map,h1]
 rw [u8s_append,List.take_left' h2,List.drop_append,h2,List.drop_of_length_le (by omega),List.nil_append,Cy.cout,u8s_append,u8s_append,List.append_assoc]
 congr 2
 rw [show 8 * k + 8 - 8 * k = 8 by omega];simp only [u8s,List.map_replicate,List.drop_replicate]
 congr 1
theorem chain_ok {iv:List Nat} (hk:Blk w kb [kv] 22) (hkv:Src w kv l) (hl:l.length = 16) (bl:Bytes l) (hu:Src w u iv) (hiv:iv.length = 8) (bi:Bytes iv) (hv:Src w v d) (hd8:d.length % 8 = 0) (hd:d.length≤2000000) (h0:0 < d.length) (bd:Bytes d) :
  Calls Tryz.prog 247 #[kv,u,v,.func (.func 248) #[] #[.pointer (some ⟨kb,0,none⟩)]] w fun e w'=>∃ r,e = .returned (.tuple #[r,errno 0])∧DSl w' r (Cy.cbc l iv d)∧Mod Nowhere w w':=by
 obtain ⟨db,doff,dc,rfl,hc1,hc2,-⟩:=id (hv.form h0);have hF:=fun W (hm:Mod Nowhere w W) k r (hr:DSl W r (Cy.st l iv d k)) (k8:8 * k + 8≤d.length)=>cbcF_ok (hk.mod hm id) (hkv.fresh hm) hl bl ((hv.fresh hm).blk k8) (Cy.blk_len k8) (bytes_blk bd k) hr.src (Cy.st_len hiv k) (bytes_st bi k);have hm0:Mod Nowhere w (w.alloc (.cells (u8s (List.replicate d.length 0)).toArray 5)):=(Mod.refl _ w).alloc _;have hB0:=Blk.new w (u8s (List.replicate d.length 0)) 5;have hC:=Clone_src (hu.fresh hm0) (by omega);have hmk:=make_n d.length (by omega) w;obtain ⟨ka,kc,rfl,-⟩:=id hkv;obtain ⟨ua,uc,rfl,-⟩:=id hu
 have hcl:=Cy.cout_len l iv d;have hsl:=Cy.st_len (key:=l) (d:=d) hiv;have hrow:=fun k (h:8 * k + 8≤d.length)=>cout_row l iv d (n:=d.length) h;have hst0:Cy.st l iv d 0 = iv:=rfl;have hst1:∀ k,Cy.st l iv d (k + 1) = Cy.encB l (Cy.xorL (Cy.blk d k) (Cy.st l iv d k)):=fun k=>rfl;have hcb:Cy.cbc l iv d = Cy.cout l iv d (d.length / 8):=rfl;have hc0:Cy.cout l iv d 0 = []:=rfl;have hcbl:=Cy.cbc_len (key:=l) (iv:=iv) hd8;simp only [← hst1] at hF;rw [hl];rw [hiv] at hC ⊢;rw [hcb] at hcbl ⊢;generalize Cy.cout l iv d = CO at *;generalize Cy.st l iv d = ST at *;clear hst1 hk hkv hl bl hu hiv bi hv bd hcb;obtain ⟨i0,hi0,hz0,hz1,hz2⟩:=info_parts info_u8
 have hsz1:(Tryz.prog.info? 5).map (·.size) = some 1:=by rw [hi0,Option.map_some,hz1]
 clear hi0 hz0 hz1 hz2 i0;generalize hn:d.length = n at *;have htm:(n:Int).tmod 8 = 0:=by rw [Int.tmod_eq_emod_of_nonneg (by omega)];omega
 obtain ⟨zs,hzs⟩:∃ z,(u8s (List.replicate n 0)).toArray = z:=⟨_,rfl⟩;rw [hzs] at hm0 hC hmk hB0;unfold maxLen at hc2;refine hid12 ?_ hF hm0 hB0 hC hcl hsl hrow hst0 hc0 hcbl hsz1 hn;clear hF hm0 hB0 hC hcl hsl hrow hst0 hc0 hcbl hsz1 hn;intro hF hm0 hB0 hC hcl hsl hrow hst0 hc0 hcbl hsz1 hn;replace hzs:=Lib.hid hzs;go_enter Tryz.func247,Tryz.ntmps247;go_wp2_with fail;refine hC.out.mono ?_;rintro e w1 ⟨va,vc,rfl,hown,hm1⟩;have hm01:=hm0.out.trans hm1;have hBw:=hB0.out.mod hm1 id;have hfr:=owns_fresh hown
 have hown':DSl w1 (.slice va 8 vc) (ST 0):=by
  rw [hst0.out];unfold DSl;rw [show iv.length = 8 from by rw [← hst0.out];exact hsl.out 0];exact Sl.of_owns hown
 have hfr0:∀ j,(Value.slice va 8 vc).ownBlock = some j→w.heap.size < j:=fun j hj=>by have:=hfr j hj;simp only [World.size_alloc] at this;omega
 clear hfr;refine hid6 ?_ hm01 hBw hown hown' hfr0 hm1;clear hm01 hBw hown hown' hfr0 hm1;intro hm01 hBw hown hown' hfr0 hm1;go_wp2_with fail
 go_loopw [11,12] (fun v i wr=>∃ k m:Nat,m≤n∧m = 8 * k∧i = .int .i64 m∧Blk wr w.heap.size (u8s (CO k ++ List.replicate (n - 8 * k) 0)) 5∧(∃ a c,v = .slice a 8 c)∧DSl wr v (ST k)∧(∀ j,v.ownBlock = some j→w.heap.size < j)∧Mod Nowhere w wr) (fun _ i _=>n - (intOf i).toNat)
 case atStart=>exact ⟨0,0,by omega,rfl,rfl,(by rw [hc0.out];exact hBw.out.conv (by simp [← hzs.out])),⟨_,_,rfl⟩,hown'.out,hfr0.out,hm01.out⟩
 case round =>
  obtain ⟨k,m,hk,hm8,rfl,hB,⟨ca,cc,rfl⟩,hD,hfr,hm⟩:=hrel;by_cases hlt:m < n
  ·have hmn:m + 8≤n:=by omega
   have hx:=hF.out wr hm k _ hD (by omega);have hrw:=hrow.out k (by omega);rw [← hm8] at hx hrw hB;have hcur:=hB.frozen;refine hid7 ?_ hx hrw hB hD hfr hm hm8;clear hx hrw hB hD hfr hm hm8;intro hx hrw hB hD hfr hm hm8;clear hB0 hBw hown hown' hm0 hm1 hC hF hrow;go_wp2_with fail;refine hx.out.mono ?_;rintro e w2 ⟨r,rfl,hd2,hfr2,hm2⟩;obtain ⟨rb,ro,rc,rfl,g1,g2,-⟩:=hd2.src.form (by rw [hsl.out];decide);rw [hsl.out] at hd2 hfr2 g1 ⊢;have hsrc2:=hd2.src;have hB2:=hB.out.mod hm2 id;have hlc:(u8s (CO k ++ List.replicate (n - m) 0)).length = n:=by rw [u8s,List.length_map,List.length_append,List.length_replicate,hcl.out];have:=hm8.out;omega
   have hrun:=copy8 (dl:=n - m) (dc:=n - m) hB2 hsrc2 (hsl.out (k + 1)) (by rw [hlc];exact hmn) (by omega) 3;have hB3:=(hB2.setRow ((u8s (CO k ++ List.replicate (n - m) 0)).take m ++ (u8s (ST (k + 1)) ++ (u8s (CO k ++ List.replicate (n - m) 0)).drop (m + 8)))).conv hrw.out;have hm3:Mod (fun j=>j = w.heap.size) w2 (w2.setRow w.heap.size ((u8s (CO k ++ List.replicate (n - m) 0)).take m ++ (u8s (ST (k + 1)) ++ (u8s (CO k ++ List.replicate (n - m) 0)).drop (m + 8))).toArray):=(Mod.refl (fun j=>j = w.heap.size) w2).setRow (fun _=>rfl) _
   have hbr:w.heap.size < rb:=by
    have h1:=hfr2 rb rfl;have h2:=hB.out.lt;omega
   have hd3:DSl _ (.slice (some ⟨rb,ro,none⟩) 8 rc) (ST (k + 1)):=Sl.mod hd2 hm3 fun j hj e=>by
    have h1:rb = j:=by simpa [Value.ownBlock] using hj
    have h2:j = w.heap.size:=e;omega
   have hm4:=(hm.out.trans hm2).step hm3 fun i hi e=>by have e:i = w.heap.size:=e;omega
   have hfr4:∀ j,(Value.slice (some ⟨rb,ro,none⟩) 8 rc).ownBlock = some j→w.heap.size < j:=fun j hj=>by
    have h1:rb = j:=by simpa [Value.ownBlock] using hj
    omega
   generalize w2.setRow w.heap.size ((u8s (CO k ++ List.replicate (n - m) 0)).take m ++ (u8s (ST (k + 1)) ++ (u8s (CO k ++ List.replicate (n - m) 0)).drop (m + 8))).toArray = w4 at *;clear hm3 hd2 hfr2 hsrc2 hB2 hx hfr hD hB hm2 hrw hlc hbr;refine hid5 ?_ hB3 hd3 hm4 hfr4 hm;clear hB3 hd3 hm4 hfr4 hm;intro hB3 hd3 hm4 hfr4 hm;go_wp2;go_roundw
   case rel=>exact ⟨k + 1,m + 8,by omega,by have:=hm8.out;omega,by go_num,hB3.out,⟨_,_,rfl⟩,hd3.out,hfr4.out,hm4.out⟩
   case measure=>simp [intOf];omega
  ·obtain rfl:m = n:=by omega
   have hf:DSl wr (.slice (some ⟨w.heap.size,0,none⟩) m m) (CO (m / 8)):=by
    have hk8:m / 8 = k:=by omega
    rw [show m - 8 * k = 0 by omega,List.replicate_zero,List.append_nil] at hB;rw [hk8];unfold DSl;rw [hcl.out,← hm8];exact sl_whole (sz:=1) hB (by rw [u8s,List.length_map,hcl.out];omega) (by unfold maxLen;omega)
   refine hid6 ?_ hf hm hB hD hfr hm8;clear hf hm hB hD hfr hm8;intro hf hm hB hD hfr hm8;clear hB0 hBw hown hown' hm0 hm1 hC hF hrow;go_wp2
   go_ret2
   exact ⟨_,rfl,hf.out,hm.out⟩
end
end Go.Proofs.YtanioleniadhoaaGreat
namespace Go.Proofs.YtanioleniadhoaaGreat
open Go.RowKit
open Jn
attribute [local go_sem] Oper.semAt_some
def Cy.mac (key iv d:List Nat):List Nat:=st key iv (padL d) ((padL d).length / 8)
def Cy.dk (key info:List Nat):Nat→List Nat
 | 0=>[]
 | k + 1=>dk key info k ++ mac key zeros ((k + 1) :: info)
theorem Cy.pad_ge (d:List Nat):8≤(padL d).length:=by rw [padL_len];omega
theorem Cy.mac_len {key iv d:List Nat} (h:iv.length = 8):(mac key iv d).length = 8:=st_len h _
theorem Cy.mac_drop (key iv d:List Nat):(cbc key iv (padL d)).drop ((padL d).length - 8) = mac key iv d:=cbc_last (padL_mod d) (pad_ge d)
theorem bytes_mac {key iv d:List Nat} (h:Bytes iv):Bytes (Cy.mac key iv d):=bytes_st h _
section
variable {w : World} {kv u v : Value} {l iv d : List Nat}
theorem mCBC_ok (hkv:Src w kv l) (hl:l.length = 16) (bl:Bytes l) (hu:Src w u iv) (hiv:iv.length = 8) (bi:Bytes iv) (hv:Src w v d) (hd8:d.length % 8 = 0) (hd:d.length≤2000000) (h0:0 < d.length) (bd:Bytes d) :
  Calls Tryz.prog 178 #[kv,u,v] w fun e w'=>∃ r,e = .returned (.tuple #[r,errno 0])∧DSl w' r (Cy.cbc l iv d)∧Mod Nowhere w w':=by
 have hm0:Mod Nowhere w (w.alloc (.cells #[kv] 22)):=(Mod.refl _ w).alloc _;have hb0:=Blk.new w [kv] 22;have hC:=chain_ok hb0 (hkv.fresh hm0) hl bl (hu.fresh hm0) hiv bi (hv.fresh hm0) hd8 hd h0 bd;obtain ⟨ka,kc,rfl,-⟩:=hkv;obtain ⟨ua,uc,rfl,-⟩:=hu;obtain ⟨va,vc,rfl,-⟩:=hv;have z0:=hb0.cell 0;have zl:=hb0.lt;simp only [gz0] at z0;rw [hl] at hm0 hC z0 zl ⊢;rw [hiv] at hC ⊢;have hmf:∀ (fn:Fn) (first cap:Array Value) (w:World),(Instr.makeFunc fn first cap).run Tryz.prog w = .ok (.func fn first cap) w:=fun _ _ _ _=>rfl;generalize d.length = n at *;generalize Cy.cbc l iv d = q at *
 clear hb0 hl bl hiv bi bd hd8 hd h0;refine hid2 ?_ hm0 hC;clear hm0 hC;intro hm0 hC;go_enter Tryz.func178,Tryz.ntmps178;go_wp2_with fail;refine hC.out.mono ?_;rintro e w1 ⟨r,rfl,hD,hm1⟩;have hm:=hm0.out.trans hm1;clear z0 zl;refine hid3 ?_ hD hm hm1;clear hD hm hm1;intro hD hm hm1;go_wp2
 go_ret2
 exact ⟨_,rfl,hD.out,hm.out⟩
theorem mMAC_ok (hkv:Src w kv l) (hl:l.length = 16) (bl:Bytes l) (hu:Src w u iv) (hiv:iv.length = 8) (bi:Bytes iv) (hv:Src w v d) (hd:d.length≤1000000) (bd:Bytes d) :
  Calls Tryz.prog 111 #[kv,u,v] w fun e w'=>∃ r,e = .returned (.tuple #[r,errno 0])∧DSl w' r (Cy.mac l iv d)∧Mod Nowhere w w':=by
 have hP:=mpad_ok hv hd;have hpl:=Cy.padL_len d;have hE:=fun W r (hm:Mod Nowhere w W) (hr:DSl W r (Cy.padL d))=>mCBC_ok (hkv.fresh hm) hl bl (hu.fresh hm) hiv bi hr.src (Cy.padL_mod d) (by omega) (by omega) (bytes_pad bd);have hcl:=Cy.cbc_len (key:=l) (iv:=iv) (Cy.padL_mod d);have hge:=Cy.pad_ge d;have hmd:=Cy.mac_drop l iv d;have hml:=Cy.mac_len (key:=l) (d:=d) hiv;obtain ⟨ka,kc,rfl,-⟩:=hkv;obtain ⟨ua,uc,rfl,-⟩:=hu;obtain ⟨va,vc,rfl,-⟩:=hv;rw [hl] at hE ⊢;rw [hiv] at hE ⊢;generalize Cy.mac l iv d = mq at *;generalize Cy.cbc l iv (Cy.padL d) = cq at *
 generalize Cy.padL d = p at *;generalize d.length = n at *;obtain ⟨q,hq⟩:∃ q,p.length = q + 8:=⟨p.length - 8,by omega⟩;rw [hq] at hcl hmd;rw [Nat.add_sub_cancel] at hmd;clear hl bl hiv bi bd hge hpl;refine hid6 ?_ hP hE hq hcl hmd hml;clear hP hE hq hcl hmd hml;intro hP hE hq hcl hmd hml;go_enter Tryz.func111,Tryz.ntmps111;go_wp2_with fail;refine (hP.out).mono ?_;rintro e w1 ⟨r1,rfl,hD1,hm1⟩;have hE1:=hE.out w1 r1 hm1 hD1;obtain ⟨pa,pc,rfl,-⟩:=id hD1.src;rw [hq.out] at hE1 hD1 ⊢;refine hid3 ?_ hE1 hD1 hm1;clear hE1 hD1 hm1;intro hE1 hD1 hm1;clear hE hP;go_wp2_with fail;refine hE1.out.mono ?_;rintro e w2 ⟨r2,rfl,hD2,hm2⟩
 have hmA:=hm1.out.trans hm2;obtain ⟨cb,co,cc,rfl,g1,g2,-⟩:=id (hD2.src.form (by rw [hcl.out];omega));have hD3:=hD2.from (k:=q) (by rw [hcl.out];omega);rw [hcl.out,hmd.out,Nat.add_sub_cancel_left] at hD3;rw [hcl.out] at hD2 g1 ⊢;have hC:=Clone_src hD3.src (by rw [hml.out];decide);rw [hml.out] at hC;unfold maxLen at g2;refine hid5 ?_ hD2 hD3 hmA hm2 hC;clear hD2 hD3 hmA hm2 hC;intro hD2 hD3 hmA hm2 hC;go_wp2_with fail;refine hC.out.mono ?_;rintro e w3 ⟨xa,xc,rfl,hown,hm3⟩
 have hf:DSl w3 (.slice xa 8 xc) mq:=by
  unfold DSl;rw [hml.out];exact Sl.of_owns hown
 have hmB:=hmA.out.trans hm3;refine hid4 ?_ hf hmB hm3 hown;clear hf hmB hm3 hown;intro hf hmB hm3 hown;go_wp2
 go_ret2
 exact ⟨_,rfl,hf.out,hmB.out⟩
end
end Go.Proofs.YtanioleniadhoaaGreat
