/-
  The laws of chapter 21, in plain numbers: a state in which the comparison alone has happened.
-/
import Derived.Test.YtjanpegbemepgaaGreatTG45
set_option linter.unusedVariables false
set_option linter.unusedSimpArgs false
set_option maxRecDepth 100000
namespace Go.Proofs.YtjanpegbemepgaaGreat
open Go.RowKit
open Jn Vn
def qRestored (S:QF) (p:QP):QF:=⟨qupd S.g p.d.id (some { p with u:=p.d.cl }),S.act,S.o⟩
def qVerified (S:QF) (x:Pop):QF :=
 if x.op = 3 then (if (qChange S x.id x.a x.b).2.2 = 0 then (qVerify S x.id x.a).1 else S)
 else if x.op = 4 then (if (qUnblock S x.id x.a x.b).2.2 = 0 then (match atQ S.g x.id with | none=>S | some p=>qRestored S p) else S)
 else S
theorem ql_pair {g:Nat→Option QP} (h:QFn g):(ql g).Pairwise fun a b=>a.d.id < b.d.id:=by
 unfold ql qlTo;refine List.Pairwise.filterMap (R:=fun a b:Nat=>a < b) g (fun a a' hlt b hb b' hb'=>?_) List.pairwise_lt_range;have e1:=(h.id a b hb).1;have e2:=(h.id a' b' hb').1;omega
theorem ql_ne {g:Nat→Option QP} (h:QFn g) {i j:Nat} (hi:i < (ql g).length) (hj:j < (ql g).length) (hne:i ≠ j):(ql g)[i].d.id ≠ (ql g)[j].d.id:=by
 have hp:=List.pairwise_iff_getElem.1 (ql_pair h);rcases Nat.lt_or_gt_of_ne hne with hl | hl
 ·have:=hp i j hi hj hl;omega
 ·have:=hp j i hj hi hl;omega
theorem ql_set {g:Nat→Option QP} (h:QFn g) {p:QP} (hp:g p.d.id = some p) {k:Nat} (hk:k < (ql g).length) (e:(ql g)[k] = p) (q:QP):ql (qupd g p.d.id (some q)) = (ql g).set k q:=by
 have e1:ql (qupd g p.d.id (some q)) = (ql g).map fun r=>if r.d.id = p.d.id then q else r:=by
  unfold ql qlTo;rw [List.map_filterMap]
  congr 1
  funext j
  unfold qupd;by_cases hj:j = p.d.id
  ·rw [if_pos hj,hj,hp];simp
  ·rw [if_neg hj]
   cases hg:g j with
   | none=>rfl
   | some r =>
    have:=(h.id j r hg).1;have hne:¬ r.d.id = p.d.id:=by omega
    simp [hne]
 rw [e1];refine List.ext_getElem (by simp) fun j h1 h2=>?_;rw [List.getElem_map];have hj:j < (ql g).length:=by simpa using h1
 by_cases hjk:j = k
 ·subst hjk;rw [List.getElem_set_self,e,if_pos rfl]
 ·rw [List.getElem_set_ne (fun e=>hjk e.symm),if_neg];have:=ql_ne h hj hk hjk;rw [e] at this;exact this
theorem qxsCells_set:∀ (xs:List Qx) (k:Nat) (hk:k < xs.length) (y:Qx) (j:Nat) (v:Value),j < 10→qxCells y = (qxCells xs[k]).set j v→qxsCells (xs.set k y) = (qxsCells xs).set (k * 10 + j) v
 | x :: xs,0,_,y,j,v,hj,h=>by
  have h:qxCells y = (qxCells x).set j v:=h
  show qxCells y ++ qxsCells xs = (qxCells x ++ qxsCells xs).set (0 * 10 + j) v
  rw [h,Nat.zero_mul,Nat.zero_add,List.set_append_left _ _ (by rw [qxCells_len];exact hj)]
 | x :: xs,k + 1,hk,y,j,v,hj,h=>by
  have h:qxCells y = (qxCells (xs[k]'(by simpa using hk))).set j v:=h
  show qxCells x ++ qxsCells (xs.set k y) = (qxCells x ++ qxsCells xs).set ((k + 1) * 10 + j) v
  rw [qxsCells_set xs k (by simpa using hk) y j v hj h,List.set_append_right _ _ (by rw [qxCells_len];omega)]
  congr 2
  rw [qxCells_len];omega
theorem qps_set (xs:List Qx) (k:Nat) (y:Qx):qps (xs.set k y) = (qps xs).set k y.2:=by
 unfold qps;rw [List.map_set]
theorem QSl.set_u {w:World} {B n cap g:Nat} {xs:List Qx} (ho:w.ownsRow B 116 10 (.slice (some ⟨g,0,none⟩) n cap) n (qxsCells xs)) (hn:xs.length = n) (hd:∀ x ∈ xs,QxD w x) {k:Nat} (hk:k < xs.length) (c:Nat) (h0:0 < n) :
  QSl (w.setCell ⟨g,k * 10 + 8,none⟩ (.int .i64 c)) (.slice (some ⟨g,0,none⟩) n cap) (xs.set k (xs[k].1,{ xs[k].2 with u:=c }))∧Mod (Above B) w (w.setCell ⟨g,k * 10 + 8,none⟩ (.int .i64 c)):=by
 obtain ⟨hl,hr⟩:=ho;rcases hr with ⟨e,_⟩ | ⟨g',cap',cur,e,hbg,hg,hnc,hcm,hcs,htake⟩
 ·cases e
 cases e
 have hb:Blk w g cur.toList 116:=by unfold Blk;rw [Array.toArray_toList];exact hg
 have m1:Mod (fun j=>j = g) w (w.setCell ⟨g,k * 10 + 8,none⟩ (.int .i64 c)):=(Mod.refl (fun j=>j = g) w).setCell (p:=⟨g,k * 10 + 8,none⟩) (fun _=>rfl) _;have hc:qxsCells (xs.set k (xs[k].1,{ xs[k].2 with u:=c })) = (qxsCells xs).set (k * 10 + 8) (.int .i64 c):=qxsCells_set xs k hk _ 8 _ (by omega) rfl;have hb2:=hb.setCell (k * 10 + 8) (.int .i64 c);have hx:(xs.set k (xs[k].1,{ xs[k].2 with u:=c })).length = n:=by rw [List.length_set];exact hn
 have hsl:Sl (w.setCell ⟨g,k * 10 + 8,none⟩ (.int .i64 c)) (.slice (some ⟨g,0,none⟩) n cap) 116 10 n (qxsCells (xs.set k (xs[k].1,{ xs[k].2 with u:=c }))):=by
  refine ⟨by rw [hc,List.length_set];exact hl,.inr ⟨g,0,cap,_,rfl,hb2,hnc,hcm,?_,?_⟩⟩
  ·rw [List.length_set,Array.length_toList];omega
  ·rw [List.drop_zero,List.take_set,htake,hc]
 refine ⟨⟨by rw [hx];exact hsl,fun x hx=>?_⟩,m1.mono fun i _ e=>by rw [e];exact hbg⟩
 have hu8:Shun (fun j=>j = g) w 5:=fun j e cs' hb'=>by
  have e:j = g:=e;rw [e] at hb';exact absurd (hb.inj hb').2 (by decide)
 rcases List.mem_or_eq_of_mem_set hx with hx | rfl
 ·exact (hd x hx).mod m1 hu8
 ·exact QxD.mod (x:=(xs[k].1,{ xs[k].2 with u:=c })) ⟨(hd _ (List.getElem_mem hk)).dv,(hd _ (List.getElem_mem hk)).dc⟩ m1 hu8
end Go.Proofs.YtjanpegbemepgaaGreat
namespace Go.Proofs.YtjanpegbemepgaaGreat
open Go.RowKit
theorem append_zeros_any {w:World} {base n k:Nat} {v:Value} {xs:List Value} (hown:w.ownsRow base 5 1 v n xs) (hk:0 < k) (hle:n + k≤1099511627776) (hbase:base≤w.heap.size) (ty:TypeId) :
  ∃ g cap w',(Builtin.append_ #[31,3] ty #[v,.int .i64 k]).run Tryz.prog w = .ok (.slice (some ⟨g,0,none⟩) (n + k) cap) w'∧w'.ownsRow base 5 1 (.slice (some ⟨g,0,none⟩) (n + k) cap) (n + k) (xs ++ List.replicate k (.int .u8 0))∧Mod (Above base) w w':=by
 obtain ⟨i0,hi0,hz0,hz1,hz2⟩:=info_parts info_u8;have hl:=hown.1;rw [Nat.mul_one] at hl;rcases hown.2 with ⟨hv,h0⟩ | ⟨g,cap,cur,rfl,hbg,hg,hnc,hcm,hcs,htake⟩
 ·subst h0;have hx:xs = []:=List.eq_nil_of_length_eq_zero hl;subst hx;subst hv;have hge:=grownCap_ge w k 0 5;have hcm':=grownCap_le_maxLen w k 0 5 (by unfold maxLen;omega);rw [Nat.zero_add];have hrun:=Lib.run_append_nil_zeros (P:=Tryz.prog) w 31 3 ty 5 i0 (.int .u8 0) .i64 .i64 Tryz.underlying31 Tryz.underlying3 hi0 hz0 k hk (by omega) (by omega) (by rw [hz2];omega);refine ⟨_,_,_,hrun,⟨by simp,.inr ⟨_,_,_,rfl,hbase,heap_alloc_new w.drew _,hge,hcm',?_,?_⟩⟩,?_⟩
  ·simp only [Array.size_append,size_zeroCells,Value.cells]
   simp;omega
  ·simp only [Value.cells,zeroCells_u8,u8s_rep,List.append_toArray];rw [Nat.mul_one];exact List.take_left' (by simp)
  ·exact ((Mod.refl _ w).drew).alloc _
 ·rw [Nat.mul_one] at hcs htake;by_cases hroom:n + k≤cap
  ·have hst:=run_storeCells_at Tryz.prog g n 5 (List.replicate k (.int .u8 0)) 0 cur w hg (by simp;omega) (by intro u hu;rw [List.eq_of_mem_replicate hu];rfl);simp only [Nat.add_zero,List.length_replicate] at hst;have hw:IntKind.i64.wrap (k:Int) = k:=by rw [IntKind.wrap_i64];omega
   have hneg:¬ ((k:Int) < 0):=by omega
   have h48i:¬ (281474976710656 < (k:Int) * (i0.bytes:Int)):=by rw [hz2];omega
   have hk0:k ≠ 0:=by omega
   refine ⟨g,cap,w.setRow g (cur.toList.take n ++ List.replicate k (Value.int .u8 0) ++ cur.toList.drop (n + k)).toArray,?_,?_,?_⟩
   ·simp [Builtin.append_,run_underlying Tryz.underlying31,run_underlying Tryz.underlying3,sizeOf,typeInfo,zeroValue,hi0,hz0,hz1,asInt,asIntOf,hw,hneg,h48i,hroom,hk0,Value.cells,Addr.add_lit,zeroCells_u8,u8s_rep,hst]
   ·refine ⟨by simp [hl],.inr ⟨g,cap,_,rfl,hbg,setRow_heap w g cur _ 5 _ hg,hroom,hcm,?_,?_⟩⟩
    ·simp;omega
    ·rw [htake,Nat.mul_one];exact List.take_left' (by simp [hl])
   ·exact (Mod.refl _ w).setRow (fun _=>hbg) _
  ·have hold:(Builtin.firstCells i0.size n (.slice (some ⟨g,0,none⟩) n cap)).run Tryz.prog w.drew = .ok xs.toArray w.drew:=by
    rw [hz1];refine run_firstCells_some _ 1 n _ n cap _ (by simp [hl]) (fun j u hj=>?_);have:=hown.cells (g:=g) rfl j u hj;simpa using this
   have hnx:Builtin.nextslicecap (n + k) cap * i0.bytes≤281474976710656:=by
    rw [hz2];exact growslice_fits (need:=n + k) (old:=cap) (bytes:=1) (by omega) (by omega)
   have hrun:=Lib.run_append_grow_zeros (P:=Tryz.prog) w 31 3 ty 5 i0 (.int .u8 0) .i64 .i64 Tryz.underlying31 Tryz.underlying3 hi0 hz0 (some ⟨g,0,none⟩) n cap xs hold k hk (by omega) (by omega) (by omega) (by rw [hz2];omega) hnx;have hge:=grownCap_ge w (n + k) cap 5;have hcm':=grownCap_le_maxLen w (n + k) cap 5 (by unfold maxLen;omega);refine ⟨_,_,_,hrun,⟨by simp [hl],.inr ⟨_,_,_,rfl,hbase,heap_alloc_new w.drew _,hge,hcm',?_,?_⟩⟩,?_⟩
   ·simp only [Array.size_append,List.size_toArray,size_zeroCells,Value.cells,hl]
    simp;omega
   ·simp only [Value.cells,zeroCells_u8,u8s_rep,List.append_toArray,List.append_assoc];rw [← List.append_assoc,Nat.mul_one];exact List.take_left' (by simp [hl])
   ·exact ((Mod.refl _ w).drew).alloc _
end Go.Proofs.YtjanpegbemepgaaGreat
namespace Go.Proofs.YtjanpegbemepgaaGreat
open Go.RowKit
open Jn Vn
attribute [local go_sem] Oper.semAt_some
def Pop.wrong (x:Pop):Pop:={ x with a:=x.a ++ List.replicate 17 0 }
def qSpent (S:QF) (x:Pop):QF:=if 2≤x.op∧x.op≤4 then (qOp S x.wrong).1 else S
theorem boxes4q (w:World) (l0 l1 l2 l3:List Value) (T0 T1 T2 T3:TypeId) :
  ∃ W,(((w.alloc (.cells l0.toArray T0)).alloc (.cells l1.toArray T1)).alloc (.cells l2.toArray T2)).alloc (.cells l3.toArray T3) = W∧Blk W w.heap.size l0 T0∧Blk W (w.heap.size + 1) l1 T1∧Blk W (w.heap.size + 1 + 1) l2 T2∧Blk W (w.heap.size + 1 + 1 + 1) l3 T3∧Mod Nowhere w W∧W.heap.size = w.heap.size + 1 + 1 + 1 + 1:=by
 obtain ⟨W0,e0,b0,b1,b2,hm,hz⟩:=boxes3 w l0 l1 l2 T0 T1 T2;rw [e0];have b3:=Blk.new W0 l3 T3;rw [hz] at b3;exact ⟨_,rfl,b0.alloc _,b1.alloc _,b2.alloc _,b3,hm.alloc _,by simp [hz]⟩
theorem Bytes.zeros (l:List Nat) (h:Bytes l) (k:Nat):Bytes (l ++ List.replicate k 0):=fun i=>by
 by_cases hi:i < l.length
 ·have:=h i;rw [List.getD_eq_getElem?_getD,List.getElem?_append_left hi,← List.getD_eq_getElem?_getD];exact this
 ·rw [List.getD_eq_getElem?_getD,List.getElem?_append_right (by omega)];rw [List.getElem?_replicate]
  split <;> simp
theorem Src.srcCells {w:World} {b off c:Nat} {d:List Nat} (h:Src w (.slice (some ⟨b,off,none⟩) d.length c) d) (h0:0 < d.length):∀ j u,(u8s d)[j]? = some u→w.cell? ((⟨b,off,none⟩:Addr).add j) = some u:=by
 intro j u hu;obtain ⟨a',c',e,h1,h2,h3⟩:=h;obtain ⟨b',off',e1,hb,hc⟩:=h3 h0
 cases e
 cases e1
 have hj:j < d.length:=by
  have:=(List.getElem?_eq_some_iff.1 hu).1;simpa [u8s] using this
 rw [add_lit,hc j hj];unfold u8s at hu;rw [List.getElem?_map,List.getElem?_eq_getElem hj] at hu;rw [List.getD_eq_getElem?_getD,List.getElem?_eq_getElem hj];exact hu
set_option maxHeartbeats 16000000 in
theorem spent21_ok {w:World} {v0:Value} {S:QF} (h:QRep w v0 S) (hS:S.Ok) (hbd:∀ k p,S.g k = some p→p.t≤15∧p.u≤15) {x:Pop} (hx:PopAt w x) (hla:x.a.length≤40) (hlb:x.b.length≤40) :
  Calls Tryz.prog 29 #[v0,.agg x.cells.toArray] w (StPost w (qSpent S x)):=by
 obtain ⟨R,hR⟩:∃ R,qSpent S x = R:=⟨_,rfl⟩;rw [hR];obtain ⟨lv,ov,rfl,hL⟩:=h;obtain ⟨la,ln,lc,oa,om,oc,rfl,rfl⟩:=hL.form;have hxx:=hx;obtain ⟨sa,ba,sb,bb,hd,hop,hid⟩:=hx;obtain ⟨op,id,⟨did,vv,v,li,lo,hi,uv,u,cl⟩,av,a,bv,b⟩:=x;dsimp only at sa ba sb bb hd hop hid hla hlb;have s1:=hd.sv;have s2:=hd.su;dsimp only at s1 s2;have hsa0:=sa;obtain ⟨aa,ac,rfl,ha1,ha2,ha3⟩:=sa;obtain ⟨xb,bc,rfl,-,-,-⟩:=sb;obtain ⟨va,vc,rfl,-,-,-⟩:=s1;obtain ⟨ua,uc,rfl,-,-,-⟩:=s2;obtain ⟨act,hac⟩:∃ act,S.act = act:=⟨_,rfl⟩;obtain ⟨W,hW,b0,b1,b2,b3,hmW,hzW⟩:=boxes4q w [.slice la ln lc,.bool S.act,.slice oa om oc] [.int .i64 op,.int .i64 id,.int .i64 did,.slice va v.length vc,.int .i64 li,.int .i64 lo,.int .i64 hi,.slice ua u.length uc,.int .i64 cl,.slice aa a.length ac,.slice xb b.length bc] zst [.int .i64 op,.int .i64 id,.int .i64 did,.slice va v.length vc,.int .i64 li,.int .i64 lo,.int .i64 hi,.slice ua u.length uc,.int .i64 cl,.slice aa a.length ac,.slice xb b.length bc] 50 37 50 37;rw [hac] at b0 hW ⊢
 obtain ⟨i0,hi0,hz0,hz1,hz2⟩:=info_parts info_cl_u8
 -- the slice
 have hmE:=(Mod.refl Nowhere W).alloc (.cells #[] 5);have hmade:(W.alloc (.cells #[] 5)).ownsRow W.heap.size 5 1 (.slice (some ⟨W.heap.size,0,none⟩) 0 0) 0 []:=World.ownsRow_made W #[] 0 (Nat.le_refl _) (Nat.zero_le _) (by simp);have k0:=b0.cell 0;have k1:=b0.cell 1;have k2:=b0.cell 2;have p9:=b1.cell 9;simp only [List.getElem?_cons_zero,List.getElem?_cons_succ] at k0 k1 k2 p9;have kl:=b0.lt;have pl:=b1.lt;unfold zst at hW;refine hid12 ?_ hW hR hL hsa0 ba bb hxx hd b0 b1 b2 b3;clear hW hR hL hsa0 ba bb hxx hd b0 b1 b2 b3;intro hW hR hL hsa0 ba bb hxx hd b0 b1 b2 b3;refine hid7 ?_ hmW hzW hac hS hbd hmade hmE;clear hmW hzW hac hS hbd hmade hmE;intro hmW hzW hac hS hbd hmade hmE
 unfold Pop.cells Pin7.cells;go_enter Tryz.func29,Tryz.ntmps29
 go_upto_region 2 with (fail)
 rw [hW.out]
 go_cut [] (fun wx=>∃ g c,Blk wx (w.heap.size + 1 + 1 + 1) [.int .i64 op,.int .i64 id,.int .i64 did,.slice va v.length vc,.int .i64 li,.int .i64 lo,.int .i64 hi,.slice ua u.length uc,.int .i64 cl,.slice (some ⟨g,0,none⟩) (a.length + 17) c,.slice xb b.length bc] 37∧Src wx (.slice (some ⟨g,0,none⟩) (a.length + 17) c) (a ++ List.replicate 17 0)∧Mod (fun j=>j = w.heap.size + 1 + 1 + 1) W wx)
 case first =>
  by_cases hn:0 < a.length
  ·obtain ⟨b',off',rfl,hb',hc'⟩:=ha3 hn;have hsrc:=(hsa0.out.fresh (hmW.out.trans hmE.out)).srcCells hn
   have hone:∀ u ∈ u8s a,u.oneCell' = true:=by
    intro y hy;simp only [u8s,List.mem_map] at hy;obtain ⟨x,_,rfl⟩:=hy
    rfl
   have hlen:(u8s a).length = a.length * 1:=by rw [u8s_len,Nat.mul_one]
   have hb2:b' < (W.alloc (.cells #[] 5)).heap.size:=by have:=hmW.out.size;have:=hmE.out.size;omega
   refine hid3 ?_ hsrc hone hlen;clear hsrc hone hlen;intro hsrc hone hlen
   go_wp2_with (first
    | (at_builtin;have _t:=hmade;refine wpList_append_own _ rfl _ _ 31 rfl W.heap.size 5 i0 (.int .u8 0) 1 1 Tryz.underlying31 hi0 hz0 hz1 hz2 rfl (by decide) _ _ _ rfl hmade.out ⟨b',off',none⟩ a.length ac (u8s a) rfl hlen.out hsrc.out hone.out (by unfold maxLen;omega) (by omega) (by simp) ?_;intro v' w2 hown2 hgrow hnil;have hm2:Mod Nowhere W w2:=hmE.out.grown hgrow (fun k e hk=>by cases e;exact absurd hk (Nat.lt_irrefl _));have hws:=hm2.size;obtain ⟨g4,cap4,w4,hrz,hown4,hm24⟩:=append_zeros_any hown2 (k:=17) (by omega) (by omega) (by omega) 31;have hm4:Mod Nowhere W w4:=hm2.step hm24 (fun i hi e=>by have e:W.heap.size≤i:=e;omega);rw [show ((17:Nat):Int) = 17 from rfl,Nat.zero_add] at hrz;rw [Nat.zero_add] at hown4;clear hown2 hgrow hnil hm2 hm24 hws hmade;have e3:=b3.out.mod hm4 (fun e=>e);have q9:=e3.cell 9;simp only [List.getElem?_cons_zero,List.getElem?_cons_succ] at q9;have ql:=e3.lt;have qf:=e3.frozen;replace e3:=Lib.hid e3;replace hown4:=Lib.hid hown4;replace hm4:=Lib.hid hm4)
    | (at_builtin;have _t:=hrz;refine Lib.wpList_append_run _ rfl _ _ _ _ rfl _ _ (by rfl) (by rfl) _ _ hrz ?_;clear hrz)
    | fail)
   have hd4:DSl w4 (.slice (some ⟨g4,0,none⟩) (a.length + 17) cap4) (a ++ List.replicate 17 0):=by
    have h:=Sl.of_owns hown4.out;unfold DSl;rw [u8s_append,u8s_rep,List.length_append,List.length_replicate];exact h
   have m1:Mod (fun j=>j = w.heap.size + 1 + 1 + 1) w4 (w4.setCell ⟨w.heap.size + 1 + 1 + 1,9,none⟩ (.slice (some ⟨g4,0,none⟩) (a.length + 17) cap4)):=(Mod.refl (fun j=>j = w.heap.size + 1 + 1 + 1) w4).setCell (p:=⟨w.heap.size + 1 + 1 + 1,9,none⟩) (fun _=>rfl) _;have hfin:=And.intro (e3.out.setCell 9 (.slice (some ⟨g4,0,none⟩) (a.length + 17) cap4)) (And.intro (DSl.mod hd4 m1 (fun k e cs hb=>by have e:k = w.heap.size + 1 + 1 + 1:=e;rw [e] at hb;exact absurd (hb.inj e3.out).2 (by decide))).src (hm4.out.nowhere.trans m1));clear hd4 m1;replace hfin:=Lib.hid hfin;go_wp2
   go_meet
   case rel=>exact ⟨_,_,hfin.out⟩
  ·have h0:a.length = 0:=by omega
   have ha0:a = []:=List.eq_nil_of_length_eq_zero h0
   have hr0:(Builtin.append_ #[31,31] 31 #[.slice (some ⟨W.heap.size,0,none⟩) 0 0,.slice aa a.length ac]).run Tryz.prog (W.alloc (.cells #[] 5)) = .ok (.slice (some ⟨W.heap.size,0,none⟩) 0 0) (W.alloc (.cells #[] 5)):=by
    rw [h0]
    cases aa <;> simp [Builtin.append_,run_underlying Tryz.underlying31,sizeOf,typeInfo,hi0,hz1,asInt,asIntOf,Builtin.lenOf,Builtin.firstCells,storeCells,loadCells,loadCellsFrom]
   obtain ⟨g4,cap4,w4,hrz,hown4,hm24⟩:=append_zeros_any hmade.out (k:=17) (by omega) (by omega) (by have:=hmE.out.size;omega) 31;have hm4:Mod Nowhere W w4:=hmE.out.step hm24 (fun i hi e=>by have e:W.heap.size≤i:=e;omega);rw [show ((17:Nat):Int) = 17 from rfl,Nat.zero_add] at hrz;rw [Nat.zero_add] at hown4;have hrz:(Builtin.append_ #[31,3] 31 #[.slice (some ⟨W.heap.size,0,none⟩) 0 0,.int .i64 17]).run Tryz.prog (W.alloc (.cells #[] 5)) = .ok (.slice (some ⟨g4,0,none⟩) (a.length + 17) cap4) w4:=by rw [h0];exact hrz
   have hown4:w4.ownsRow W.heap.size 5 1 (.slice (some ⟨g4,0,none⟩) (a.length + 17) cap4) (a.length + 17) (u8s a ++ List.replicate 17 (.int .u8 0)):=by rw [ha0];exact hown4
   clear hm24 hmade;have e3:=b3.out.mod hm4 (fun e=>e);have q9:=e3.cell 9;simp only [List.getElem?_cons_zero,List.getElem?_cons_succ] at q9;have ql:=e3.lt;have qf:=e3.frozen;clear h0 hn ha0;refine hid3 ?_ hown4 hm4 e3;clear hown4 hm4 e3;intro hown4 hm4 e3
   go_wp2_with (first
    | (at_builtin;have _t:=hr0;refine Lib.wpList_append_run _ rfl (.tmp 9) (.tmp 11) _ _ rfl _ _ (by rfl) (by rfl) _ _ hr0 ?_;clear hr0)
    | (at_builtin;have _t:=hrz;refine Lib.wpList_append_run _ rfl _ _ _ _ rfl _ _ (by rfl) (by rfl) _ _ hrz ?_;clear hrz)
    | fail)
   have hd4:DSl w4 (.slice (some ⟨g4,0,none⟩) (a.length + 17) cap4) (a ++ List.replicate 17 0):=by
    have h:=Sl.of_owns hown4.out;unfold DSl;rw [u8s_append,u8s_rep,List.length_append,List.length_replicate];exact h
   have m1:Mod (fun j=>j = w.heap.size + 1 + 1 + 1) w4 (w4.setCell ⟨w.heap.size + 1 + 1 + 1,9,none⟩ (.slice (some ⟨g4,0,none⟩) (a.length + 17) cap4)):=(Mod.refl (fun j=>j = w.heap.size + 1 + 1 + 1) w4).setCell (p:=⟨w.heap.size + 1 + 1 + 1,9,none⟩) (fun _=>rfl) _;have hfin:=And.intro (e3.out.setCell 9 (.slice (some ⟨g4,0,none⟩) (a.length + 17) cap4)) (And.intro (DSl.mod hd4 m1 (fun k e cs hb=>by have e:k = w.heap.size + 1 + 1 + 1:=e;rw [e] at hb;exact absurd (hb.inj e3.out).2 (by decide))).src (hm4.out.nowhere.trans m1));clear hd4 m1;replace hfin:=Lib.hid hfin;go_wp2
   go_meet
   case rel=>exact ⟨_,_,hfin.out⟩
 case rest =>
  obtain ⟨g,c,bw,hsw,hm1⟩:=hcut;have c0:=b0.out.mod hm1 (fun e=>by have e:w.heap.size = w.heap.size + 1 + 1 + 1:=e;omega);have c1:=b1.out.mod hm1 (fun e=>by have e:w.heap.size + 1 = w.heap.size + 1 + 1 + 1:=e;omega);have c2:=b2.out.mod hm1 (fun e=>by have e:w.heap.size + 1 + 1 = w.heap.size + 1 + 1 + 1:=e;omega);have hmw:Mod Nowhere w wc:=hmW.out.newb hm1 (by omega);have hLc:=hL.out.fresh hmw;have hpw:∀ X,Mod Nowhere wc X→PopAt X ⟨op,id,⟨did,.slice va v.length vc,v,li,lo,hi,.slice ua u.length uc,u,cl⟩,.slice (some ⟨g,0,none⟩) (a.length + 17) c,a ++ List.replicate 17 0,.slice xb b.length bc,b⟩:=fun X hm=>⟨hsw.fresh hm,Bytes.zeros _ ba.out 17,(hxx.out.sb.fresh hmw).fresh hm,hxx.out.bb,(hd.out.fresh hmw).fresh hm,hop,hid⟩
  have hSt:∀ X,Mod Nowhere wc X→Calls Tryz.prog 20 #[.agg #[.slice la ln lc,.bool act,.slice oa om oc],.agg #[.int .i64 op,.int .i64 id,.int .i64 did,.slice va v.length vc,.int .i64 li,.int .i64 lo,.int .i64 hi,.slice ua u.length uc,.int .i64 cl,.slice (some ⟨g,0,none⟩) (a.length + 17) c,.slice xb b.length bc]] X (StAns X (qOp S ⟨op,id,⟨did,.slice va v.length vc,v,li,lo,hi,.slice ua u.length uc,u,cl⟩,.slice (some ⟨g,0,none⟩) (a.length + 17) c,a ++ List.replicate 17 0,.slice xb b.length bc,b⟩)):=fun X hm =>
   step21_ok ⟨_,_,by rw [hac.out],hLc.fresh hm⟩ hS.out hbd.out (hpw X hm) (by show (a ++ List.replicate 17 0).length≤1000;rw [List.length_append,List.length_replicate];omega) (by show b.length≤1000;omega)
  clear k0 k1 k2 p9 kl pl;have k0:=c0.cell 0;have k1:=c0.cell 1;have k2:=c0.cell 2;have p0:=c1.cell 0;have o0:=bw.cell 0;have o1:=bw.cell 1;have o2:=bw.cell 2;have o3:=bw.cell 3;have o4:=bw.cell 4;have o5:=bw.cell 5;have o6:=bw.cell 6;have o7:=bw.cell 7;have o8:=bw.cell 8;have o9:=bw.cell 9;have o10:=bw.cell 10;have r0:=c2.cell 0;have r1:=c2.cell 1;have r2:=c2.cell 2;simp only [zst,List.getElem?_cons_zero,List.getElem?_cons_succ] at k0 k1 k2 p0 o0 o1 o2 o3 o4 o5 o6 o7 o8 o9 o10 r0 r1 r2;have kl:=c0.lt;have pl:=c1.lt;have ol:=bw.lt;have rl:=c2.lt;have rf:=c2.frozen
  have hself:R = S→Blk (put3 wc (w.heap.size + 1 + 1) (.slice la ln lc) (.bool act) (.slice oa om oc)) (w.heap.size + 1 + 1) [.slice la ln lc,.bool act,.slice oa om oc] 50∧StPost w R (.returned (.agg #[.slice la ln lc,.bool act,.slice oa om oc])) (put3 wc (w.heap.size + 1 + 1) (.slice la ln lc) (.bool act) (.slice oa om oc)):=fun e=>by
   rw [e];obtain ⟨f1,f2,f3⟩:=fin_st (w:=w) c2 (by omega) hmw hLc;rw [hac.out] at f1 f2 f3;exact ⟨f1,_,rfl,f2,f3⟩
  unfold put3 at hself;refine hid11 ?_ c0 c1 c2 bw hsw hm1 hmw hLc hpw hSt hself;clear c0 c1 c2 bw hsw hm1 hmw hLc hpw hSt hself;intro c0 c1 c2 bw hsw hm1 hmw hLc hpw hSt hself;by_cases h2:op < 2
  ·have hRe:R = S:=by rw [← hR.out];unfold qSpent;rw [if_neg (by show ¬ (2≤op∧op≤4);omega)]
   obtain ⟨f1,f2⟩:=hself.out hRe;refine hid3 ?_ f1 f2 hRe;clear f1 f2 hRe;intro f1 f2 hRe;go_wp2;refine bodyPost_ret (ret_st0 rfl _ _ (w.heap.size + 1 + 1) _ _ _ rfl f1.out) rfl ?_;exact f2.out
  by_cases h4:4 < op
  ·have hRe:R = S:=by rw [← hR.out];unfold qSpent;rw [if_neg (by show ¬ (2≤op∧op≤4);omega)]
   obtain ⟨f1,f2⟩:=hself.out hRe;have h2':¬ op < 2:=h2;refine hid3 ?_ f1 f2 hRe;clear f1 f2 hRe;intro f1 f2 hRe;go_wp2;refine bodyPost_ret (ret_st0 rfl _ _ (w.heap.size + 1 + 1) _ _ _ rfl f1.out) rfl ?_;exact f2.out
  have hRe:R = (qOp S ⟨op,id,⟨did,.slice va v.length vc,v,li,lo,hi,.slice ua u.length uc,u,cl⟩,.slice (some ⟨g,0,none⟩) (a.length + 17) c,a ++ List.replicate 17 0,.slice xb b.length bc,b⟩).1:=by rw [← hR.out];unfold qSpent;rw [if_pos (by show 2≤op∧op≤4;omega)];rfl
  have hStw:=hSt.out wc (Mod.refl _ _);obtain ⟨Q,hQ⟩:∃ Q,qOp S ⟨op,id,⟨did,.slice va v.length vc,v,li,lo,hi,.slice ua u.length uc,u,cl⟩,.slice (some ⟨g,0,none⟩) (a.length + 17) c,a ++ List.replicate 17 0,.slice xb b.length bc,b⟩ = Q:=⟨_,rfl⟩;rw [hQ] at hStw hRe;clear hQ;refine hid2 ?_ hRe hStw;clear hRe hStw;intro hRe hStw;go_wp2_with fail;refine hStw.out.mono ?_;rintro e w5 ⟨u5,rfl,⟨lv5,ov5,rfl,hL5⟩,hm5⟩;obtain ⟨la5,ln5,lc5,oa5,om5,oc5,rfl,rfl⟩:=hL5.form;obtain ⟨av5,hav5⟩:∃ av5,Q.1.act = av5:=⟨_,rfl⟩;rw [hav5];obtain ⟨y0,y1,mY⟩:=boxes2 w5 [.slice la5 ln5 lc5,.bool av5,.slice oa5 om5 oc5] [.int .i64 Q.2.1,errno Q.2.2] 50 52;obtain ⟨Y,hY⟩:∃ Y,(w5.alloc (.cells #[.slice la5 ln5 lc5,.bool av5,.slice oa5 om5 oc5] 50)).alloc (.cells #[.int .i64 Q.2.1,errno Q.2.2] 52) = Y:=⟨_,rfl⟩
  rw [hY] at y0 y1 mY;unfold errno at hY;have d2:=(c2.out.mod hm5 (fun e=>e)).mod mY (fun e=>e);obtain ⟨f1,f2,f3⟩:=fin_st (w:=w) d2 (by omega) ((hmw.out.trans hm5).trans mY) (hL5.fresh mY);rw [hav5] at f1 f2 f3;unfold put3 at f1 f2 f3;clear r0 r1 r2 rl rf;have z0:=y0.cell 0;have z1:=y0.cell 1;have z2:=y0.cell 2;have r0:=d2.cell 0;have r1:=d2.cell 1;have r2:=d2.cell 2;simp only [zst,List.getElem?_cons_zero,List.getElem?_cons_succ] at z0 z1 z2 r0 r1 r2;have zl:=y0.lt;have rl:=d2.lt;have rf:=d2.frozen;refine hid10 ?_ hL5 hm5 y0 y1 mY d2 f1 f2 f3 hav5;clear hL5 hm5 y0 y1 mY d2 f1 f2 f3 hav5;intro hL5 hm5 y0 y1 mY d2 f1 f2 f3 hav5
  go_wp2;refine bodyPost_ret (ret_st0 rfl _ _ (w.heap.size + 1 + 1) _ _ _ rfl f1.out) rfl ?_;rw [hRe.out];exact ⟨_,rfl,f2.out,f3.out⟩
theorem qx_one {w:World} {x:Qx} (h:QxD w x):∀ u ∈ qxCells x,u.oneCell' = true:=by
 obtain ⟨a1,c1,e1,_⟩:=Sl.len h.dv;obtain ⟨a2,c2,e2,_⟩:=Sl.len h.dc;obtain ⟨⟨v1,v2⟩,y⟩:=x;dsimp only at e1 e2;subst e1;subst e2;intro u hu;simp only [qxCells,List.mem_cons,List.not_mem_nil,or_false] at hu;rcases hu with rfl | rfl | rfl | rfl | rfl | rfl | rfl | rfl | rfl | rfl <;> rfl
theorem qxs_one {w:World} {v:Value} {xs:List Qx} (h:QSl w v xs):∀ u ∈ qxsCells xs,u.oneCell' = true:=by
 intro u hu;unfold qxsCells at hu;obtain ⟨x,hx,hu⟩:=List.mem_flatMap.1 hu;exact qx_one (h.data x hx) u hu
theorem qxsCells_len:∀ xs:List Qx,(qxsCells xs).length = xs.length * 10
 | []=>rfl
 | x :: xs=>by
  show (qxCells x ++ qxsCells xs).length = _
  rw [List.length_append,qxsCells_len xs,qxCells_len,List.length_cons];omega
theorem unb_some {S:QF} {id:Int} {g v:List Nat} (h:(qUnblock S id g v).2.2 = 0):∃ p,atQ S.g id = some p:=by
 unfold qUnblock at h
 cases hq:atQ S.g id with
 | none=>rw [hq] at h;cases h
 | some p=>exact ⟨p,rfl⟩
set_option maxHeartbeats 16000000 in
theorem verified21_ok {w:World} {v0:Value} {S:QF} (h:QRep w v0 S) (hS:S.Ok) (hbd:∀ k p,S.g k = some p→p.t≤15∧p.u≤15) {x:Pop} (hx:PopAt w x) (hla:x.a.length≤40) (hlb:x.b.length≤40) :
  Calls Tryz.prog 30 #[v0,.agg x.cells.toArray] w (StPost w (qVerified S x)):=by
 obtain ⟨R,hR⟩:∃ R,qVerified S x = R:=⟨_,rfl⟩;rw [hR];obtain ⟨lv,ov,rfl,hL⟩:=h;obtain ⟨la,ln,lc,oa,om,oc,rfl,rfl⟩:=hL.form;obtain ⟨sa,ba,sb,bb,hd,hop,hid⟩:=hx;obtain ⟨op,id,⟨did,vv,v,li,lo,hi,uv,u,cl⟩,av,a,bv,b⟩:=x;dsimp only at sa ba sb bb hd hop hid hla hlb;have s1:=hd.sv;have s2:=hd.su;dsimp only at s1 s2;have hsa0:=sa;have hsb0:=sb;obtain ⟨aa,ac,rfl,-,-,-⟩:=sa;obtain ⟨xb,bc,rfl,-,-,-⟩:=sb;obtain ⟨va,vc,rfl,-,-,-⟩:=s1;obtain ⟨ua,uc,rfl,-,-,-⟩:=s2;clear hd;obtain ⟨act,hac⟩:∃ act,S.act = act:=⟨_,rfl⟩;obtain ⟨W,hW,b0,b1,b2,hmW,hzW⟩:=boxes3 w [.slice la ln lc,.bool S.act,.slice oa om oc] [.int .i64 op,.int .i64 id,.int .i64 did,.slice va v.length vc,.int .i64 li,.int .i64 lo,.int .i64 hi,.slice ua u.length uc,.int .i64 cl,.slice aa a.length ac,.slice xb b.length bc] zst 50 37 50;rw [hac] at b0 hW ⊢
 have hLW:=hL.fresh hmW;have hqW:∀ X,Mod Nowhere W X→QRep X (.agg #[.slice la ln lc,.bool act,.slice oa om oc]) S:=fun X hm=>⟨_,_,by rw [hac],hLW.fresh hm⟩
 have hself:∀ X,Mod Nowhere W X→R = S→Blk (put3 X (w.heap.size + 1 + 1) (.slice la ln lc) (.bool act) (.slice oa om oc)) (w.heap.size + 1 + 1) [.slice la ln lc,.bool act,.slice oa om oc] 50∧StPost w R (.returned (.agg #[.slice la ln lc,.bool act,.slice oa om oc])) (put3 X (w.heap.size + 1 + 1) (.slice la ln lc) (.bool act) (.slice oa om oc)):=fun X hm e=>by
  rw [e];obtain ⟨f1,f2,f3⟩:=fin_st (w:=w) (b2.mod hm (fun e=>e)) (by omega) (hmW.trans hm) (hLW.fresh hm);rw [hac] at f1 f2 f3;exact ⟨f1,_,rfl,f2,f3⟩
 unfold put3 at hself
 have hk:∀ X,Mod Nowhere W X→(X.cell? ⟨w.heap.size,0,none⟩ = some (.slice la ln lc)∧X.cell? ⟨w.heap.size,1,none⟩ = some (.bool act)∧X.cell? ⟨w.heap.size,2,none⟩ = some (.slice oa om oc)∧w.heap.size < X.heap.size)∧(X.cell? ⟨w.heap.size + 1,0,none⟩ = some (.int .i64 op)∧X.cell? ⟨w.heap.size + 1,1,none⟩ = some (.int .i64 id)∧X.cell? ⟨w.heap.size + 1,9,none⟩ = some (.slice aa a.length ac)∧X.cell? ⟨w.heap.size + 1,10,none⟩ = some (.slice xb b.length bc)∧w.heap.size + 1 < X.heap.size)∧(X.cell? ⟨w.heap.size + 1 + 1,0,none⟩ = some (.slice none 0 0)∧X.cell? ⟨w.heap.size + 1 + 1,1,none⟩ = some (.bool false)∧X.cell? ⟨w.heap.size + 1 + 1,2,none⟩ = some (.slice none 0 0)∧w.heap.size + 1 + 1 < X.heap.size∧∀ o,X.frozen? ⟨w.heap.size + 1 + 1,o,none⟩ = false):=fun X hm=>by
  have c0:=b0.mod hm (fun e=>e);have c1:=b1.mod hm (fun e=>e);have c2:=b2.mod hm (fun e=>e);exact ⟨⟨c0.cell 0,c0.cell 1,c0.cell 2,c0.lt⟩,⟨c1.cell 0,c1.cell 1,c1.cell 9,c1.cell 10,c1.lt⟩,⟨c2.cell 0,c2.cell 1,c2.cell 2,c2.lt,c2.frozen⟩⟩
 obtain ⟨⟨k0,k1,k2,kl⟩,⟨p0,p1,p9,p10,pl⟩,⟨r0,r1,r2,rl,rf⟩⟩:=hk W (Mod.refl _ _);unfold zst at hW;refine hid12 ?_ hR hL hsa0 hsb0 ba bb b0 b1 b2 hmW hzW hac;clear hR hL hsa0 hsb0 ba bb b0 b1 b2 hmW hzW hac;intro hR hL hsa0 hsb0 ba bb b0 b1 b2 hmW hzW hac;refine hid5 ?_ hS hbd hLW hqW hself;clear hS hbd hLW hqW hself;intro hS hbd hLW hqW hself;replace hk:=Lib.hid hk;unfold Pop.cells Pin7.cells;by_cases h3:op = 3
 ·subst h3;have hC:=qChange_ok (hqW.out W (Mod.refl _ _)) hS.out id (hsa0.out.fresh hmW.out) ba.out (by omega) (hsb0.out.fresh hmW.out) (by omega) hbd.out;have hRe:R = if (qChange S id a b).2.2 = 0 then (qVerify S id a).1 else S:=by rw [← hR.out];unfold qVerified;rw [if_pos rfl]
  obtain ⟨Q,hQ⟩:∃ Q,qChange S id a b = Q:=⟨_,rfl⟩;rw [hQ] at hC hRe;clear hQ;obtain ⟨Q1,Qn,Qe⟩:=Q;dsimp only at hRe;have hV:=fun X (hm:Mod Nowhere W X)=>qVerify_ok (hqW.out X hm) hS.out id ((hsa0.out.fresh hmW.out).fresh hm) ba.out (by omega) hbd.out;obtain ⟨V,hVe⟩:∃ V,qVerify S id a = V:=⟨_,rfl⟩;rw [hVe] at hV hRe;clear hVe;refine hid3 ?_ hC hRe hV;clear hC hRe hV;intro hC hRe hV;go_enter Tryz.func30,Tryz.ntmps30;go_wp2_with fail;refine hC.out.mono ?_;rintro e w2 ⟨u2,rfl,⟨lv2,ov2,rfl,hL2⟩,hm2⟩;obtain ⟨la2,ln2,lc2,oa2,om2,oc2,rfl,rfl⟩:=hL2.form;dsimp only;obtain ⟨av2,hav2⟩:∃ av2,Q1.act = av2:=⟨_,rfl⟩
  rw [hav2];have y0:=Blk.new w2 [.slice la2 ln2 lc2,.bool av2,.slice oa2 om2 oc2] 50;have mY:=(Mod.refl Nowhere w2).alloc (.cells #[.slice la2 ln2 lc2,.bool av2,.slice oa2 om2 oc2] 50);obtain ⟨Y,hY⟩:∃ Y,w2.alloc (.cells #[.slice la2 ln2 lc2,.bool av2,.slice oa2 om2 oc2] 50) = Y:=⟨_,rfl⟩;rw [hY] at y0 mY;have hmWY:=hm2.trans mY;clear k0 k1 k2 kl p0 p1 p9 p10 pl r0 r1 r2 rl rf;obtain ⟨⟨k0,k1,k2,kl⟩,⟨p0,p1,p9,p10,pl⟩,⟨r0,r1,r2,rl,rf⟩⟩:=hk.out Y hmWY;by_cases hQe:Qe = 0
  ·subst hQe;have hVY:=hV.out Y hmWY;have hRe2:R = V.1:=by rw [hRe.out,if_pos rfl]
   clear hV hRe;refine hid8 ?_ hL2 hm2 y0 mY hmWY hVY hRe2 hav2;clear hL2 hm2 y0 mY hmWY hVY hRe2 hav2;intro hL2 hm2 y0 mY hmWY hVY hRe2 hav2;go_wp2_with fail;refine hVY.out.mono ?_;rintro e w3 ⟨u3,rfl,⟨lv3,ov3,rfl,hL3⟩,hm3⟩;obtain ⟨la3,ln3,lc3,oa3,om3,oc3,rfl,rfl⟩:=hL3.form;obtain ⟨av3,hav3⟩:∃ av3,V.1.act = av3:=⟨_,rfl⟩;rw [hav3];have z0:=y0.out.mod hm3 (fun e=>e);have hmW3:=hmWY.out.trans hm3;have d2:=b2.out.mod hmW3 (fun e=>e);have hnd:w2.heap.size ≠ w.heap.size + 1 + 1:=by have:=hmW.out.size;have:=hm2.out.size;have:=hzW.out;omega
   obtain ⟨e1,m1⟩:=blk3 z0 (.slice la3 ln3 lc3) (.bool av3) (.slice oa3 om3 oc3);have d2':=d2.mod m1 (fun e=>hnd e.symm);have hmZ:Mod Nowhere w (put3 w3 w2.heap.size (.slice la3 ln3 lc3) (.bool av3) (.slice oa3 om3 oc3)):=(hmW.out.trans hmW3).newb m1 (by have:=hmW.out.size;have:=hm2.out.size;omega);obtain ⟨f1,f2,f3⟩:=fin_st (w:=w) d2' (by omega) hmZ (hL3.box z0 (by decide) m1);rw [hav3] at f1 f2 f3;clear k0 k1 k2 kl p0 p1 p9 p10 pl r0 r1 r2 rl rf;have g0:=z0.cell 0;have g1:=z0.cell 1;have g2:=z0.cell 2;have gl:=z0.lt;have gf:=z0.frozen;have zz0:=e1.cell 0;have zz1:=e1.cell 1;have zz2:=e1.cell 2
   have zzl:=e1.lt;have r0:=d2'.cell 0;have r1:=d2'.cell 1;have r2:=d2'.cell 2;have rl:=d2'.lt;have rf:=d2'.frozen;simp only [zst,List.getElem?_cons_zero,List.getElem?_cons_succ] at g0 g1 g2 zz0 zz1 zz2 r0 r1 r2;obtain ⟨Z,hZ⟩:∃ Z,put3 w3 w2.heap.size (.slice la3 ln3 lc3) (.bool av3) (.slice oa3 om3 oc3) = Z:=⟨_,rfl⟩;rw [hZ] at zz0 zz1 zz2 zzl r0 r1 r2 rl rf f1 f2 f3 e1 m1 d2' hmZ;unfold put3 at hZ f1 f2 f3;refine hid12 ?_ hL3 hm3 z0 hmW3 d2 e1 m1 d2' hmZ f1 f2 f3;clear hL3 hm3 z0 hmW3 d2 e1 m1 d2' hmZ f1 f2 f3;intro hL3 hm3 z0 hmW3 d2 e1 m1 d2' hmZ f1 f2 f3;replace hav3:=Lib.hid hav3
   go_wp2;refine bodyPost_ret (ret_st0 rfl _ _ (w.heap.size + 1 + 1) _ _ _ rfl f1.out) rfl ?_;rw [hRe2.out];exact ⟨_,rfl,f2.out,f3.out⟩
  ·have hq:((Qe:Int) == 0) = false:=by simp;omega
   have hRe2:R = S:=by rw [hRe.out,if_neg hQe]
   obtain ⟨f1,f2⟩:=hself.out Y hmWY hRe2;clear hV hRe hQe;refine hid9 ?_ hL2 hm2 y0 mY hmWY hRe2 hav2 f1 f2;clear hL2 hm2 y0 mY hmWY hRe2 hav2 f1 f2;intro hL2 hm2 y0 mY hmWY hRe2 hav2 f1 f2;go_wp2;refine bodyPost_ret (ret_st0 rfl _ _ (w.heap.size + 1 + 1) _ _ _ rfl f1.out) rfl ?_;exact f2.out
 have q3:(op == 3) = false:=by simpa using h3
 by_cases h4:op = 4
 ·subst h4;have hC:=qUnblock_ok (hqW.out W (Mod.refl _ _)) hS.out id (hsa0.out.fresh hmW.out) ba.out (by omega) (hsb0.out.fresh hmW.out) (by omega) hbd.out;have hRe:R = if (qUnblock S id a b).2.2 = 0 then (match atQ S.g id with | none=>S | some p=>qRestored S p) else S:=by rw [← hR.out];unfold qVerified;rw [if_neg (show ¬ (4:Int) = 3 by decide),if_pos rfl] <;> rfl
  have hsm:(qUnblock S id a b).2.2 = 0→∃ p,atQ S.g id = some p:=unb_some;obtain ⟨Q,hQ⟩:∃ Q,qUnblock S id a b = Q:=⟨_,rfl⟩;rw [hQ] at hC hRe hsm;clear hQ;obtain ⟨Q1,Qn,Qe⟩:=Q;dsimp only at hRe hsm;refine hid3 ?_ hC hRe hsm;clear hC hRe hsm;intro hC hRe hsm;go_enter Tryz.func30,Tryz.ntmps30;go_wp2_with fail;refine hC.out.mono ?_;rintro e w2 ⟨u2,rfl,⟨lv2,ov2,rfl,hL2⟩,hm2⟩;obtain ⟨la2,ln2,lc2,oa2,om2,oc2,rfl,rfl⟩:=hL2.form;dsimp only;obtain ⟨av2,hav2⟩:∃ av2,Q1.act = av2:=⟨_,rfl⟩;rw [hav2];have y0:=Blk.new w2 [.slice la2 ln2 lc2,.bool av2,.slice oa2 om2 oc2] 50;have mY:=(Mod.refl Nowhere w2).alloc (.cells #[.slice la2 ln2 lc2,.bool av2,.slice oa2 om2 oc2] 50)
  obtain ⟨Y,hY⟩:∃ Y,w2.alloc (.cells #[.slice la2 ln2 lc2,.bool av2,.slice oa2 om2 oc2] 50) = Y:=⟨_,rfl⟩;rw [hY] at y0 mY;have hmWY:=hm2.trans mY;clear k0 k1 k2 kl p0 p1 p9 p10 pl r0 r1 r2 rl rf;obtain ⟨⟨k0,k1,k2,kl⟩,⟨p0,p1,p9,p10,pl⟩,⟨r0,r1,r2,rl,rf⟩⟩:=hk.out Y hmWY;by_cases hQe:Qe = 0
  ·subst hQe;obtain ⟨p,hp⟩:=hsm.out rfl;have hRe2:R = qRestored S p:=by rw [hRe.out,if_pos rfl,hp]
   obtain ⟨hpi,hpok,hpg⟩:=atQ_some hS.out.g hp;have hT:w.heap.size + 1 + 1 + 1≤w2.heap.size:=by have:=hm2.size;have:=hzW.out;omega
   obtain ⟨T,hTe⟩:∃ T,w2.heap.size = T:=⟨_,rfl⟩;rw [hTe] at y0 hT;obtain ⟨e1,m1⟩:=blk3 y0 (.slice la ln lc) (.bool act) (.slice oa om oc);have hmX:Mod Nowhere W (put3 Y T (.slice la ln lc) (.bool act) (.slice oa om oc)):=hmWY.newb m1 (by have:=hzW.out;omega);have hL3:=(hLW.out.fresh hmWY).box y0 (by decide) m1;have hkk:=hk.out _ hmX;clear k0 k1 k2 kl p0 p1 p9 p10 pl r0 r1 r2 rl rf;obtain ⟨X,hX⟩:∃ X,put3 Y T (.slice la ln lc) (.bool act) (.slice oa om oc) = X:=⟨_,rfl⟩;rw [hX] at e1 m1 hmX hL3 hkk;unfold put3 at hX;have g0:=y0.cell 0;have g1:=y0.cell 1;have g2:=y0.cell 2;simp only [List.getElem?_cons_zero,List.getElem?_cons_succ] at g0 g1 g2
   have gl:=y0.lt;have gf:=y0.frozen;obtain ⟨⟨k0,k1,k2,kl⟩,-,-⟩:=hk.out Y hmWY;obtain ⟨xs,os,h1,h2,h3',h4'⟩:=hL3.ex;rcases find_ql hS.out.g id with ⟨e,_⟩ | ⟨p',k,e,_,hkl,hpk⟩
   ·rw [hp] at e;cases e
   rw [hp] at e
   cases e
   have hkx:k < xs.length:=by rw [← qps_len,h3'];exact hkl
   have hx2:∀ j (hj:j < xs.length),xs[j].2 = (ql S.g)[j]'(by rw [← h3',qps_len];exact hj):=fun j hj=>by
    have:(qps xs)[j]'(by rw [qps_len];exact hj) = xs[j].2:=by simp [qps]
    rw [← this]
    congr 1
   have hie2:∀ j (hj:j < xs.length),j ≠ k→((xs[j].2.d.id:Int) == id) = false:=fun j hj hne=>by
    have h5:=ql_ne hS.out.g (by rw [← h3',qps_len];exact hj) hkl hne;rw [hpk] at h5;rw [hx2 j hj,hpi];simp only [beq_eq_false_iff_ne];omega
   have hidk:((xs[k].2.d.id:Int) == id) = true:=by rw [hx2 k hkx,hpk,hpi];simp
   have hclk:xs[k].2.d.cl = p.d.cl:=by rw [hx2 k hkx,hpk]
   obtain ⟨b',off,cap',a1,c1,a2,c2,e0,hbl,hcap,hcm,hc,e1',e2'⟩:=h1.at_ hkx;simp only [Value.slice.injEq] at e0;obtain ⟨rfl,rfl,rfl⟩:=e0;have hx9:xs.length≤9:=by have:=ql_len S.g;rw [← h3',qps_len] at this;omega
   have hend:∀ Z lv',Mod (fun q=>q = T) X Z→QSl Z lv' (xs.set k (xs[k].1,{ xs[k].2 with u:=p.d.cl }))→∀ n c g,lv' = .slice g n c→Blk (put3 Z (w.heap.size + 1 + 1) lv' (.bool act) (.slice oa om oc)) (w.heap.size + 1 + 1) [lv',.bool act,.slice oa om oc] 50∧StPost w R (.returned (.agg #[lv',.bool act,.slice oa om oc])) (put3 Z (w.heap.size + 1 + 1) lv' (.bool act) (.slice oa om oc)):=fun Z lv' hm hq n c g hlv=>by
    have hmZ:Mod Nowhere W Z:=hmX.newb hm (by have:=hzW.out;omega);have ho:=QSl.box h2 e1 (by decide) hm
    have hl:QLs Z lv' (.slice oa om oc) (qRestored S p):=⟨_,_,hq,ho,by
     rw [qps_set,h3']
     show (ql S.g).set k { xs[k].2 with u:=p.d.cl } = ql (qupd S.g p.d.id (some { p with u:=p.d.cl }))
     rw [ql_set hS.out.g hpg hkl hpk,hx2 k hkx,hpk],h4'⟩
    have f:=fin_st (w:=w) (b2.out.mod hmZ (fun e=>e)) (by omega) (hmW.out.trans hmZ) hl;rw [show (qRestored S p).act = act from hac.out] at f;rw [hRe2];exact ⟨f.1,_,rfl,by rw [← hac.out] at f ⊢;exact f.2.1,f.2.2⟩
   obtain ⟨i0,hi0,hz0,hz1,hz2⟩:=info_parts info_qpin;refine hid12 ?_ hL2 hm2 y0 mY hmWY hRe2 hav2 hp hpi hpok hpg e1;clear hL2 hm2 y0 mY hmWY hRe2 hav2 hp hpi hpok hpg e1;intro hL2 hm2 y0 mY hmWY hRe2 hav2 hp hpi hpok hpg e1;refine hid6 ?_ m1 hmX hL3 hkk h1 h2;clear m1 hmX hL3 hkk h1 h2;intro m1 hmX hL3 hkk h1 h2;replace h3':=Lib.hid h3';refine hid8 ?_ h4' hpk hx2 hie2 hidk hclk hc hend;clear h4' hpk hx2 hie2 hidk hclk hc hend;intro h4' hpk hx2 hie2 hidk hclk hc hend;clear hRe hsm;go_wp2
   go_loopw [11] (fun i wr=>∃ j:Nat,j≤xs.length∧i = .int .i64 j∧Mod (fun q=>q = T) X wr∧((j≤k∧Blk wr T [.slice (some ⟨b',off,none⟩) xs.length lc,.bool act,.slice oa om oc] 50) ∨ (k < j∧∃ g cap2,Blk wr T [.slice (some ⟨g,0,none⟩) xs.length cap2,.bool act,.slice oa om oc] 50∧QSl wr (.slice (some ⟨g,0,none⟩) xs.length cap2) (xs.set k (xs[k].1,{ xs[k].2 with u:=p.d.cl }))))) (fun i _=>xs.length - (RowKit.intOf i).toNat)
   case atStart=>exact ⟨0,Nat.zero_le _,rfl,Mod.refl _ _,.inl ⟨Nat.zero_le _,e1.out⟩⟩
   case round =>
    clear hX;obtain ⟨j,hj,rfl,hmr,hst⟩:=hrel;have hmWr:Mod Nowhere W wr:=hmX.out.newb hmr (by have:=hzW.out;omega);clear g0 g1 g2 gl gf k0 k1 k2 kl;obtain ⟨⟨k0,k1,k2,kl⟩,⟨p0,p1,p9,p10,pl⟩,⟨r0,r1,r2,rl,rf⟩⟩:=hk.out wr hmWr;by_cases hjl:j < xs.length
    ·obtain ⟨bb,oo,cc,idj,hT,hcel,hbb,hidj⟩:∃ (bb oo cc idj:Nat),Blk wr T [.slice (some ⟨bb,oo,none⟩) xs.length cc,.bool act,.slice oa om oc] 50∧wr.cell? ⟨bb,oo + j * 10,none⟩ = some (.int .i64 idj)∧bb < wr.heap.size∧idj = xs[j].2.d.id:=by
      rcases hst with ⟨hjk,bT⟩ | ⟨hkj,g,cap2,bT,hQ2⟩
      ·obtain ⟨b2',off2,cap2,_,_,_,_,e0',hbl2,_,_,hc2,_,_⟩:=(h1.out.box e1.out (by decide) hmr).at_ hjl;exact ⟨b2',off2,cap2,xs[j].2.d.id,by rw [← e0'];exact bT,hc2 0 (by omega),hbl2,rfl⟩
      ·have hj2:j < (xs.set k (xs[k].1,{ xs[k].2 with u:=p.d.cl })).length:=by rw [List.length_set];exact hjl
       obtain ⟨b2',off2,cap3,_,_,_,_,e0',hbl2,_,_,hc2,_,_⟩:=hQ2.at_ hj2;simp only [List.getElem_set_ne (show k ≠ j by omega)] at hc2;rw [List.length_set] at e0';exact ⟨b2',off2,cap3,xs[j].2.d.id,by rw [← e0'];exact bT,hc2 0 (by omega),hbl2,rfl⟩
     have t0:=hT.cell 0;simp only [List.getElem?_cons_zero] at t0;have tl:=hT.lt;have hji:(j:Int) < (xs.length:Int):=by omega
     obtain ⟨q,hq⟩:∃ q,((idj:Int) == id) = q:=⟨_,rfl⟩
     have hqk:(j = k→q = true)∧(j ≠ k→q = false):=by
      rw [← hq,hidj];exact ⟨fun e=>by subst e;exact hidk.out,fun e=>hie2.out j hjl e⟩
     clear hidj;refine hid5 ?_ hmr hst hmWr hT hqk;clear hmr hst hmWr hT hqk;intro hmr hst hmWr hT hqk
     go_upto_region 13 with (fail)
     go_cut [74] (fun v wx=>v = .bool q∧Mod Nowhere wr wx)
     case first =>
      go_quiet (fail)
      go_wp2;go_meet
      case rel=>exact ⟨by first | rfl | rw [← hq],(Mod.refl _ _).drewN _⟩
     case rest =>
      obtain ⟨rfl,hmx⟩:=hcut;clear t0 tl k0 k1 k2 kl p0 p1 p9 p10 pl r0 r1 r2 rl rf hcel hbb;by_cases hjk:j = k
      ·subst hjk;obtain rfl:q = true:=hqk.out.1 rfl
       have bT:Blk wr T [.slice (some ⟨b',off,none⟩) xs.length lc,.bool act,.slice oa om oc] 50:=by
        rcases hst.out with ⟨_,bT⟩ | ⟨hlt,_⟩
        ·exact bT
        ·omega
       have hmWc:=hmWr.out.trans hmx;obtain ⟨⟨k0,k1,k2,kl⟩,⟨p0,p1,p9,p10,pl⟩,-⟩:=hk.out wc hmWc;have bT1:=bT.mod hmx (fun e=>e);have hmA:=(Mod.refl Nowhere wc).alloc (.cells #[] 116);have hmade:(wc.alloc (.cells #[] 116)).ownsRow wc.heap.size 116 10 (.slice (some ⟨wc.heap.size,0,none⟩) 0 0) 0 []:=World.ownsRow_made wc #[] 0 (Nat.le_refl _) (Nat.zero_le _) (by simp);have h1c:=(h1.out.box e1.out (by decide) hmr.out).fresh hmx;have h1a:=h1c.fresh hmA;have hsrc:=h1a.sl.srcCells;have hone:=qxs_one h1a;have hlen:(qxsCells xs).length = xs.length * 10:=qxsCells_len xs;have hTl:=bT1.lt
       refine hid11 ?_ bT bT1 hmx hmWc hmA hmade h1c h1a hsrc hone hlen;clear bT bT1 hmx hmWc hmA hmade h1c h1a hsrc hone hlen;intro bT bT1 hmx hmWc hmA hmade h1c h1a hsrc hone hlen
       go_wp2_with (at_builtin;have _t:=hmade;refine wpList_append_own _ rfl _ _ 48 rfl wc.heap.size 116 i0 (.agg #[.int .i64 0,.slice none 0 0,.int .i64 0,.int .i64 0,.int .i64 0,.slice none 0 0,.int .i64 0,.int .i64 0,.int .i64 0,.bool false]) 10 112 Tryz.underlying48 hi0 hz0 hz1 hz2 rfl (by decide) _ _ _ rfl hmade.out ⟨b',off,none⟩ xs.length lc (qxsCells xs) rfl hlen.out hsrc.out hone.out (by unfold maxLen;omega) (by omega) (by simp) ?_;intro v' w5 hown5 hgrow hnil;have hm5:Mod Nowhere wc w5:=hmA.out.grown hgrow (fun k e hk=>by cases e;exact absurd hk (Nat.lt_irrefl _));rw [Nat.zero_add,List.nil_append] at hown5;obtain ⟨g5,cap5,cs5,rfl,hg5,hB5,-,-,hcl5,-⟩:=owns_open hown5 (by omega);have bT5:=bT1.out.mod hm5 (fun e=>e);have y0:=bT5.cell 0;simp only [List.getElem?_cons_zero] at y0;have yl:=bT5.lt;have yf:=bT5.frozen;clear hgrow hnil hmade;replace hown5:=Lib.hid hown5;replace hm5:=Lib.hid hm5;replace bT5:=Lib.hid bT5;replace hB5:=Lib.hid hB5)
       obtain ⟨w6,hw6⟩:∃ w6,w5.setCell ⟨T,0,none⟩ (.slice (some ⟨g5,0,none⟩) xs.length cap5) = w6:=⟨_,rfl⟩;rw [hw6];have m6:Mod (fun q=>q = T) w5 w6:=hw6 ▸ (Mod.refl (fun q=>q = T) w5).setCell (p:=⟨T,0,none⟩) (fun _=>rfl) _;have bT6:Blk w6 T [.slice (some ⟨g5,0,none⟩) xs.length cap5,.bool act,.slice oa om oc] 50:=hw6 ▸ bT5.out.setCell 0 _;have hown6:=owns_mod hown5.out m6 (fun q hq e=>by have e:q = T:=e;omega);have hB6:=hB5.out.mod m6 (fun e=>by have e:g5 = T:=e;omega);have hQ6:=(QSl.of_owns h1c.out hown5.out hm5.out (fun y hy=>hy)).box bT5.out (by decide) m6;obtain ⟨b2',off2,cap2,_,_,_,_,e0',_,_,_,hc2,_,_⟩:=hQ6.at_ hjl
       simp only [Value.slice.injEq,Option.some.injEq,Addr.mk.injEq] at e0';obtain ⟨⟨rfl,rfl,-⟩,-,rfl⟩:=e0'
       have c6:w6.cell? ⟨g5,j * 10 + 6,none⟩ = some (.int .i64 p.d.cl):=by
        have:=hc2 6 (by omega);rw [Nat.zero_add] at this;rw [this,← hclk.out];rfl
       have c8:w6.cell? ⟨g5,j * 10 + 8,none⟩ = some (.int .i64 xs[j].2.u):=by
        have:=hc2 8 (by omega);rw [Nat.zero_add] at this;rw [this];rfl
       have cl6:=hB6.lt;have cf6:=hB6.frozen;have y0:=bT6.cell 0;simp only [List.getElem?_cons_zero] at y0;have yl:=bT6.lt;obtain ⟨hQ7,m7⟩:=QSl.set_u hown6 rfl hQ6.data hjl p.d.cl (by omega);clear hw6 hc2 yf;refine hid7 ?_ m6 bT6 hown6 hB6 hQ6 hQ7 m7;clear m6 bT6 hown6 hB6 hQ6 hQ7 m7;intro m6 bT6 hown6 hB6 hQ6 hQ7 m7
       go_region
       have hfin:∃ j':Nat,j'≤xs.length∧Value.int .i64 ((j:Int) + 1) = .int .i64 j'∧Mod (fun q=>q = T) X (w6.setCell ⟨g5,j * 10 + 8,none⟩ (.int .i64 p.d.cl)).drew∧((j'≤j∧Blk (w6.setCell ⟨g5,j * 10 + 8,none⟩ (.int .i64 p.d.cl)).drew T [.slice (some ⟨b',off,none⟩) xs.length lc,.bool act,.slice oa om oc] 50) ∨ (j < j'∧∃ g cap2,Blk (w6.setCell ⟨g5,j * 10 + 8,none⟩ (.int .i64 p.d.cl)).drew T [.slice (some ⟨g,0,none⟩) xs.length cap2,.bool act,.slice oa om oc] 50∧QSl (w6.setCell ⟨g5,j * 10 + 8,none⟩ (.int .i64 p.d.cl)).drew (.slice (some ⟨g,0,none⟩) xs.length cap2) (xs.set j (xs[j].1,{ xs[j].2 with u:=p.d.cl })))):=by
        have hs1:=hmr.out.size;have hs2:=hmx.out.size;refine ⟨j + 1,by omega,by go_num,(((((hmr.out.trans hmx.out.nowhere).trans hm5.out.nowhere).trans m6.out).step m7.out (fun i hi e=>absurd hi (by have e:wc.heap.size≤i:=e;omega)))).drew,.inr ⟨by omega,g5,cap5,?_,?_⟩⟩
        ·exact (bT6.out.mod m7.out (fun e=>by have e:wc.heap.size≤T:=e;omega)).drew
        ·exact hQ7.out.fresh ((Mod.refl Nowhere _).drew)
       replace hfin:=Lib.hid hfin;go_wp2;go_roundw
       case rel=>exact hfin.out
       case measure=>simp [RowKit.intOf];omega
      ·obtain rfl:q = false:=hqk.out.2 hjk
       have hfin:∃ j':Nat,j'≤xs.length∧Value.int .i64 ((j:Int) + 1) = .int .i64 j'∧Mod (fun q=>q = T) X wc∧((j'≤k∧Blk wc T [.slice (some ⟨b',off,none⟩) xs.length lc,.bool act,.slice oa om oc] 50) ∨ (k < j'∧∃ g cap2,Blk wc T [.slice (some ⟨g,0,none⟩) xs.length cap2,.bool act,.slice oa om oc] 50∧QSl wc (.slice (some ⟨g,0,none⟩) xs.length cap2) (xs.set k (xs[k].1,{ xs[k].2 with u:=p.d.cl })))):=by
        refine ⟨j + 1,by omega,by go_num,hmr.out.trans hmx.nowhere,?_⟩;rcases hst.out with ⟨hle,bT⟩ | ⟨hlt,g,cap2,bT,hQ2⟩
        ·exact .inl ⟨by omega,bT.mod hmx (fun e=>e)⟩
        ·exact .inr ⟨by omega,g,cap2,bT.mod hmx (fun e=>e),hQ2.fresh hmx⟩
       refine hid2 ?_ hfin hmx;clear hfin hmx;intro hfin hmx;go_wp2;go_roundw
       case rel=>exact hfin.out
       case measure=>simp [RowKit.intOf];omega
    ·obtain rfl:j = xs.length:=by omega
     rcases hst with ⟨hle,_⟩ | ⟨-,g,cap2,bT,hQ2⟩
     ·omega
     have hji:¬ ((xs.length:Int) < (xs.length:Int)):=by omega
     obtain ⟨f1,f2⟩:=hend.out wr _ hmr hQ2 _ _ _ rfl;unfold put3 at f1 f2;have t0:=bT.cell 0;have t1:=bT.cell 1;have t2:=bT.cell 2;simp only [List.getElem?_cons_zero,List.getElem?_cons_succ] at t0 t1 t2;have tl:=bT.lt;refine hid6 ?_ hmr hmWr bT hQ2 f1 f2;clear hmr hmWr bT hQ2 f1 f2;intro hmr hmWr bT hQ2 f1 f2;go_wp2;refine bodyPost_ret (ret_st0 rfl _ _ (w.heap.size + 1 + 1) _ _ _ rfl f1.out) rfl ?_;exact f2.out
  ·have hq:((Qe:Int) == 0) = false:=by simp;omega
   have hRe2:R = S:=by rw [hRe.out,if_neg hQe]
   obtain ⟨f1,f2⟩:=hself.out Y hmWY hRe2;clear hRe hQe hsm;refine hid9 ?_ hL2 hm2 y0 mY hmWY hRe2 hav2 f1 f2;clear hL2 hm2 y0 mY hmWY hRe2 hav2 f1 f2;intro hL2 hm2 y0 mY hmWY hRe2 hav2 f1 f2;go_wp2;refine bodyPost_ret (ret_st0 rfl _ _ (w.heap.size + 1 + 1) _ _ _ rfl f1.out) rfl ?_;exact f2.out
 have q4:(op == 4) = false:=by simpa using h4
 have hRe:R = S:=by rw [← hR.out];unfold qVerified;rw [if_neg h3,if_neg h4]
 obtain ⟨f1,f2⟩:=hself.out W (Mod.refl _ _) hRe;clear h3 h4;refine hid3 ?_ f1 f2 hRe;clear f1 f2 hRe;intro f1 f2 hRe;go_enter Tryz.func30,Tryz.ntmps30;go_wp2;refine bodyPost_ret (ret_st0 rfl _ _ (w.heap.size + 1 + 1) _ _ _ rfl f1.out) rfl ?_;exact f2.out
end Go.Proofs.YtjanpegbemepgaaGreat
