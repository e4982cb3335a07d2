/-
  slices.Backward over changes.
-/
import Derived.Test.YtanioleniadhoaaGreatAG08
import Derived.Test.YtanioleniadhoaaGreatAH10
set_option linter.unusedVariables false
set_option linter.unusedSimpArgs false
set_option maxHeartbeats 8000000
set_option maxRecDepth 100000
namespace Go.Proofs.YtanioleniadhoaaGreat
open Go.RowKit Go.Shelf
open Jn Vn
attribute [local go_sem] Oper.semAt_some
theorem vBackward_ok (w:World) (v:Value) (a:Option Addr) (n c:Nat) :
  Calls Tryz.prog 156 #[.slice a n c] w fun e w'=>e = .returned (.func (.func 218) #[] #[.pointer (some ⟨w.heap.size,0,none⟩)])∧w' = w.alloc (.cells #[.slice a n c] 160):=by
 go_enter Tryz.func156,Tryz.ntmps156;go_wp2;go_ret;exact ⟨rfl,rfl⟩
theorem backward_it (n:Nat) (hn:2≤n) {W1:World} {Bn l:Nat} {lv:Value} {xs:List Vx} (hxn:xs.length≤1099511627776) (R XX:World→Prop) (Zk:Nat→World→Prop)
  (hIn:∀ k W,Zk k W→W.cell? ⟨Bn,0,none⟩ = some lv∧VcSl W lv xs)
  (hY:∀ k W (hk:k < xs.length),Zk (k + 1) W→R W→YieldAt Fence.wide (n - 1) Tryz.prog l #[.int .i64 k,vAgg xs[k]] W fun e W'=>(e = .returned (.bool true)∧Zk k W'∧R W') ∨ (e = .returned (.bool false)∧XX W'))
  (h0:Zk xs.length W1) (hR1:R W1) :
  CallsIn Fence.wide n Tryz.prog 218 #[.func (.yield l) #[] #[],.pointer (some ⟨Bn,0,none⟩)] W1 fun e W'=>(∃ v,e = .returned v)∧((Zk 0 W'∧R W') ∨ XX W'):=by
 have hn1:1≤n:=by omega
 obtain ⟨hbx,hl⟩:=hIn _ _ h0;obtain ⟨la,lc,rfl,h1,h2,-⟩:=hl.sl.gen;refine hid3 ?_ hIn hY hl;clear hIn hY hl;intro hIn hY hl;refine callsIn_of_wp Tryz.func218 rfl trivial ?_ rfl;simp only [Tryz.ntmps218,List.size_toArray,List.length_cons,List.length_nil,Nat.reduceAdd,Nat.reduceSub,Array.replicate_succ,Array.replicate_zero,List.push_toArray,List.append_toArray,List.nil_append,List.cons_append]
 gi_wp2
 clear hbx
 gi_loopw [3] (fun q wr=>∃ k:Nat,k≤xs.length∧q = .int .i64 ((k:Int) - 1)∧Zk k wr∧R wr) (fun q wr=>(RowKit.intOf q + 1).toNat)
 case atStart=>exact ⟨xs.length,by omega,rfl,h0,hR1⟩
 case round =>
  obtain ⟨k,hk,rfl,hz,hr⟩:=hrel;by_cases hlt:0 < k
  ·obtain ⟨j,rfl⟩:∃ j,k = j + 1:=⟨k - 1,by omega⟩;have hj:j < xs.length:=by omega
   have ej:((j + 1:Nat):Int) - 1 = (j:Int):=by omega
   rw [ej];obtain ⟨hb,hlw⟩:=hIn.out _ _ hz;obtain ⟨lb,off,cap',xa,xc,e0,hbl,_,_,c1,c2,c3,e3⟩:=hlw.at_ hj;obtain ⟨rfl,rfl⟩:la = some ⟨lb,off,none⟩∧lc = cap':=by simp at e0;exact ⟨e0.1,e0.2⟩
   obtain ⟨fn,tmps,assign,body,hy,hRR⟩:=hY.out j wr hj hz hr;unfold vAgg at hy;generalize xs[j].2.2.isNone = xg at *;generalize xs[j].1 = xv at *;generalize xs[j].2.1 = xid at *;refine hid5 ?_ e3 hz hr hlw ej;clear e3 hz hr hlw ej;intro e3 hz hr hlw ej;clear e0;have hj0:(0:Int)≤(j:Int):=by omega
   have hj1:(j:Int) < (xs.length:Int):=by omega
   gi_wp2
   refine hRR.mono ?_;rintro e W3 (⟨rfl,hz3,hr3⟩ | ⟨rfl,hx3⟩)
   ·gi_wp2
    go_roundw
    case rel=>exact ⟨j,by omega,rfl,hz3,hr3⟩
    case measure=>simp [RowKit.intOf]
   ·gi_wp2
    refine bodyPost_ret (results_none rfl _ _ _) rfl ?_;exact ⟨⟨_,rfl⟩,.inr hx3⟩
  ·obtain rfl:k = 0:=by omega
   gi_wp2
   go_end0
   exact ⟨⟨_,rfl⟩,.inl ⟨hz,hr⟩⟩
end Go.Proofs.YtanioleniadhoaaGreat
/-
 The vault: what the transaction sees; getting an item.
-/
namespace Go.Proofs.YtanioleniadhoaaGreat
open Go.RowKit Go.Shelf
open Jn Vn
attribute [local go_sem] Oper.semAt_some
theorem VMap.lookI {w:World} {b:Nat} {f:Items} (h:VMap w b f) {t e:TypeId} (ht:Tryz.prog.underlying t = some (.map 3 e)) (hz:(zeroValue e).run Tryz.prog w = .ok (.slice none 0 0) w) {id:Int} (h1:-9223372036854775808≤id) (h2:id≤9223372036854775807) :
  ∃ u,(Instr.lookup t (.map (some b)) (.int .i64 id) true).run Tryz.prog w = .ok (.tuple #[u,.bool (at_ f id).isSome]) w∧DSl w u ((at_ f id).getD []):=by
 unfold at_;by_cases h0:0≤id
 ·rw [if_pos h0];have e:id = (id.toNat:Int):=by omega
  rw [e];have h:=h.look_ok ht hz (k:=id.toNat) (by omega)
  rwa [Int.toNat_natCast]
 ·rw [if_neg h0];obtain ⟨g,⟨D,hown,hi⟩,hfg⟩:=h.ex
  have hwf:(Lit.int .i64 id).wf = true:=by
   unfold Lit.wf;simp [IntKind.min,IntKind.max,IntKind.signed,IntKind.bits];omega
  obtain ⟨v,ps,hrun,hv⟩:=hown.look_ok ikeyed ht hz (zd:=.held (.slice none 0 0)) (zp:=[]) rfl (Maps.keyOf_int_mk Tryz.underlying3 hwf)
  have hn:Maps.has D (.int .i64 id) = false:=by
   cases hh:Maps.has D (.int .i64 id) with
   | false=>rfl
   | true =>
    obtain ⟨k,_,e⟩:=hi.only _ hh;unfold ik at e;simp at e;omega
  rw [hn] at hrun;rw [Maps.atKey_of_not_has hn] at hv;simp only [tokR,Option.some.injEq,Prod.mk.injEq,DataW.held.injEq] at hv;refine ⟨v,hrun,?_⟩;rw [hv.1];exact Sl.nil _ _ _
theorem vSeen_ok {w:World} {A:VAt} {m:Mem} {P:PAt} {p:PSt} {pc:PC} {J:Nat→Nat} {bank end_ ib:Nat} {lv:Value} {xs:List Vx} {s:VSt} (h:VR w A m P p pc J bank end_ ib lv xs s) (hxn:xs.length≤1099511627776) :
  Calls Tryz.prog 103 #[ptr A.vb] w fun e w'=>∃ b',e = .returned (.map (some b'))∧w.heap.size≤b'∧VMap w' b' (sets s.f s.l)∧Mod Nowhere w w':=by
 have hdr:=(Mod.refl Nowhere w).drew
 have hid:∀ x ∈ xs,x.2.1 < 4097:=fun x hx=>by
  have hr:x.2 ∈ s.l:=by rw [← h.xl];exact List.mem_map.2 ⟨x,hx,rfl⟩
  have:=(h.ok _ hr).hi;omega
 have hA:=vApply_ok (w:=w.drew) (h.im.fresh hdr) (h.ls.fresh hdr) hid hxn;rw [h.xl] at hA;have k3:w.cell? ⟨A.vb,3,none⟩ = some (.map (some ib)):=h.bv.cell 3;have k5:w.cell? ⟨A.vb,5,none⟩ = some lv:=h.bv.cell 5;have hvl:=h.bv.lt;obtain ⟨la,lc,rfl,-,-,-⟩:=h.ls.sl.gen;refine hid2 ?_ hA h;clear hA h;intro hA h;go_enter Tryz.func103,Tryz.ntmps103;go_wp2
 go_region_held3 (fun w'=>w'.cell? ⟨A.vb,3,none⟩ = some (.map (some ib))∧w'.cell? ⟨A.vb,5,none⟩ = some (.slice la xs.length lc)) (simp [*,World.cell?_alloc_some,World.cell?_setCell_far,World.cell?_setCell_other])
  (first | (go_at_call 159;(with_reducible refine hA.out.mono ?_);rintro e w5 ⟨b',rfl,hb',hmp,hm⟩;have q3:w5.cell? ⟨A.vb,3,none⟩ = some (.map (some ib)):=(hm.cell (p:=⟨A.vb,3,none⟩) hvl id).trans k3;have q5:w5.cell? ⟨A.vb,5,none⟩ = some (.slice la xs.length lc):=(hm.cell (p:=⟨A.vb,5,none⟩) hvl id).trans k5;replace hmp:=Lib.hid hmp;replace hm:=Lib.hid hm))
 go_wp2;go_ret;exact ⟨_,rfl,hb',hmp.out,hdr.trans hm.out⟩
def GetPost (w:World) (g:Option (List Nat)) (e:Ending) (w':World):Prop :=
 ∃ v,e = .returned (.tuple #[v,.bool g.isSome])∧w'.ownsRow w.heap.size 5 1 v (g.getD []).length (u8s (g.getD []))∧Mod Nowhere w w'
end Go.Proofs.YtanioleniadhoaaGreat
/-
 The vault: getting an item.
-/
namespace Go.Proofs.YtanioleniadhoaaGreat
open Go.RowKit Go.Shelf
open Jn Vn
attribute [local go_sem] Oper.semAt_some
def NoFrom (xs:List Vx) (id:Int) (k:Nat):Prop:=∀ j (hj:j < xs.length),k≤j→((xs[j].2.1:Nat):Int) ≠ id
theorem lastOf_none {xs:List Vx} {id:Nat} (h:NoFrom xs id 0):lastOf (recs xs) id = none:=by
 unfold lastOf;rw [List.find?_eq_none];intro r hr;rw [List.mem_reverse] at hr;obtain ⟨x,hx,rfl⟩:=List.mem_map.1 hr;obtain ⟨j,hj,e⟩:=List.mem_iff_getElem.1 hx;have h1:=h j hj (Nat.zero_le _);rw [e] at h1;intro e2;have e3:x.2.1 = id:=by simpa using e2
 exact h1 (by rw [e3])
theorem lastOf_some {xs:List Vx} {id j:Nat} (hj:j < xs.length) (he:xs[j].2.1 = id) (h:NoFrom xs id (j + 1)):lastOf (recs xs) id = some xs[j].2:=by
 have e1:recs xs = recs (xs.take (j + 1)) ++ recs (xs.drop (j + 1)):=by unfold recs;rw [← List.map_append,List.take_append_drop]
 unfold lastOf;rw [e1,List.reverse_append,List.find?_append]
 have hn:(recs (xs.drop (j + 1))).reverse.find? (fun r=>r.1 == id) = none:=by
  rw [List.find?_eq_none];intro r hr;rw [List.mem_reverse] at hr;obtain ⟨x,hx,rfl⟩:=List.mem_map.1 hr;obtain ⟨i,hi,e⟩:=List.mem_iff_getElem.1 hx;rw [List.length_drop] at hi;rw [List.getElem_drop] at e;have h1:=h (j + 1 + i) (by omega) (by omega);rw [e] at h1;intro e2;have e3:x.2.1 = id:=by simpa using e2
  exact h1 (by rw [e3])
 rw [hn,recs_take xs j hj,List.reverse_append,List.reverse_singleton,List.singleton_append,List.find?_cons];simp [he]
theorem at_none {f:Items} {xs:List Vx} {id:Int} (h:NoFrom xs id 0):at_ (sets f (recs xs)) id = at_ f id:=by
 unfold at_;by_cases h0:0≤id
 ·rw [if_pos h0,if_pos h0,sets_last,lastOf_none (id:=id.toNat) (by rw [Int.toNat_of_nonneg h0];exact h)]
  rfl
 ·rw [if_neg h0,if_neg h0]
theorem at_some {f:Items} {xs:List Vx} {id:Int} {j:Nat} (hj:j < xs.length) (he:((xs[j].2.1:Nat):Int) = id) (h:NoFrom xs id (j + 1)):at_ (sets f (recs xs)) id = xs[j].2.2:=by
 subst he;unfold at_;rw [if_pos (by omega),Int.toNat_natCast,sets_last,lastOf_some hj rfl h]
 rfl
theorem owns_put {w:World} {base n r sz:Nat} {T:TypeId} {v:Value} {xs:List Value} {o o':Obj} (h:w.ownsRow base T sz v n xs) (hr:w.heap[r]? = some o) (ho:o.isCells = false):(w.putObj r o').ownsRow base T sz v n xs:=by
 refine ⟨h.1,?_⟩;rcases h.2 with h2 | ⟨g,cap,cur,hv,hb,hg,rest⟩
 ·exact .inl h2
 ·have hb2:Blk w g cur.toList T:=by simpa [Blk] using hg
  have h3:=hb2.put (o':=o') hr ho;exact .inr ⟨g,cap,cur,hv,hb,by simpa [Blk] using h3,rest⟩
def GetX (W2 W:World) (b4 b5:Nat) (g:Option (List Nat)):Prop :=
 ∃ v,Blk W b4 [v] 22∧Blk W b5 [.bool g.isSome] 4∧W.ownsRow W2.heap.size 5 1 v (g.getD []).length (u8s (g.getD []))∧Mod (fun k=>k = b4 ∨ k = b5) W2 W
theorem GetX.put {W2 W:World} {b4 b5 r:Nat} {g:Option (List Nat)} {o o':Obj} (h:GetX W2 W b4 b5 g) (hB:W2.heap.size≤r) (hr:W.heap[r]? = some o) (ho:o.isCells = false):GetX W2 (W.putObj r o') b4 b5 g:=by
 obtain ⟨v,h1,h2,h3,h4⟩:=h;exact ⟨v,h1.put hr ho,h2.put hr ho,owns_put h3 hr ho,h4.put hB⟩
theorem vGet_ok {w:World} {A:VAt} {m:Mem} {P:PAt} {p:PSt} {pc:PC} {J:Nat→Nat} {bank end_ ib:Nat} {lv:Value} {xs:List Vx} {s:VSt} (h:VR w A m P p pc J bank end_ ib lv xs s) (hxn:xs.length≤1099511627776) (id:Int) (h1:-9223372036854775808≤id) (h2:id≤9223372036854775807) :
  Calls Tryz.prog 99 #[ptr A.vb,.int .i64 id] w (GetPost w (at_ (sets s.f s.l) id)):=by
 obtain ⟨W0,hW0⟩:∃ W0,((w.alloc (.cells #[.int .i64 id] 3)).alloc (.cells #[.slice none 0 0] 22)).alloc (.cells #[.bool false] 4) = W0:=⟨_,rfl⟩;have hm0:Mod Nowhere w W0:=by rw [← hW0];exact ((((Mod.refl _ w).alloc _).alloc _).alloc _)
 have hs0:W0.heap.size = w.heap.size + 3:=by rw [← hW0];simp
 have x3:Blk W0 w.heap.size [.int .i64 id] 3:=by rw [← hW0];exact ((Blk.new w [.int .i64 id] 3).alloc _).alloc _
 have x4:Blk W0 (w.heap.size + 1) [.slice none 0 0] 22:=by
  rw [← hW0];have h:=(Blk.new (w.alloc (.cells #[.int .i64 id] 3)) [.slice none 0 0] 22).alloc (.cells #[.bool false] 4);simpa using h
 have x5:Blk W0 (w.heap.size + 1 + 1) [.bool false] 4:=by
  rw [← hW0];have h:=Blk.new ((w.alloc (.cells #[.int .i64 id] 3)).alloc (.cells #[.slice none 0 0] 22)) [.bool false] 4;simpa using h
 have hV0:=h.fresh hm0;have hRy:=vReady_ok hV0.stub;have hal:alive m p = true:=hV0.jr.pg.alive_true;rw [hal,show ((okE true:Nat):Int) = 0 from rfl] at hRy;refine hid9 ?_ hRy h hm0 hs0 x3 x4 x5 hV0 hal;clear hRy h hm0 hs0 x3 x4 x5 hV0 hal;intro hRy h hm0 hs0 x3 x4 x5 hV0 hal;refine (callsIn_wide (n:=8)).1 ?_;refine callsIn_of_wp_marks Tryz.func99 rfl trivial (wpIn_wide.2 ?_) rfl;simp only [Tryz.ntmps99,List.size_toArray,List.length_cons,List.length_nil,Nat.reduceAdd,Nat.reduceSub,Array.replicate_succ,Array.replicate_zero,List.push_toArray,List.append_toArray,List.nil_append,List.cons_append]
 go_wp2_with fail;refine hRy.out.mono ?_;rintro e w1 ⟨rfl,nd,rfl⟩;have hm1:=hm0.out.drewN nd;have hV1:=hV0.out.fresh ((Mod.refl Nowhere W0).drewN nd);have y3:=x3.out.drewN nd;have y4:=x4.out.drewN nd;have y5:=x5.out.drewN nd;have hs1:(W0.drewN nd).heap.size = w.heap.size + 3:=hs0.out;clear hW0 x3 x4 x5 hV0 hm0 hs0 hRy;generalize W0.drewN nd = W1 at *;have k5:W1.cell? ⟨A.vb,5,none⟩ = some lv:=hV1.bv.cell 5;obtain ⟨la,lc,rfl,hl1,hl2,-⟩:=hV1.ls.sl.gen;refine hid6 ?_ hV1 hm1 hs1 y3 y4 y5;clear hV1 hm1 hs1 y3 y4 y5;intro hV1 hm1 hs1 y3 y4 y5
 go_wp2_with (go_at_call 156;refine (vBackward_ok _ undef _ _ _).mono ?_;rintro e w1 ⟨rfl,rfl⟩)
 obtain ⟨W2,hW2⟩:∃ W2,W1.alloc (.cells #[.slice la xs.length lc] 160) = W2:=⟨_,rfl⟩;have hm12:Mod Nowhere W1 W2:=by rw [← hW2];exact (Mod.refl _ W1).alloc _
 have hbn:Blk W2 W1.heap.size [.slice la xs.length lc] 160:=by rw [← hW2];exact Blk.new W1 _ _
 have hs2:W2.heap.size = w.heap.size + 4:=by rw [← hW2];have:=hs1.out;simp;omega
 have hV2:=hV1.out.fresh hm12;have z3:=y3.out.mod hm12 (fun h=>h);have z4:=y4.out.mod hm12 (fun h=>h);have z5:=y5.out.mod hm12 (fun h=>h);have hm02:=hm1.out.trans hm12;rw [hW2]
 have hform:∀ k (hk:k < xs.length),∃ a c,xs[k].1 = .slice a (xs[k].2.2.getD []).length c:=fun k hk=>by
  obtain ⟨a,c,e,_⟩:=Sl.len (hV2.ls.data _ (List.getElem_mem hk));exact ⟨a,c,e⟩
 obtain ⟨bn,hbn'⟩:∃ bn,W1.heap.size = bn:=⟨_,rfl⟩;obtain ⟨b3,hb3⟩:∃ b3,w.heap.size = b3:=⟨_,rfl⟩;obtain ⟨b4,hb4⟩:∃ b4,w.heap.size + 1 = b4:=⟨_,rfl⟩;obtain ⟨b5,hb5⟩:∃ b5,w.heap.size + 1 + 1 = b5:=⟨_,rfl⟩;rw [hbn'] at hbn ⊢;rw [hb5] at z5 ⊢;rw [hb4] at z4 ⊢;rw [hb3] at z3 ⊢;have hl4:b4 < W2.heap.size:=by omega
 have hl5:b5 < W2.heap.size:=by omega
 have h45:b4 ≠ b5:=by omega
 have hlb3:b3 < W2.heap.size:=by omega
 have h34:b3 ≠ b4:=by omega
 have h35:b3 ≠ b5:=by omega
 have hxl:=h.out.xl;obtain ⟨G,hG⟩:∃ G,at_ (sets s.f s.l) id = G:=⟨_,rfl⟩;have hG2:at_ (sets s.f (recs xs)) id = G:=by rw [hxl];exact hG
 rw [hG];clear hW2 hm12 k5;refine hid10 ?_ hV2 z3 z4 z5 hbn hform hG hG2 hm02 hxl;clear hV2 z3 z4 z5 hbn hform hG hG2 hm02 hxl;intro hV2 z3 z4 z5 hbn hform hG hG2 hm02 hxl
 have hfin:∀ W3 (tmps:Array Value),GetX W2 W3 b4 b5 G→tmps[4]?.getD undef = .pointer (some ⟨b4,0,none⟩)→tmps[5]?.getD undef = .pointer (some ⟨b5,0,none⟩)→LeavesInM Fence.wide 8 Tryz.prog Tryz.f99 tmps (GetPost w G) [] .returning W3:=by
  rintro W3 tmps ⟨v,q4,q5,q6,q7⟩ t4 t5;have c4:=q4.cell 0;have c5:=q5.cell 0;simp only [List.length_cons,List.length_nil,Nat.zero_add,Nat.lt_irrefl,gz0] at c4 c5;refine ⟨.tuple #[v,.bool G.isSome],by simp [results,Tryz.results99,go_sem,t4,t5,c4,c5],v,rfl,?_,?_⟩
  ·exact ownsRow_base_a q6 (by omega)
  ·exact hm02.out.step q7 (fun i hi e=>by omega)
 replace hs2:=Lib.hid hs2;replace hs1:=hs1;refine (wpIn_wide (n:=8)).1 ?_
 refine wpIn_range (F:=Fence.wide) (n:=8) (σ:=Nat) rfl (by omega) (gf:=218) (lb:=#[.pointer (some ⟨bn,0,none⟩)]) rfl trivial (enters_of Tryz.func218 (by kernel_rfl) rfl)
  (fun k=>k = b4 ∨ k = b5) ?hSD ?hSl
  (fun k args W=>∃ hk:k < xs.length,args = #[.int .i64 k,vAgg xs[k]]∧Mod Nowhere W2 W∧NoFrom xs id (k + 1))
  (fun k W=>Mod Nowhere W2 W∧NoFrom xs id k)
  (fun c W=>c = .ret∧GetX W2 W b4 b5 G)
  (fun W=>Mod Nowhere W2 W∧NoFrom xs id 0)
  ?hZ ?hX ?hT ?hps
  (fun k a' W=>∃ hk:k < xs.length,∃ tb:Nat,(Mod Nowhere W2 W∧NoFrom xs id (k + 1)∧Blk W tb [.int .i64 xs[k].2.1,xs[k].1,.bool xs[k].2.2.isNone] 238) ∧
   a' = { tmps:=#[ptr A.vb,.int .i64 id,undef,.pointer (some ⟨b3,0,none⟩),.pointer (some ⟨b4,0,none⟩),.pointer (some ⟨b5,0,none⟩),undef,.pointer (some ⟨tb,0,none⟩),undef,undef,ptr A.vb,errno 0,.bool false,ptr A.vb,.pointer (some ⟨A.vb,0,none⟩),.pointer (some ⟨A.vb,5,none⟩),.slice la xs.length lc,
    .func (.func 218) #[] #[.pointer (some ⟨bn,0,none⟩)],.int .i64 k,vAgg xs[k],undef,undef,undef,undef,undef,undef,undef,undef,undef,undef,undef,undef,undef,undef,undef,undef,undef,undef,undef,undef,undef,undef],defers:=[] })
  ?hAx ?hassign ?hbody ?hit ?hdone ?hstop
 case hSD=>exact fun e=>by omega
 case hSl=>exact fun e=>by omega
 case hZ=>exact fun k W r o o' hz hB hr ho=>⟨hz.1.put hB,hz.2⟩
 case hX=>exact fun c W r o o' hx hB hr ho=>⟨hx.1,hx.2.put hB hr ho⟩
 case hT=>exact fun W r o o' hz hB hr ho=>⟨hz.1.put hB,hz.2⟩
 case hps=>rintro k args W ⟨hk,rfl,_⟩;rfl
 case hAx=>rintro k a' W r o o' ⟨hk,tb,⟨q1,q2,q3⟩,q4⟩ hB hr ho;exact ⟨hk,tb,⟨q1.put hB,q2,q3.put hr ho⟩,q4⟩
 case hassign =>
  rintro l k args W ⟨hk,rfl,hmw,hno⟩;obtain ⟨xa,xc,e3⟩:=hform.out k hk;obtain ⟨⟨xv,xid,xd⟩,hx⟩:∃ x,xs[k] = x:=⟨_,rfl⟩;rw [hx] at e3;dsimp only at e3;have hagg:vAgg xs[k] = .agg #[.int .i64 xid,.slice xa (xd.getD []).length xc,.bool xd.isNone]:=by rw [hx,← e3];rfl
  rw [hagg];have hcs:([.int .i64 xs[k].2.1,xs[k].1,.bool xs[k].2.2.isNone]:List Value) = [.int .i64 xid,.slice xa (xd.getD []).length xc,.bool xd.isNone]:=by rw [hx,← e3]
  generalize (xd.getD []).length = xl at *;generalize xd.isNone = xg at *;have hbx:=Blk.new W [.int .i64 xid,.slice xa xl xc,.bool xg] 238;rw [← hcs] at hbx;have hma:Mod Nowhere W (W.alloc (.cells #[.int .i64 xid,.slice xa xl xc,.bool xg] 238)):=(Mod.refl _ W).alloc _
  have hbx2:Blk (W.alloc (.cells #[.int .i64 xid,.slice xa xl xc,.bool xg] 238)) W.heap.size [.int .i64 xs[k].2.1,xs[k].1,.bool xs[k].2.2.isNone] 238:=by
   rw [hcs];exact Blk.new W [.int .i64 xid,.slice xa xl xc,.bool xg] 238
  refine hid8 ?_ hbx2 hno hmw hma hagg hcs hx e3;clear hbx2 hno hmw hma hagg hcs hx e3;intro hbx2 hno hmw hma hagg hcs hx e3;clear hbx
  gi_wp2
  exact ⟨hma.out.nowhere,hk,W.heap.size,⟨hmw.out.trans hma.out,hno.out,hbx2.out⟩,by rw [hagg.out]⟩
 case hbody =>
  rintro l k a' W ⟨hk,tb,⟨hmw,hno,hbx⟩,rfl⟩;obtain ⟨xa,xc,e3⟩:=hform.out k hk;have hdat:=hV2.out.ls.data _ (List.getElem_mem hk);have hat:=fun he=>at_some (f:=s.f) hk he hno;rw [hG2.out] at hat
  have hnk:((xs[k].2.1:Nat):Int) ≠ id→NoFrom xs id k:=fun hne j hj hkj=>by
   by_cases e:j = k
   ·subst e;exact hne
   ·exact hno j hj (by omega)
  obtain ⟨⟨xv,xid,xd⟩,hx⟩:∃ x,xs[k] = x:=⟨_,rfl⟩;unfold vAgg;rw [hx] at e3 hbx hat hnk hdat ⊢;dsimp only at e3 hbx hat hnk hdat ⊢;subst e3;have c0:=hbx.cell 0;have c1:=hbx.cell 1;have c2:=hbx.cell 2;have c3:W.cell? ⟨b3,0,none⟩ = some (.int .i64 id):=(hmw.cell (p:=⟨b3,0,none⟩) hlb3 (fun h=>h)).trans (z3.out.cell 0);simp only [gs0,gz0] at c0 c1 c2;refine hid5 ?_ hmw hno hat hnk hx;clear hmw hno hat hnk hx;intro hmw hno hat hnk hx;by_cases he:((xid:Nat):Int) = id
  ·have hb:(((xid:Nat):Int) == id) = true:=by simpa using he
   obtain ⟨dl,hdl⟩:∃ dl,(xd.getD []).length = dl:=⟨_,rfl⟩;have hdW:=(hdat.fresh hmw.out).fresh ((Mod.refl Nowhere W).drew)
   have hle:(xd.getD []).length≤1099511627776:=by
    have hr:((xid,xd):Rec) ∈ s.l:=by rw [← hxl.out];exact List.mem_map.2 ⟨_,List.getElem_mem hk,by rw [hx.out]⟩
    have:=(h.out.ok _ hr).len;exact Nat.le_trans this (by decide)
   have hCl:=Clone_u8 (w:=W.drew) (v:=.slice xa (xd.getD []).length xc) (n:=(xd.getD []).length) (xs:=u8s (xd.getD [])) hdW (one_u8 _) hle;rw [hdl] at hCl c1;have hg:=hat.out he;have k4:=z4.out.mod (hmw.out.drew) (fun h=>h);have k5:=z5.out.mod (hmw.out.drew) (fun h=>h);have hbxd:=hbx.drew;refine hid7 ?_ hCl hbx hdat hdW hdl hg he;clear hCl hbx hdat hdW hdl hg he;intro hCl hbx hdat hdW hdl hg he;have hfC:Fence.wide.fn 123:=trivial
   have hclose:∀ (w5:World) (va5:Option Addr) (vc5:Nat),Blk w5 b4 [.slice none 0 0] 22→Blk w5 b5 [.bool false] 4→w5.ownsRow W.drew.heap.size 5 1 (.slice va5 dl vc5) dl (u8s (xd.getD []))→Mod Nowhere W.drew w5 →
     Mod (fun k=>k = b4 ∨ k = b5) W ((w5.setCell ⟨b4,0,none⟩ (.slice va5 dl vc5)).setCell ⟨b5,0,none⟩ (.bool xd.isSome))∧GetX W2 ((w5.setCell ⟨b4,0,none⟩ (.slice va5 dl vc5)).setCell ⟨b5,0,none⟩ (.bool xd.isSome)) b4 b5 G:=by
    intro w5 va5 vc5 r4 r5 ro rm;have hmm:Mod (fun k=>k = b4 ∨ k = b5) w5 ((w5.setCell ⟨b4,0,none⟩ (.slice va5 dl vc5)).setCell ⟨b5,0,none⟩ (.bool xd.isSome)):=((Mod.refl (fun k=>k = b4 ∨ k = b5) w5).setCell (p:=⟨b4,0,none⟩) (fun _=>.inl rfl) _).setCell (p:=⟨b5,0,none⟩) (fun _=>.inr rfl) _;have hmW5:Mod Nowhere W w5:=((Mod.refl Nowhere W).drew).trans rm;have hsW:=hmw.out.size;have hsz:W2.heap.size≤W.drew.heap.size:=hsW;refine ⟨hmW5.nowhere.trans hmm,.slice va5 dl vc5,?_,?_,?_,(hmw.out.nowhere.trans hmW5.nowhere).trans hmm⟩
    ·exact ((r4.setCell 0 _).conv rfl).setCell_other h45 _
    ·refine ((r5.setCell_other (fun e=>h45 e.symm) _).setCell 0 _).conv ?_;rw [hg.out]
     rfl
    ·have h9:=owns_mod ro hmm (fun k hk e=>by rcases e with e | e <;> omega);rw [hg.out,hdl.out];exact ownsRow_base_a h9 hsz
   replace hclose:=Lib.hid hclose
   gi_wp2
   gi_region_with (gi_at_call 123;refine (((callsIn_wide (n:=5)).2 hCl.out).inRound l).mono ?_;rintro e w5 ⟨v5,rfl,hown5,hnil5,hm5⟩;obtain ⟨va5,vc5,rfl,-⟩:=owns_form hown5;have q4:=k4.mod hm5 (fun h=>h);have q5:=k5.mod hm5 (fun h=>h);have d1:=(hbxd.mod hm5 (fun h=>h)).cell 1;have d2:=(hbxd.mod hm5 (fun h=>h)).cell 2;have f4:=q4.frozen;have f5:=q5.frozen;have e4:=q4.cell 0;have e5:=q5.cell 0;have l4:=q4.lt;have l5:=q5.lt;(simp only [List.length_cons,List.length_nil,Nat.zero_add,Nat.lt_irrefl,gs0,gz0] at d1 d2 e4 e5);replace hown5:=Lib.hid hown5;replace hm5:=Lib.hid hm5;replace q4:=Lib.hid q4;replace q5:=Lib.hid q5;clear hnil5)
   all_goals
    have hfin2:=hclose.out w5 va5 vc5 q4.out q5.out hown5.out hm5.out;replace hfin2:=Lib.hid hfin2
    gi_wp2
    exact ⟨hfin2.out.1,rfl,hfin2.out.2⟩
  ·have hb:(((xid:Nat):Int) == id) = false:=by simpa using he
   have hnk2:=hnk.out he;refine hid4 ?_ he hnk2 hbx hdat;clear he hnk2 hbx hdat;intro he hnk2 hbx hdat
   gi_wp2
   exact ⟨Mod.refl _ _,hmw.out,hnk2.out⟩
 case hit =>
  intro Wi R XX hm1' hsz hRs hXX hYd hR1
  have hit:=backward_it (l:=W2.heap.size + 1) (Bn:=bn) (lv:=.slice la xs.length lc) (xs:=xs) 7 (by omega) hxn R XX (fun k W=>Mod Nowhere W2 W∧NoFrom xs id k) (W1:=Wi)
   (fun k W hz=>⟨(hz.1.cell (p:=⟨bn,0,none⟩) hbn.out.lt (fun h=>h)).trans (hbn.out.cell 0),hV2.out.ls.fresh hz.1⟩)
   (fun k W hk hz hr=>by
    obtain ⟨fn,tmps,assign,body,hy,hRR⟩:=hYd k _ W ⟨hk,rfl,hz.1,hz.2⟩ hr;refine ⟨fn,tmps,assign,body,hy,hRR.mono ?_⟩;rintro e W' (⟨q1,q2,_,q4⟩ | q)
    ·exact .inl ⟨q1,q2,q4⟩
    ·exact .inr q)
   ⟨hm1',fun j hj hk=>absurd hj (by omega)⟩ hR1
  refine hit.mono ?_;rintro e W' ⟨hv,(⟨hz,hr⟩ | hx)⟩
  ·exact ⟨hv,.inl ⟨hz,hr⟩⟩
  ·exact ⟨hv,.inr hx⟩
 case hdone =>
  rintro W ⟨hmw,hno⟩ hD;have hgn:=at_none (f:=s.f) hno;rw [hG2.out] at hgn;have hVW:=hV2.out.fresh hmw;obtain ⟨u,hlk,hud⟩:=((hVW.fresh ((Mod.refl Nowhere W).drew)).im).lookI (t:=159) (e:=22) Tryz.underlying159 rfl h1 h2;obtain ⟨ua,uc,rfl,-⟩:=Sl.len hud;rw [← hgn] at hlk hud
  have hle:(G.getD []).length≤1099511627776:=by
   rw [hgn]
   cases hf:at_ s.f id with
   | none=>simp
   | some d =>
    unfold at_ at hf
    split at hf
    ·have:=(hVW.bk.iok.ok _ _ hf).len;simp at this ⊢;omega
    ·cases hf
  have k3:W.cell? ⟨A.vb,3,none⟩ = some (.map (some ib)):=hVW.bv.cell 3;have kb3:W.cell? ⟨b3,0,none⟩ = some (.int .i64 id):=(hmw.cell (p:=⟨b3,0,none⟩) hlb3 (fun h=>h)).trans (z3.out.cell 0);rw [← hgn] at *;obtain ⟨dl,hdl⟩:∃ dl,(G.getD []).length = dl:=⟨_,rfl⟩;rw [hdl] at hlk hle;have hCl:=Clone_u8 (w:=W.drew) (v:=.slice ua (G.getD []).length uc) (n:=(G.getD []).length) (xs:=u8s (G.getD [])) hud (one_u8 _) (by rw [hdl];exact hle);rw [hdl] at hCl;have k4:=z4.out.mod (hmw.drew) (fun h=>h);have k5:=z5.out.mod (hmw.drew) (fun h=>h);have hDd:W.drew.heap[W2.heap.size]? = some (.deferred (some [])):=hD;have hmd:Mod Nowhere W2 W.drew:=hmw.drew
  obtain ⟨gs,hgs⟩:∃ gs,G.isSome = gs:=⟨_,rfl⟩;rw [hgs] at hlk;have hsW:=hmw.size;refine hid12 ?_ hCl hVW hmw hud hdl hgn hD hDd hmd hgs k4 k5;clear hCl hVW hmw hud hdl hgn hD hDd hmd hgs k4 k5;intro hCl hVW hmw hud hdl hgn hD hDd hmd hgs k4 k5;replace hno:=Lib.hid hno;go_wp2
  go_region_held3 (fun w'=>w'.cell? ⟨A.vb,3,none⟩ = some (.map (some ib))∧w'.cell? ⟨b3,0,none⟩ = some (.int .i64 id)∧(Instr.lookup 159 (.map (some ib)) (.int .i64 id) true).run Tryz.prog w' = .ok (.tuple #[.slice ua dl uc,.bool gs]) w') (simp [*]) (fail)
  clear hlk k3 kb3;go_wp2_with fail;refine hCl.out.mono ?_;rintro e w5 ⟨v5,rfl,hown5,hnil5,hm5⟩;obtain ⟨va5,vc5,rfl,-⟩:=owns_form hown5;have q4:=k4.out.mod hm5 (fun h=>h);have q5:=k5.out.mod hm5 (fun h=>h);have f4:=q4.frozen;have f5:=q5.frozen;have e4:=q4.cell 0;have e5:=q5.cell 0;have l4:=q4.lt;have l5:=q5.lt;simp only [List.length_cons,List.length_nil,Nat.zero_add,Nat.lt_irrefl,gz0] at e4 e5;have hmm:Mod (fun k=>k = b4 ∨ k = b5) w5 ((w5.setCell ⟨b4,0,none⟩ (.slice va5 dl vc5)).setCell ⟨b5,0,none⟩ (.bool gs)):=((Mod.refl (fun k=>k = b4 ∨ k = b5) w5).setCell (p:=⟨b4,0,none⟩) (fun _=>.inl rfl) _).setCell (p:=⟨b5,0,none⟩) (fun _=>.inr rfl) _;have hD5:w5.heap[W2.heap.size]? = some (.deferred (some [])):=(hm5.block _ (Array.getElem?_eq_some_iff.1 hDd.out).1 (fun h=>h)).trans hDd.out
  have hD6:((w5.setCell ⟨b4,0,none⟩ (.slice va5 dl vc5)).setCell ⟨b5,0,none⟩ (.bool gs)).heap[W2.heap.size]? = some (.deferred (some [])):=(hmm.block _ (Array.getElem?_eq_some_iff.1 hD5).1 (fun e=>by rcases e with e | e <;> omega)).trans hD5
  have hgx:GetX W2 ((w5.setCell ⟨b4,0,none⟩ (.slice va5 dl vc5)).setCell ⟨b5,0,none⟩ (.bool gs)) b4 b5 G:=by
   have hm25:=hmd.out.trans hm5;refine ⟨.slice va5 dl vc5,((q4.setCell 0 _).conv rfl).setCell_other h45 _,((q5.setCell_other (fun e=>h45 e.symm) _).setCell 0 _).conv (by rw [hgs.out];rfl),?_,hm25.nowhere.trans hmm⟩;have hsz:W2.heap.size≤W.drew.heap.size:=hsW;have h9:=owns_mod hown5 hmm (fun k hk e=>by rcases e with e | e <;> omega);rw [hdl.out];exact ownsRow_base_a h9 hsz
  refine hid2 ?_ hD6 hgx;clear hD6 hgx;intro hD6 hgx;clear hown5 hnil5 hm5 q4 q5 hmm hD5;go_wp2;have hgx3:=hgx.out.put (r:=W2.heap.size) (o':=.deferred none) (Nat.le_refl _) hD6.out rfl;refine ⟨by simp,.inl ⟨_,_,rfl,run_takeDeferred hD6.out,?_⟩⟩;rw [hG.out];refine hfin _ _ hgx3 ?_ ?_
  ·rfl
  ·rfl
 case hstop =>
  rintro c W ⟨rfl,hx⟩ hDf
  gi_wp2
  have hx3:=hx.put (r:=W2.heap.size) (o':=.deferred none) (Nat.le_refl _) hDf rfl;refine ⟨by simp,.inl ⟨_,_,rfl,run_takeDeferred hDf,?_⟩⟩;exact hfin _ _ hx3 rfl rfl
end Go.Proofs.YtanioleniadhoaaGreat
