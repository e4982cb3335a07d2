/-
  The registry: lists of entries in memory, and an entry that is handed back.
-/
import Derived.Test.YthmahbfmfpjjcaaGreatQG64
set_option linter.unusedVariables false
set_option linter.unusedSimpArgs false
set_option maxHeartbeats 16000000
set_option maxRecDepth 100000
namespace Go.Proofs.YthmahbfmfpjjcaaGreat
open Go.RowKit
open Jn Vn Rg
attribute [local go_sem] Oper.semAt_some
namespace Rg
def zeroR:REn:=⟨0,0,0,0,0,0,[],[]⟩
end Rg
def zero8:List Value:=[.slice none 0 0,.int .i64 0,.int .i64 0,.int .i64 0,.int .i64 0,.slice none 0 0,.int .i64 0,.int .i64 0]
def put8 (W:World) (B:Nat) (c0 c1 c2 c3 c4 c5 c6 c7:Value):World:=(((((((W.setCell ⟨B,0,none⟩ c0).setCell ⟨B,1,none⟩ c1).setCell ⟨B,2,none⟩ c2).setCell ⟨B,3,none⟩ c3).setCell ⟨B,4,none⟩ c4).setCell ⟨B,5,none⟩ c5).setCell ⟨B,6,none⟩ c6).setCell ⟨B,7,none⟩ c7
theorem blk8 {W:World} {B:Nat} {T:TypeId} {o0 o1 o2 o3 o4 o5 o6 o7:Value} (hb:Blk W B [o0,o1,o2,o3,o4,o5,o6,o7] T) (c0 c1 c2 c3 c4 c5 c6 c7:Value) :
  Blk (put8 W B c0 c1 c2 c3 c4 c5 c6 c7) B [c0,c1,c2,c3,c4,c5,c6,c7] T∧Mod (fun j=>j = B) W (put8 W B c0 c1 c2 c3 c4 c5 c6 c7) :=
 ⟨(((((((hb.setCell 0 c0).setCell 1 c1).setCell 2 c2).setCell 3 c3).setCell 4 c4).setCell 5 c5).setCell 6 c6).setCell 7 c7,
  ((((((((Mod.refl (fun j=>j = B) W).setCell (fun _=>rfl) c0).setCell (fun _=>rfl) c1).setCell (fun _=>rfl) c2).setCell (fun _=>rfl) c3).setCell (fun _=>rfl) c4).setCell (fun _=>rfl) c5).setCell (fun _=>rfl) c6).setCell (fun _=>rfl) c7⟩
theorem shun1 {W:World} {B:Nat} {T U:TypeId} {cs:List Value} (hb:Blk W B cs T) (h:T ≠ U):Shun (fun j=>j = B) W U:=fun k e cs' hb'=>by
 rw [e] at hb';exact h (hb.inj hb').2
theorem Mod.own {w W W':World} {B:Nat} (h:Mod Nowhere w W) (hm:Mod (fun j=>j = B) W W') (hB:w.heap.size≤B):Mod Nowhere w W':=h.step hm fun i hi e=>by have e:i = B:=e;omega
theorem XP {fn:Func} {p:Tmp} (h:fn.results = #[.cell p 24]) (tmps:Array Value) (w:World) (b:Nat) (c0 c1 c2 c3 c4 c5 c6 c7:Value) (hp:tmps.getD p undef = ptr b) (hb:Blk w b [c0,c1,c2,c3,c4,c5,c6,c7] 24) :
  (results fn tmps).run Tryz.prog w = .ok (.agg #[c0,c1,c2,c3,c4,c5,c6,c7]) w :=
 results_cell_row h _ _ b 24 _ (0,0) _ hp hb Tryz.underlying24 rfl (by kernel_rfl)
structure ExS (w:World) (x:Ex):Prop where
 sa:Src w x.1.1 x.2.aid
 sd:Src w x.1.2 x.2.dom
 ba:Bytes x.2.aid
 bd:Bytes x.2.dom
theorem ExD.s {w:World} {x:Ex} (h:ExD w x) (ba:Bytes x.2.aid) (bd:Bytes x.2.dom):ExS w x:=⟨h.da.src,h.dd.src,ba,bd⟩
structure CE (W:World) (u v:Value) (e:En):Prop where
 d1:DSl W u e.aid
 d2:DSl W v e.dom
 ok:EOk e
theorem CE.inE {W:World} {u v:Value} {e:En} (h:CE W u v e):InE W u v e.raw:=⟨h.d1.src,h.d2.src,h.ok.ba,h.ok.bd⟩
theorem CE.fresh {W W':World} {u v:Value} {e:En} (h:CE W u v e) (hm:Mod Nowhere W W'):CE W' u v e:=⟨h.d1.fresh hm,h.d2.fresh hm,h.ok⟩
theorem m1 (w:World) (cs:List Value) (T:TypeId):Mod Nowhere w (w.alloc (.cells cs.toArray T)):=(Mod.refl _ w).alloc _
theorem m2z (w:World) (cs ds:List Value) (T U:TypeId):Mod Nowhere w ((w.alloc (.cells cs.toArray T)).alloc (.cells ds.toArray U)):=(m1 w cs T).trans (m1 _ ds U)
theorem blk_a {w:World} (cs:List Value) (T:TypeId):∀ W,Mod Nowhere (w.alloc (.cells cs.toArray T)) W→Blk W w.heap.size cs T:=fun W hm=>(Blk.new w cs T).mod hm id
theorem blk_b {w:World} (cs ds:List Value) (T U:TypeId):∀ W,Mod Nowhere ((w.alloc (.cells cs.toArray T)).alloc (.cells ds.toArray U)) W→Blk W w.heap.size cs T∧Blk W (w.heap.size + 1) ds U:=fun W hm =>
 ⟨((Blk.new w cs T).mod (m1 _ ds U) id).mod hm id,by
  have:=(Blk.new (w.alloc (.cells cs.toArray T)) ds U).mod hm id
  simpa using this⟩
def rOf (o:Option En):REn:=(o.map En.raw).getD zeroR
def FPost (w:World) (o:Option En) (r:Ending) (w':World):Prop:=∃ u v,r = .returned (.tuple #[.agg (eCells u v (rOf o)).toArray,.bool o.isSome])∧DSl w' u (rOf o).aid∧DSl w' v (rOf o).dom∧Mod Nowhere w w'
theorem ZX {fn:Func} {p u:Tmp} (h:fn.results = #[.cell p 24,.tmp u]) (tmps:Array Value) (w:World) (b:Nat) (c0 c1 c2 c3 c4 c5 c6 c7:Value) (hp:tmps.getD p undef = ptr b) (hb:Blk w b [c0,c1,c2,c3,c4,c5,c6,c7] 24) :
  (results fn tmps).run Tryz.prog w = .ok (.tuple #[.agg #[c0,c1,c2,c3,c4,c5,c6,c7],tmps.getD u undef]) w:=by
 rw [results_cell_tmp h,hp];have k0:=hb.cell 0;have k1:=hb.cell 1;have k2:=hb.cell 2;have k3:=hb.cell 3;have k4:=hb.cell 4;have k5:=hb.cell 5;have k6:=hb.cell 6;have k7:=hb.cell 7;simp only [gz0,gs0] at k0 k1 k2 k3 k4 k5 k6 k7
 go_simp
theorem Zfv {l:List En} {pd:En→Bool}:(l.map En.raw).find? (fun r=>pd r.en) = (l.find? pd).map En.raw:=by
 rw [List.find?_map]
 rfl
theorem Zbh {l:List En} (h:RInv l) (a:List Nat):l.any (isDom a) = match rFind l a with | none=>false | some e=>decide (e.kind = 1):=by
 cases hf:rFind l a with
 | none =>
  rw [List.any_eq_false];intro x hx;unfold rFind at hf;have:=List.find?_eq_none.1 hf x hx;unfold isAid at this;unfold isDom;simp at this ⊢;exact fun e=>absurd e this
 | some e =>
  have h1:=List.mem_of_find?_eq_some hf
  have h2:e.aid = a:=by
   have:=List.find?_some hf;unfold isAid at this;simpa using this
  show l.any (isDom a) = decide (e.kind = 1)
  cases hk:decide (e.kind = 1) with
  | true =>
   rw [List.any_eq_true];exact ⟨e,h1,by unfold isDom;rw [hk,decide_eq_true h2];rfl⟩
  | false =>
   rw [List.any_eq_false];intro x hx;unfold isDom;simp only [Bool.and_eq_true,decide_eq_true_eq,not_and];intro e1 e2;have:=ZG h.srt hx h1 (e1.trans h2.symm);subst this;simp [e2] at hk
theorem Zfw {l:List En} (n:Nat):l.any (isPak n) = (l.find? (isPak n)).isSome:=by
 rw [Bool.eq_iff_iff,List.any_eq_true,List.find?_isSome]
def EL (w:World) (va:Option Addr) (vc:Nat) (L:List En):Prop:=∃ xs,ESl w (.slice va L.length vc) xs∧exps xs = L.map En.raw
theorem EL.fresh {w w':World} {va:Option Addr} {vc:Nat} {L:List En} (h:EL w va vc L) (hm:Mod Nowhere w w'):EL w' va vc L:=by
 obtain ⟨xs,h1,h2⟩:=h;exact ⟨xs,h1.fresh hm,h2⟩
theorem EPost.el {w w':World} {L:List En} {e:Ending} (h:EPost w (L.map En.raw) e w'):∃ va vc,e = .returned (.slice va L.length vc)∧EL w' va vc L∧Mod Nowhere w w':=by
 obtain ⟨v,xs,rfl,hs,hx,hm⟩:=h;obtain ⟨va,vc,rfl,-⟩:=hs.sl.gen;have hl:xs.length = L.length:=by rw [← Zs,hx,List.length_map]
 rw [hl] at hs ⊢;exact ⟨va,vc,rfl,⟨xs,hs,hx⟩,hm⟩
theorem EL.ce {w:World} {va:Option Addr} {vc:Nat} {L:List En} (h:EL w va vc L) {k:Nat} (hk:k < L.length):∃ b off a1 c1 a2 c2,va = some ⟨b,off,none⟩∧L.length≤vc∧vc≤maxLen∧∀ X,Mod Nowhere w X→(X.cell? ⟨b,off + k * 8,none⟩ = some (.slice a1 L[k].aid.length c1)∧X.cell? ⟨b,off + k * 8 + 1,none⟩ = some (.int .i64 L[k].kind)∧X.cell? ⟨b,off + k * 8 + 2,none⟩ = some (.int .i64 L[k].st)∧X.cell? ⟨b,off + k * 8 + 3,none⟩ = some (.int .i64 L[k].bf)∧X.cell? ⟨b,off + k * 8 + 4,none⟩ = some (.int .i64 L[k].pr)∧X.cell? ⟨b,off + k * 8 + 5,none⟩ = some (.slice a2 L[k].dom.length c2)∧X.cell? ⟨b,off + k * 8 + 6,none⟩ = some (.int .i64 L[k].pk)∧X.cell? ⟨b,off + k * 8 + 7,none⟩ = some (.int .i64 L[k].ob)∧b < X.heap.size)∧DSl X (.slice a1 L[k].aid.length c1) L[k].aid∧DSl X (.slice a2 L[k].dom.length c2) L[k].dom:=by
 obtain ⟨xs,hs,hx⟩:=h;have hl:xs.length = L.length:=by rw [← Zs,hx,List.length_map]
 have hlt:k < xs.length:=by omega
 obtain ⟨b,off,cap',a1,c1,a2,c2,e0,hb,g1,g2,hc,e1,e2⟩:=hs.at_ hlt
 have hxe:xs[k].2 = L[k].raw:=by
  have h1:(exps xs)[k]? = some xs[k].2:=by unfold exps;rw [List.getElem?_map,List.getElem?_eq_getElem hlt];rfl
  rw [hx,List.getElem?_map,List.getElem?_eq_getElem hk] at h1;simpa using h1.symm
 rw [hl] at e0
 obtain ⟨rfl,rfl⟩:va = some ⟨b,off,none⟩∧vc = cap':=by
  simp at e0;exact ⟨e0.1,e0.2⟩
 refine ⟨b,off,a1,c1,a2,c2,rfl,by omega,g2,fun X hm=>?_⟩;have hs':=hs.fresh hm;obtain ⟨b',off',cap2,a1',c1',a2',c2',e0',hb',-,-,hc',e1',e2'⟩:=hs'.at_ hlt;simp at e0';obtain ⟨⟨rfl,rfl⟩,-,-⟩:=e0';obtain ⟨q0,q1,q2,q3,q4,q5,q6,q7⟩:=eight hc';obtain ⟨d1,d2⟩:=hs'.data xs[k] (List.getElem_mem hlt);rw [e1] at d1 q0;rw [e2] at d2 q5;rw [hxe] at d1 d2 q0 q1 q2 q3 q4 q5 q6 q7;exact ⟨⟨q0,q1,q2,q3,q4,q5,q6,q7,hb'⟩,d1,d2⟩
theorem EL.len0 {w:World} {va:Option Addr} {vc:Nat} {L:List En} (h:EL w va vc L):L.length≤vc∧vc≤maxLen:=by
 obtain ⟨xs,h1,h2⟩:=h;have hl:xs.length = L.length:=by rw [← Zs,h2,List.length_map]
 obtain ⟨a,c,e,g1,g2,-⟩:=h1.sl.gen;simp at e;rw [hl] at g1;obtain ⟨-,-,rfl⟩:=e;exact ⟨g1,g2⟩
end Go.Proofs.YthmahbfmfpjjcaaGreat
namespace Go.Proofs.YthmahbfmfpjjcaaGreat
open Go.RowKit
open Jn Vn Rg
attribute [local go_sem] Oper.semAt_some
theorem Zfx (a b:REn):decide (a = b) = sameR a b:=by rw [← Ze1,Ze0]
theorem XQ {w:World} {x y:Ex} (hx:ExS w x) (hy:ExS w y) (l1:x.2.aid.length≤1000) (l2:x.2.dom.length≤1000) (l3:y.2.aid.length≤1000) (l4:y.2.dom.length≤1000) :
  Calls Tryz.prog 14 #[.agg (exCells x).toArray,.agg (exCells y).toArray] w fun e w'=>e = .returned (.bool (decide (x.2 = y.2)))∧Mod Nowhere w w':=by
 rw [Zfx];have hE1:∀ W,Mod Nowhere w W→Calls Tryz.prog 41 #[x.1.1,y.1.1] W fun r w'=>r = .returned (.bool (decide (x.2.aid = y.2.aid)))∧Mod Nowhere W w':=fun W hm=>ZW (hx.sa.fresh hm) (hy.sa.fresh hm) hx.ba hy.ba (by omega) (by omega);have hE2:∀ W,Mod Nowhere w W→Calls Tryz.prog 41 #[x.1.2,y.1.2] W fun r w'=>r = .returned (.bool (decide (x.2.dom = y.2.dom)))∧Mod Nowhere W w':=fun W hm=>ZW (hx.sd.fresh hm) (hy.sd.fresh hm) hx.bd hy.bd (by omega) (by omega);unfold sameR;generalize decide (x.2.aid = y.2.aid) = b_aid at *;generalize decide (x.2.dom = y.2.dom) = b_dom at *;obtain ⟨a1,c1,e1,-⟩:=hx.sa
 obtain ⟨a2,c2,e2,-⟩:=hx.sd;obtain ⟨a3,c3,e3,-⟩:=hy.sa;obtain ⟨a4,c4,e4,-⟩:=hy.sd;clear hx hy l1 l2 l3 l4;obtain ⟨⟨u1,v1⟩,⟨k1,s1,f1,p1,n1,o1,i1,d1⟩⟩:=x;obtain ⟨⟨u2,v2⟩,⟨k2,s2,f2,p2,n2,o2,i2,d2⟩⟩:=y;unfold exCells;dsimp only at *;subst e1 e2 e3 e4;have q_kind:(k1 == k2) = decide (k1 = k2):=by by_cases hq:k1 = k2 <;> simp [hq]
 generalize decide (k1 = k2) = b_kind at *;have q_st:(s1 == s2) = decide (s1 = s2):=by by_cases hq:s1 = s2 <;> simp [hq]
 generalize decide (s1 = s2) = b_st at *;have q_bf:(f1 == f2) = decide (f1 = f2):=by by_cases hq:f1 = f2 <;> simp [hq]
 generalize decide (f1 = f2) = b_bf at *;have q_pr:(p1 == p2) = decide (p1 = p2):=by by_cases hq:p1 = p2 <;> simp [hq]
 generalize decide (p1 = p2) = b_pr at *;have q_pk:(n1 == n2) = decide (n1 = n2):=by by_cases hq:n1 = n2 <;> simp [hq]
 generalize decide (n1 = n2) = b_pk at *;have q_ob:(o1 == o2) = decide (o1 = o2):=by by_cases hq:o1 = o2 <;> simp [hq]
 generalize decide (o1 = o2) = b_ob at *;generalize i1.length = L1 at *;generalize d1.length = L2 at *;generalize i2.length = L3 at *;generalize d2.length = L4 at *;have hm2:=m2z w [.slice a1 L1 c1,.int .i64 k1,.int .i64 s1,.int .i64 f1,.int .i64 p1,.slice a2 L2 c2,.int .i64 n1,.int .i64 o1] [.slice a3 L3 c3,.int .i64 k2,.int .i64 s2,.int .i64 f2,.int .i64 p2,.slice a4 L4 c4,.int .i64 n2,.int .i64 o2] 24 24;have hB:=blk_b (w:=w) [.slice a1 L1 c1,.int .i64 k1,.int .i64 s1,.int .i64 f1,.int .i64 p1,.slice a2 L2 c2,.int .i64 n1,.int .i64 o1] [.slice a3 L3 c3,.int .i64 k2,.int .i64 s2,.int .i64 f2,.int .i64 p2,.slice a4 L4 c4,.int .i64 n2,.int .i64 o2] 24 24
 have hF:∀ W,Mod Nowhere ((w.alloc (.cells [.slice a1 L1 c1,.int .i64 k1,.int .i64 s1,.int .i64 f1,.int .i64 p1,.slice a2 L2 c2,.int .i64 n1,.int .i64 o1].toArray 24)).alloc (.cells [.slice a3 L3 c3,.int .i64 k2,.int .i64 s2,.int .i64 f2,.int .i64 p2,.slice a4 L4 c4,.int .i64 n2,.int .i64 o2].toArray 24)) W→W.cell? ⟨w.heap.size,0,none⟩ = some (.slice a1 L1 c1)∧W.cell? ⟨w.heap.size,1,none⟩ = some (.int .i64 k1)∧W.cell? ⟨w.heap.size,2,none⟩ = some (.int .i64 s1)∧W.cell? ⟨w.heap.size,3,none⟩ = some (.int .i64 f1)∧W.cell? ⟨w.heap.size,4,none⟩ = some (.int .i64 p1)∧W.cell? ⟨w.heap.size,5,none⟩ = some (.slice a2 L2 c2)∧W.cell? ⟨w.heap.size,6,none⟩ = some (.int .i64 n1)∧W.cell? ⟨w.heap.size,7,none⟩ = some (.int .i64 o1)∧W.cell? ⟨w.heap.size + 1,0,none⟩ = some (.slice a3 L3 c3)∧W.cell? ⟨w.heap.size + 1,1,none⟩ = some (.int .i64 k2)∧W.cell? ⟨w.heap.size + 1,2,none⟩ = some (.int .i64 s2)∧W.cell? ⟨w.heap.size + 1,3,none⟩ = some (.int .i64 f2)∧W.cell? ⟨w.heap.size + 1,4,none⟩ = some (.int .i64 p2)∧W.cell? ⟨w.heap.size + 1,5,none⟩ = some (.slice a4 L4 c4)∧W.cell? ⟨w.heap.size + 1,6,none⟩ = some (.int .i64 n2)∧W.cell? ⟨w.heap.size + 1,7,none⟩ = some (.int .i64 o2):=fun W hm=>by
  obtain ⟨X,Y⟩:=hB W hm;exact ⟨X.cell 0,X.cell 1,X.cell 2,X.cell 3,X.cell 4,X.cell 5,X.cell 6,X.cell 7,Y.cell 0,Y.cell 1,Y.cell 2,Y.cell 3,Y.cell 4,Y.cell 5,Y.cell 6,Y.cell 7⟩
 clear hB;refine hid4 ?_ hE1 hE2 hm2 hF;clear hE1 hE2 hm2 hF;intro hE1 hE2 hm2 hF;go_enter Tryz.func14,Tryz.ntmps14;go_wp2_with fail;refine (hE1.out _ hm2.out).mono ?_;rintro e w1 ⟨rfl,hm1⟩;obtain ⟨x0,x1,x2,x3,x4,x5,x6,x7,y0,y1,y2,y3,y4,y5,y6,y7⟩:=hF.out w1 hm1;have hw1:=hm2.out.trans hm1;refine hid2 ?_ hm1 hw1;clear hm1 hw1;intro hm1 hw1
 cases b_aid
 ·go_wp2;go_ret;exact ⟨Za (by simp),hw1.out⟩
 cases b_kind
 ·go_wp2;go_ret;exact ⟨Za (by simp),hw1.out⟩
 cases b_st
 ·go_wp2;go_ret;exact ⟨Za (by simp),hw1.out⟩
 cases b_bf
 ·go_wp2;go_ret;exact ⟨Za (by simp),hw1.out⟩
 cases b_pr
 ·go_wp2;go_ret;exact ⟨Za (by simp),hw1.out⟩
 have hE3:=hE2.out w1 hw1.out;replace hE3:=Lib.hid hE3;go_wp2_with fail;refine hE3.out.mono ?_;rintro e w2 ⟨rfl,hm2b⟩;clear x0 x1 x2 x3 x4 x5 x6 x7 y0 y1 y2 y3 y4 y5 y6 y7;obtain ⟨x0,x1,x2,x3,x4,x5,x6,x7,y0,y1,y2,y3,y4,y5,y6,y7⟩:=hF.out w2 (hm1.out.trans hm2b);have hw2:=hw1.out.trans hm2b;refine hid2 ?_ hm2b hw2;clear hm2b hw2;intro hm2b hw2
 cases b_dom
 ·go_wp2;go_ret;exact ⟨Za (by simp),hw2.out⟩
 cases b_pk
 ·go_wp2;go_ret;exact ⟨Za (by simp),hw2.out⟩
 cases b_ob
 ·go_wp2;go_ret;exact ⟨Za (by simp),hw2.out⟩
 go_wp2;go_ret;exact ⟨Za (by simp),hw2.out⟩
end Go.Proofs.YthmahbfmfpjjcaaGreat
/-
 The registry: Check of the reference.
-/
namespace Go.Proofs.YthmahbfmfpjjcaaGreat
open Go.RowKit
open Jn Vn Rg
attribute [local go_sem] Oper.semAt_some
theorem Zbi (w:World) (a:Option Addr) (n c:Nat):Calls Tryz.prog 40 #[.slice a n c] w fun e w'=>e = .returned (.bool (decide (5≤n) && decide (n≤16)))∧w' = w:=by
 by_cases h1:5≤n
 ·have h1':(5:Int)≤(n:Int):=by omega
  by_cases h2:n≤16
  ·have h2':(n:Int)≤16:=by omega
   go_enter Tryz.func40,Tryz.ntmps40;go_wp2;go_ret;exact ⟨Za (by simp [h1,h2]),rfl⟩
  ·have h2':¬ (n:Int)≤16:=by omega
   go_enter Tryz.func40,Tryz.ntmps40;go_wp2;go_ret;exact ⟨Za (by simp [h1,h2]),rfl⟩
 ·have h1':¬ (5:Int)≤(n:Int):=by omega
  go_enter Tryz.func40,Tryz.ntmps40;go_wp2;go_ret;exact ⟨Za (by simp [h1]),rfl⟩
theorem Rg.ROk.z {k st bf pr pk ob:Int} {aid dom:List Nat} (h:ROk ⟨k,st,bf,pr,pk,ob,aid,dom⟩):1≤k∧k≤3∧5≤aid.length∧aid.length≤16∧5≤dom.length∧dom.length≤16∧(k = 3→st = 1)∧(k ≠ 3→2≤st∧st≤5)∧(st = 5→2≤bf∧bf≤4)∧(st ≠ 5→bf = 0)∧0≤pr∧pr≤31∧(k = 3→pr = 0)∧(k = 1→pk = 0)∧(k ≠ 1→1≤pk∧pk≤16)∧(k = 2→1≤ob∧ob≤512)∧(k ≠ 2→ob = 0) :=
 ⟨h.k1,h.k3,h.a5,h.a16,h.d5,h.d16,h.sp,h.sn,h.bl,h.bn,h.p0,h.p31,h.pp,h.nd,h.nn,h.oa,h.on⟩
structure ChkR (R:Ending→World→Prop) (w:World) (e:REn):Prop where
 no:¬ ROk e→∀ W,Mod Nowhere w W→R (.returned (errno 1)) W
 yes:ROk e→∀ W,Mod Nowhere w W→R (.returned (errno 0)) W
structure ChkC (w:World) (ua va:Option Addr) (uc vc:Nat) (aid dom:List Nat) (i1 i2 q:Bool):Prop where
 c1:∀ W,Calls Tryz.prog 40 #[.slice ua aid.length uc] W fun e w'=>e = .returned (.bool i1)∧w' = W
 c2:∀ W,Calls Tryz.prog 40 #[.slice va dom.length vc] W fun e w'=>e = .returned (.bool i2)∧w' = W
 cq:∀ W,Mod Nowhere w W→Calls Tryz.prog 41 #[.slice ua aid.length uc,.slice va dom.length vc] W fun r w'=>r = .returned (.bool q)∧Mod Nowhere W w'
 h1:i1 = true ↔ 5≤aid.length∧aid.length≤16
 h2:i2 = true ↔ 5≤dom.length∧dom.length≤16
 hq:q = true ↔ aid = dom
theorem Zfy {w:World} {ua va:Option Addr} {uc vc:Nat} {aid dom:List Nat} {i1 i2 q:Bool} {bf pr pk ob:Int} {R:Ending→World→Prop} (hC:ChkC w ua va uc vc aid dom i1 i2 q) (hR:ChkR R w ⟨1,5,bf,pr,pk,ob,aid,dom⟩) :
  Calls Tryz.prog 12 #[.agg (eCells (.slice ua aid.length uc) (.slice va dom.length vc) ⟨1,5,bf,pr,pk,ob,aid,dom⟩).toArray] w R:=by
 obtain ⟨hI1,hI2,hS,g1,g2,gq⟩:=hC;obtain ⟨hno,hyes⟩:=hR;unfold eCells;dsimp only;generalize hn:aid.length = n at *;generalize hm:dom.length = m at *;have hm0:=m1 w [.slice ua n uc,.int .i64 1,.int .i64 5,.int .i64 bf,.int .i64 pr,.slice va m vc,.int .i64 pk,.int .i64 ob] 24;have hS0:=hS _ hm0;refine hid11 ?_ hI1 hI2 hS0 g1 g2 gq hno hyes hn hm hm0;clear hI1 hI2 hS0 g1 g2 gq hno hyes hn hm hm0;intro hI1 hI2 hS0 g1 g2 gq hno hyes hn hm hm0;clear hS;go_enter Tryz.func12,Tryz.ntmps12;go_wp2_with fail;refine (hI1.out _).mono ?_;rintro e w1 ⟨rfl,rfl⟩
 cases i1
 ·have hfin:=hno.out (fun h=>by have zz:=h.z;have hn9:=hn.out;have g19:=g1.out;simp only [Bool.false_eq_true,false_iff] at g19;omega) _ hm0.out;replace hfin:=Lib.hid hfin;go_wp2
  all_goals exact hfin.out
 go_wp2_with fail;refine (hI2.out _).mono ?_;rintro e w1 ⟨rfl,rfl⟩
 cases i2
 ·have hfin:=hno.out (fun h=>by have zz:=h.z;have hm9:=hm.out;have g29:=g2.out;simp only [Bool.false_eq_true,false_iff] at g29;omega) _ hm0.out;replace hfin:=Lib.hid hfin;go_wp2
  all_goals exact hfin.out
 go_upto_region 3 with (fail)
 go_upto_region 5 with (fail)
 by_cases e3:bf < 2
 ·have hfin:=hno.out (fun h=>by have zz:=h.z;omega) _ hm0.out;replace hfin:=Lib.hid hfin;go_wp2
  all_goals exact hfin.out
 by_cases e4:4 < bf
 ·have hfin:=hno.out (fun h=>by have zz:=h.z;omega) _ hm0.out;replace hfin:=Lib.hid hfin;go_wp2
  all_goals exact hfin.out
 go_upto_region 7 with (fail)
 by_cases e5:pr < 0
 ·have hfin:=hno.out (fun h=>by have zz:=h.z;omega) _ hm0.out;replace hfin:=Lib.hid hfin;go_wp2
  all_goals exact hfin.out
 by_cases e6:31 < pr
 ·have hfin:=hno.out (fun h=>by have zz:=h.z;omega) _ hm0.out;replace hfin:=Lib.hid hfin;go_wp2
  all_goals exact hfin.out
 go_upto_region 9 with (fail)
 by_cases e7:pk = 0
 rotate_left
 ·have e7a:(pk != 0) = true:=by simp [e7]
  replace e7:=Lib.hid e7;have hfin:=hno.out (fun h=>by have zz:=h.z;have zq:=e7.out;omega) _ hm0.out;replace hfin:=Lib.hid hfin;go_wp2
  all_goals exact hfin.out
 subst e7
 go_upto_region 11 with (fail)
 by_cases e9:ob = 0
 rotate_left
 ·have e9a:(ob != 0) = true:=by simp [e9]
  replace e9:=Lib.hid e9;have hfin:=hno.out (fun h=>by have zz:=h.z;have zq:=e9.out;omega) _ hm0.out;replace hfin:=Lib.hid hfin;go_wp2
  all_goals exact hfin.out
 subst e9
 go_upto_region 13 with (fail)
 have hfin:=hyes.out (by have g19:=g1.out.1 trivial;have g29:=g2.out.1 trivial;have hn9:=hn.out;have hm9:=hm.out;exact ⟨by show (1:Int)≤1;omega,by show (1:Int)≤3;omega,by show 5≤aid.length;omega,by show aid.length≤16;omega,by show 5≤dom.length;omega,by show dom.length≤16;omega,fun z=>by dsimp only at z ⊢ <;> omega,fun z=>by dsimp only at z ⊢ <;> omega,fun z=>by dsimp only at z ⊢ <;> omega,fun z=>by dsimp only at z ⊢ <;> omega,by dsimp only <;> omega,by dsimp only <;> omega,fun z=>by dsimp only at z ⊢ <;> omega,fun z=>by dsimp only at z ⊢ <;> omega,fun z=>by dsimp only at z ⊢ <;> omega,fun z=>by dsimp only at z ⊢ <;> omega,fun z=>by dsimp only at z ⊢ <;> omega,fun z=>absurd rfl z⟩) _ hm0.out;replace hfin:=Lib.hid hfin
 go_wp2;exact hfin.out
theorem Zfz {w:World} {ua va:Option Addr} {uc vc:Nat} {aid dom:List Nat} {i1 i2 q:Bool} {st bf pr pk ob:Int} {R:Ending→World→Prop} (hC:ChkC w ua va uc vc aid dom i1 i2 q) (hR:ChkR R w ⟨1,st,bf,pr,pk,ob,aid,dom⟩) (hst:¬ st = 5) :
  Calls Tryz.prog 12 #[.agg (eCells (.slice ua aid.length uc) (.slice va dom.length vc) ⟨1,st,bf,pr,pk,ob,aid,dom⟩).toArray] w R:=by
 obtain ⟨hI1,hI2,hS,g1,g2,gq⟩:=hC;obtain ⟨hno,hyes⟩:=hR;unfold eCells;dsimp only;generalize hn:aid.length = n at *;generalize hm:dom.length = m at *;have hm0:=m1 w [.slice ua n uc,.int .i64 1,.int .i64 st,.int .i64 bf,.int .i64 pr,.slice va m vc,.int .i64 pk,.int .i64 ob] 24;have hS0:=hS _ hm0;have s5a:(st == 5) = false:=by simp [hst]
 have s5b:(st != 5) = true:=by simp [hst]
 refine hid12 ?_ hI1 hI2 hS0 g1 g2 gq hno hyes hn hm hm0 hst;clear hI1 hI2 hS0 g1 g2 gq hno hyes hn hm hm0 hst;intro hI1 hI2 hS0 g1 g2 gq hno hyes hn hm hm0 hst;clear hS;go_enter Tryz.func12,Tryz.ntmps12;go_wp2_with fail;refine (hI1.out _).mono ?_;rintro e w1 ⟨rfl,rfl⟩
 cases i1
 ·have hfin:=hno.out (fun h=>by have zz:=h.z;have hn9:=hn.out;have g19:=g1.out;simp only [Bool.false_eq_true,false_iff] at g19;omega) _ hm0.out;replace hfin:=Lib.hid hfin;go_wp2
  all_goals exact hfin.out
 go_wp2_with fail;refine (hI2.out _).mono ?_;rintro e w1 ⟨rfl,rfl⟩
 cases i2
 ·have hfin:=hno.out (fun h=>by have zz:=h.z;have hm9:=hm.out;have g29:=g2.out;simp only [Bool.false_eq_true,false_iff] at g29;omega) _ hm0.out;replace hfin:=Lib.hid hfin;go_wp2
  all_goals exact hfin.out
 go_upto_region 3 with (fail)
 by_cases e1:st < 2
 ·have hfin:=hno.out (fun h=>by have zz:=h.z;have hst9:=hst.out;omega) _ hm0.out;replace hfin:=Lib.hid hfin;go_wp2
  all_goals exact hfin.out
 by_cases e2:5 < st
 ·have hfin:=hno.out (fun h=>by have zz:=h.z;have hst9:=hst.out;omega) _ hm0.out;replace hfin:=Lib.hid hfin;go_wp2
  all_goals exact hfin.out
 go_upto_region 5 with (fail)
 by_cases e3:bf = 0
 rotate_left
 ·have e3a:(bf != 0) = true:=by simp [e3]
  replace e3:=Lib.hid e3;have hfin:=hno.out (fun h=>by have zz:=h.z;have hst9:=hst.out;have zq:=e3.out;omega) _ hm0.out;replace hfin:=Lib.hid hfin;go_wp2
  all_goals exact hfin.out
 subst e3
 go_upto_region 7 with (fail)
 by_cases e5:pr < 0
 ·have hfin:=hno.out (fun h=>by have zz:=h.z;have hst9:=hst.out;omega) _ hm0.out;replace hfin:=Lib.hid hfin;go_wp2
  all_goals exact hfin.out
 by_cases e6:31 < pr
 ·have hfin:=hno.out (fun h=>by have zz:=h.z;have hst9:=hst.out;omega) _ hm0.out;replace hfin:=Lib.hid hfin;go_wp2
  all_goals exact hfin.out
 go_upto_region 9 with (fail)
 by_cases e7:pk = 0
 rotate_left
 ·have e7a:(pk != 0) = true:=by simp [e7]
  replace e7:=Lib.hid e7;have hfin:=hno.out (fun h=>by have zz:=h.z;have hst9:=hst.out;have zq:=e7.out;omega) _ hm0.out;replace hfin:=Lib.hid hfin;go_wp2
  all_goals exact hfin.out
 subst e7
 go_upto_region 11 with (fail)
 by_cases e9:ob = 0
 rotate_left
 ·have e9a:(ob != 0) = true:=by simp [e9]
  replace e9:=Lib.hid e9;have hfin:=hno.out (fun h=>by have zz:=h.z;have hst9:=hst.out;have zq:=e9.out;omega) _ hm0.out;replace hfin:=Lib.hid hfin;go_wp2
  all_goals exact hfin.out
 subst e9
 go_upto_region 13 with (fail)
 have hfin:=hyes.out (by have g19:=g1.out.1 trivial;have g29:=g2.out.1 trivial;have hn9:=hn.out;have hm9:=hm.out;have hst9:=hst.out;exact ⟨by show (1:Int)≤1;omega,by show (1:Int)≤3;omega,by show 5≤aid.length;omega,by show aid.length≤16;omega,by show 5≤dom.length;omega,by show dom.length≤16;omega,fun z=>by dsimp only at z ⊢ <;> omega,fun z=>by dsimp only at z ⊢ <;> omega,fun z=>by dsimp only at z ⊢ <;> omega,fun z=>by dsimp only at z ⊢ <;> omega,by dsimp only <;> omega,by dsimp only <;> omega,fun z=>by dsimp only at z ⊢ <;> omega,fun z=>by dsimp only at z ⊢ <;> omega,fun z=>by dsimp only at z ⊢ <;> omega,fun z=>by dsimp only at z ⊢ <;> omega,fun z=>by dsimp only at z ⊢ <;> omega,fun z=>absurd rfl z⟩) _ hm0.out;replace hfin:=Lib.hid hfin
 go_wp2;exact hfin.out
theorem ZfA {w:World} {ua va:Option Addr} {uc vc:Nat} {aid dom:List Nat} {i1 i2 q:Bool} {bf pr pk ob:Int} {R:Ending→World→Prop} (hC:ChkC w ua va uc vc aid dom i1 i2 q) (hR:ChkR R w ⟨2,5,bf,pr,pk,ob,aid,dom⟩) :
  Calls Tryz.prog 12 #[.agg (eCells (.slice ua aid.length uc) (.slice va dom.length vc) ⟨2,5,bf,pr,pk,ob,aid,dom⟩).toArray] w R:=by
 obtain ⟨hI1,hI2,hS,g1,g2,gq⟩:=hC;obtain ⟨hno,hyes⟩:=hR;unfold eCells;dsimp only;generalize hn:aid.length = n at *;generalize hm:dom.length = m at *;have hm0:=m1 w [.slice ua n uc,.int .i64 2,.int .i64 5,.int .i64 bf,.int .i64 pr,.slice va m vc,.int .i64 pk,.int .i64 ob] 24;have hS0:=hS _ hm0;refine hid11 ?_ hI1 hI2 hS0 g1 g2 gq hno hyes hn hm hm0;clear hI1 hI2 hS0 g1 g2 gq hno hyes hn hm hm0;intro hI1 hI2 hS0 g1 g2 gq hno hyes hn hm hm0;clear hS;go_enter Tryz.func12,Tryz.ntmps12;go_wp2_with fail;refine (hI1.out _).mono ?_;rintro e w1 ⟨rfl,rfl⟩
 cases i1
 ·have hfin:=hno.out (fun h=>by have zz:=h.z;have hn9:=hn.out;have g19:=g1.out;simp only [Bool.false_eq_true,false_iff] at g19;omega) _ hm0.out;replace hfin:=Lib.hid hfin;go_wp2
  all_goals exact hfin.out
 go_wp2_with fail;refine (hI2.out _).mono ?_;rintro e w1 ⟨rfl,rfl⟩
 cases i2
 ·have hfin:=hno.out (fun h=>by have zz:=h.z;have hm9:=hm.out;have g29:=g2.out;simp only [Bool.false_eq_true,false_iff] at g29;omega) _ hm0.out;replace hfin:=Lib.hid hfin;go_wp2
  all_goals exact hfin.out
 go_upto_region 3 with (fail)
 go_upto_region 5 with (fail)
 by_cases e3:bf < 2
 ·have hfin:=hno.out (fun h=>by have zz:=h.z;omega) _ hm0.out;replace hfin:=Lib.hid hfin;go_wp2
  all_goals exact hfin.out
 by_cases e4:4 < bf
 ·have hfin:=hno.out (fun h=>by have zz:=h.z;omega) _ hm0.out;replace hfin:=Lib.hid hfin;go_wp2
  all_goals exact hfin.out
 go_upto_region 7 with (fail)
 by_cases e5:pr < 0
 ·have hfin:=hno.out (fun h=>by have zz:=h.z;omega) _ hm0.out;replace hfin:=Lib.hid hfin;go_wp2
  all_goals exact hfin.out
 by_cases e6:31 < pr
 ·have hfin:=hno.out (fun h=>by have zz:=h.z;omega) _ hm0.out;replace hfin:=Lib.hid hfin;go_wp2
  all_goals exact hfin.out
 go_upto_region 9 with (fail)
 by_cases e7:pk < 1
 ·have hfin:=hno.out (fun h=>by have zz:=h.z;omega) _ hm0.out;replace hfin:=Lib.hid hfin;go_wp2
  all_goals exact hfin.out
 by_cases e8:16 < pk
 ·have hfin:=hno.out (fun h=>by have zz:=h.z;omega) _ hm0.out;replace hfin:=Lib.hid hfin;go_wp2
  all_goals exact hfin.out
 go_upto_region 11 with (fail)
 by_cases e9:ob < 1
 ·have hfin:=hno.out (fun h=>by have zz:=h.z;omega) _ hm0.out;replace hfin:=Lib.hid hfin;go_wp2
  all_goals exact hfin.out
 by_cases ea:512 < ob
 ·have hfin:=hno.out (fun h=>by have zz:=h.z;omega) _ hm0.out;replace hfin:=Lib.hid hfin;go_wp2
  all_goals exact hfin.out
 go_upto_region 13 with (fail)
 go_wp2_with fail;refine (hS0.out).mono ?_;rintro e w1 ⟨rfl,hm1⟩
 cases q
 ·have hfin:=hyes.out (by have g19:=g1.out.1 trivial;have g29:=g2.out.1 trivial;have hn9:=hn.out;have hm9:=hm.out;exact ⟨by show (1:Int)≤2;omega,by show (2:Int)≤3;omega,by show 5≤aid.length;omega,by show aid.length≤16;omega,by show 5≤dom.length;omega,by show dom.length≤16;omega,fun z=>by dsimp only at z ⊢ <;> omega,fun z=>by dsimp only at z ⊢ <;> omega,fun z=>by dsimp only at z ⊢ <;> omega,fun z=>by dsimp only at z ⊢ <;> omega,by dsimp only <;> omega,by dsimp only <;> omega,fun z=>by dsimp only at z ⊢ <;> omega,fun z=>by dsimp only at z ⊢ <;> omega,fun z=>by dsimp only at z ⊢ <;> omega,fun z=>by dsimp only at z ⊢ <;> omega,fun z=>by dsimp only at z ⊢ <;> omega,fun _ z=>by have:=gq.out.2 z;cases this⟩) _ (hm0.out.trans hm1);refine hid2 ?_ hfin hm1;clear hfin hm1;intro hfin hm1
  go_wp2;exact hfin.out
 ·have hfin:=hno.out (fun h=>h.ne (by show (2:Int) ≠ 1;decide) (gq.out.1 rfl)) _ (hm0.out.trans hm1);refine hid2 ?_ hfin hm1;clear hfin hm1;intro hfin hm1;go_wp2;exact hfin.out
theorem ZfB {w:World} {ua va:Option Addr} {uc vc:Nat} {aid dom:List Nat} {i1 i2 q:Bool} {st bf pr pk ob:Int} {R:Ending→World→Prop} (hC:ChkC w ua va uc vc aid dom i1 i2 q) (hR:ChkR R w ⟨2,st,bf,pr,pk,ob,aid,dom⟩) (hst:¬ st = 5) :
  Calls Tryz.prog 12 #[.agg (eCells (.slice ua aid.length uc) (.slice va dom.length vc) ⟨2,st,bf,pr,pk,ob,aid,dom⟩).toArray] w R:=by
 obtain ⟨hI1,hI2,hS,g1,g2,gq⟩:=hC;obtain ⟨hno,hyes⟩:=hR;unfold eCells;dsimp only;generalize hn:aid.length = n at *;generalize hm:dom.length = m at *;have hm0:=m1 w [.slice ua n uc,.int .i64 2,.int .i64 st,.int .i64 bf,.int .i64 pr,.slice va m vc,.int .i64 pk,.int .i64 ob] 24;have hS0:=hS _ hm0;have s5a:(st == 5) = false:=by simp [hst]
 have s5b:(st != 5) = true:=by simp [hst]
 refine hid12 ?_ hI1 hI2 hS0 g1 g2 gq hno hyes hn hm hm0 hst;clear hI1 hI2 hS0 g1 g2 gq hno hyes hn hm hm0 hst;intro hI1 hI2 hS0 g1 g2 gq hno hyes hn hm hm0 hst;clear hS;go_enter Tryz.func12,Tryz.ntmps12;go_wp2_with fail;refine (hI1.out _).mono ?_;rintro e w1 ⟨rfl,rfl⟩
 cases i1
 ·have hfin:=hno.out (fun h=>by have zz:=h.z;have hn9:=hn.out;have g19:=g1.out;simp only [Bool.false_eq_true,false_iff] at g19;omega) _ hm0.out;replace hfin:=Lib.hid hfin;go_wp2
  all_goals exact hfin.out
 go_wp2_with fail;refine (hI2.out _).mono ?_;rintro e w1 ⟨rfl,rfl⟩
 cases i2
 ·have hfin:=hno.out (fun h=>by have zz:=h.z;have hm9:=hm.out;have g29:=g2.out;simp only [Bool.false_eq_true,false_iff] at g29;omega) _ hm0.out;replace hfin:=Lib.hid hfin;go_wp2
  all_goals exact hfin.out
 go_upto_region 3 with (fail)
 by_cases e1:st < 2
 ·have hfin:=hno.out (fun h=>by have zz:=h.z;have hst9:=hst.out;omega) _ hm0.out;replace hfin:=Lib.hid hfin;go_wp2
  all_goals exact hfin.out
 by_cases e2:5 < st
 ·have hfin:=hno.out (fun h=>by have zz:=h.z;have hst9:=hst.out;omega) _ hm0.out;replace hfin:=Lib.hid hfin;go_wp2
  all_goals exact hfin.out
 go_upto_region 5 with (fail)
 by_cases e3:bf = 0
 rotate_left
 ·have e3a:(bf != 0) = true:=by simp [e3]
  replace e3:=Lib.hid e3;have hfin:=hno.out (fun h=>by have zz:=h.z;have hst9:=hst.out;have zq:=e3.out;omega) _ hm0.out;replace hfin:=Lib.hid hfin;go_wp2
  all_goals exact hfin.out
 subst e3
 go_upto_region 7 with (fail)
 by_cases e5:pr < 0
 ·have hfin:=hno.out (fun h=>by have zz:=h.z;have hst9:=hst.out;omega) _ hm0.out;replace hfin:=Lib.hid hfin;go_wp2
  all_goals exact hfin.out
 by_cases e6:31 < pr
 ·have hfin:=hno.out (fun h=>by have zz:=h.z;have hst9:=hst.out;omega) _ hm0.out;replace hfin:=Lib.hid hfin;go_wp2
  all_goals exact hfin.out
 go_upto_region 9 with (fail)
 by_cases e7:pk < 1
 ·have hfin:=hno.out (fun h=>by have zz:=h.z;have hst9:=hst.out;omega) _ hm0.out;replace hfin:=Lib.hid hfin;go_wp2
  all_goals exact hfin.out
 by_cases e8:16 < pk
 ·have hfin:=hno.out (fun h=>by have zz:=h.z;have hst9:=hst.out;omega) _ hm0.out;replace hfin:=Lib.hid hfin;go_wp2
  all_goals exact hfin.out
 go_upto_region 11 with (fail)
 by_cases e9:ob < 1
 ·have hfin:=hno.out (fun h=>by have zz:=h.z;have hst9:=hst.out;omega) _ hm0.out;replace hfin:=Lib.hid hfin;go_wp2
  all_goals exact hfin.out
 by_cases ea:512 < ob
 ·have hfin:=hno.out (fun h=>by have zz:=h.z;have hst9:=hst.out;omega) _ hm0.out;replace hfin:=Lib.hid hfin;go_wp2
  all_goals exact hfin.out
 go_upto_region 13 with (fail)
 go_wp2_with fail;refine (hS0.out).mono ?_;rintro e w1 ⟨rfl,hm1⟩
 cases q
 ·have hfin:=hyes.out (by have g19:=g1.out.1 trivial;have g29:=g2.out.1 trivial;have hn9:=hn.out;have hm9:=hm.out;have hst9:=hst.out;exact ⟨by show (1:Int)≤2;omega,by show (2:Int)≤3;omega,by show 5≤aid.length;omega,by show aid.length≤16;omega,by show 5≤dom.length;omega,by show dom.length≤16;omega,fun z=>by dsimp only at z ⊢ <;> omega,fun z=>by dsimp only at z ⊢ <;> omega,fun z=>by dsimp only at z ⊢ <;> omega,fun z=>by dsimp only at z ⊢ <;> omega,by dsimp only <;> omega,by dsimp only <;> omega,fun z=>by dsimp only at z ⊢ <;> omega,fun z=>by dsimp only at z ⊢ <;> omega,fun z=>by dsimp only at z ⊢ <;> omega,fun z=>by dsimp only at z ⊢ <;> omega,fun z=>by dsimp only at z ⊢ <;> omega,fun _ z=>by have:=gq.out.2 z;cases this⟩) _ (hm0.out.trans hm1);refine hid2 ?_ hfin hm1;clear hfin hm1;intro hfin hm1
  go_wp2;exact hfin.out
 ·have hfin:=hno.out (fun h=>h.ne (by show (2:Int) ≠ 1;decide) (gq.out.1 rfl)) _ (hm0.out.trans hm1);refine hid2 ?_ hfin hm1;clear hfin hm1;intro hfin hm1;go_wp2;exact hfin.out
theorem ZfC {w:World} {ua va:Option Addr} {uc vc:Nat} {aid dom:List Nat} {i1 i2 q:Bool} {st bf pr pk ob:Int} {R:Ending→World→Prop} (hC:ChkC w ua va uc vc aid dom i1 i2 q) (hR:ChkR R w ⟨3,st,bf,pr,pk,ob,aid,dom⟩) :
  Calls Tryz.prog 12 #[.agg (eCells (.slice ua aid.length uc) (.slice va dom.length vc) ⟨3,st,bf,pr,pk,ob,aid,dom⟩).toArray] w R:=by
 obtain ⟨hI1,hI2,hS,g1,g2,gq⟩:=hC;obtain ⟨hno,hyes⟩:=hR;unfold eCells;dsimp only;generalize hn:aid.length = n at *;generalize hm:dom.length = m at *;have hm0:=m1 w [.slice ua n uc,.int .i64 3,.int .i64 st,.int .i64 bf,.int .i64 pr,.slice va m vc,.int .i64 pk,.int .i64 ob] 24;have hS0:=hS _ hm0;refine hid11 ?_ hI1 hI2 hS0 g1 g2 gq hno hyes hn hm hm0;clear hI1 hI2 hS0 g1 g2 gq hno hyes hn hm hm0;intro hI1 hI2 hS0 g1 g2 gq hno hyes hn hm hm0;clear hS;go_enter Tryz.func12,Tryz.ntmps12;go_wp2_with fail;refine (hI1.out _).mono ?_;rintro e w1 ⟨rfl,rfl⟩
 cases i1
 ·have hfin:=hno.out (fun h=>by have zz:=h.z;have hn9:=hn.out;have g19:=g1.out;simp only [Bool.false_eq_true,false_iff] at g19;omega) _ hm0.out;replace hfin:=Lib.hid hfin;go_wp2
  all_goals exact hfin.out
 go_wp2_with fail;refine (hI2.out _).mono ?_;rintro e w1 ⟨rfl,rfl⟩
 cases i2
 ·have hfin:=hno.out (fun h=>by have zz:=h.z;have hm9:=hm.out;have g29:=g2.out;simp only [Bool.false_eq_true,false_iff] at g29;omega) _ hm0.out;replace hfin:=Lib.hid hfin;go_wp2
  all_goals exact hfin.out
 go_upto_region 3 with (fail)
 by_cases e1:st = 1
 rotate_left
 ·have e1a:(st != 1) = true:=by simp [e1]
  replace e1:=Lib.hid e1;have hfin:=hno.out (fun h=>by have zz:=h.z;have zq:=e1.out;omega) _ hm0.out;replace hfin:=Lib.hid hfin;go_wp2
  all_goals exact hfin.out
 subst e1
 go_upto_region 5 with (fail)
 by_cases e3:bf = 0
 rotate_left
 ·have e3a:(bf != 0) = true:=by simp [e3]
  replace e3:=Lib.hid e3;have hfin:=hno.out (fun h=>by have zz:=h.z;have zq:=e3.out;omega) _ hm0.out;replace hfin:=Lib.hid hfin;go_wp2
  all_goals exact hfin.out
 subst e3
 go_upto_region 7 with (fail)
 by_cases e5:pr = 0
 rotate_left
 ·have e5a:(pr != 0) = true:=by simp [e5]
  replace e5:=Lib.hid e5;have hfin:=hno.out (fun h=>by have zz:=h.z;have zq:=e5.out;omega) _ hm0.out;replace hfin:=Lib.hid hfin;go_wp2
  all_goals exact hfin.out
 subst e5
 go_upto_region 9 with (fail)
 by_cases e7:pk < 1
 ·have hfin:=hno.out (fun h=>by have zz:=h.z;omega) _ hm0.out;replace hfin:=Lib.hid hfin;go_wp2
  all_goals exact hfin.out
 by_cases e8:16 < pk
 ·have hfin:=hno.out (fun h=>by have zz:=h.z;omega) _ hm0.out;replace hfin:=Lib.hid hfin;go_wp2
  all_goals exact hfin.out
 go_upto_region 11 with (fail)
 by_cases e9:ob = 0
 rotate_left
 ·have e9a:(ob != 0) = true:=by simp [e9]
  replace e9:=Lib.hid e9;have hfin:=hno.out (fun h=>by have zz:=h.z;have zq:=e9.out;omega) _ hm0.out;replace hfin:=Lib.hid hfin;go_wp2
  all_goals exact hfin.out
 subst e9
 go_upto_region 13 with (fail)
 go_wp2_with fail;refine (hS0.out).mono ?_;rintro e w1 ⟨rfl,hm1⟩
 cases q
 ·have hfin:=hyes.out (by have g19:=g1.out.1 trivial;have g29:=g2.out.1 trivial;have hn9:=hn.out;have hm9:=hm.out;exact ⟨by show (1:Int)≤3;omega,by show (3:Int)≤3;omega,by show 5≤aid.length;omega,by show aid.length≤16;omega,by show 5≤dom.length;omega,by show dom.length≤16;omega,fun z=>by dsimp only at z ⊢ <;> omega,fun z=>by dsimp only at z ⊢ <;> omega,fun z=>by dsimp only at z ⊢ <;> omega,fun z=>by dsimp only at z ⊢ <;> omega,by dsimp only <;> omega,by dsimp only <;> omega,fun z=>by dsimp only at z ⊢ <;> omega,fun z=>by dsimp only at z ⊢ <;> omega,fun z=>by dsimp only at z ⊢ <;> omega,fun z=>by dsimp only at z ⊢ <;> omega,fun z=>by dsimp only at z ⊢ <;> omega,fun _ z=>by have:=gq.out.2 z;cases this⟩) _ (hm0.out.trans hm1);refine hid2 ?_ hfin hm1;clear hfin hm1;intro hfin hm1
  go_wp2;exact hfin.out
 ·have hfin:=hno.out (fun h=>h.ne (by show (3:Int) ≠ 1;decide) (gq.out.1 rfl)) _ (hm0.out.trans hm1);refine hid2 ?_ hfin hm1;clear hfin hm1;intro hfin hm1;go_wp2;exact hfin.out
theorem ZfD {w:World} {ua va:Option Addr} {uc vc:Nat} {aid dom:List Nat} {i1 i2 q:Bool} {k st bf pr pk ob:Int} {R:Ending→World→Prop} (hC:ChkC w ua va uc vc aid dom i1 i2 q) (hR:ChkR R w ⟨k,st,bf,pr,pk,ob,aid,dom⟩) (hk:k < 1 ∨ 3 < k) :
  Calls Tryz.prog 12 #[.agg (eCells (.slice ua aid.length uc) (.slice va dom.length vc) ⟨k,st,bf,pr,pk,ob,aid,dom⟩).toArray] w R:=by
 have hno:∀ W,Mod Nowhere w W→R (.returned (errno 1)) W:=hR.no fun h=>by have zz:=h.z;omega
 have hI1:=hC.c1;have hI2:=hC.c2;clear hC hR;unfold eCells;dsimp only;generalize aid.length = n at *;generalize dom.length = m at *;have hm0:=m1 w [.slice ua n uc,.int .i64 k,.int .i64 st,.int .i64 bf,.int .i64 pr,.slice va m vc,.int .i64 pk,.int .i64 ob] 24;have hfin:=hno _ hm0;by_cases h1:k < 1
 ·refine hid6 ?_ hI1 hI2 hno hm0 hfin hk;clear hI1 hI2 hno hm0 hfin hk;intro hI1 hI2 hno hm0 hfin hk;go_enter Tryz.func12,Tryz.ntmps12;go_wp2_with fail;refine (hI1.out _).mono ?_;rintro e w1 ⟨rfl,rfl⟩
  cases i1
  ·go_wp2;exact hfin.out
  go_wp2_with fail;refine (hI2.out _).mono ?_;rintro e w1 ⟨rfl,rfl⟩
  cases i2
  ·go_wp2;exact hfin.out
  go_wp2;exact hfin.out
 ·have h2:3 < k:=by omega
  refine hid6 ?_ hI1 hI2 hno hm0 hfin hk;clear hI1 hI2 hno hm0 hfin hk;intro hI1 hI2 hno hm0 hfin hk;go_enter Tryz.func12,Tryz.ntmps12;go_wp2_with fail;refine (hI1.out _).mono ?_;rintro e w1 ⟨rfl,rfl⟩
  cases i1
  ·go_wp2;exact hfin.out
  go_wp2_with fail;refine (hI2.out _).mono ?_;rintro e w1 ⟨rfl,rfl⟩
  cases i2
  ·go_wp2;exact hfin.out
  go_wp2;exact hfin.out
theorem XR {w:World} {u v:Value} {e:REn} (h:InE w u v e) (l1:e.aid.length≤1000) (l2:e.dom.length≤1000) :
  Calls Tryz.prog 12 #[.agg (eCells u v e).toArray] w fun r w'=>r = .returned (errno (if rValid e = true then 0 else 1:Nat))∧Mod Nowhere w w':=by
 have hR:ChkR (fun r w'=>r = .returned (errno (if rValid e = true then 0 else 1:Nat))∧Mod Nowhere w w') w e :=
  ⟨fun hn W hm=>⟨by rw [if_neg (fun hv=>hn ((ZB e).1 hv))];rfl,hm⟩,fun hy W hm=>⟨by rw [if_pos ((ZB e).2 hy)];rfl,hm⟩⟩
 have hS:∀ W,Mod Nowhere w W→Calls Tryz.prog 41 #[u,v] W fun r w'=>r = .returned (.bool (decide (e.aid = e.dom)))∧Mod Nowhere W w':=fun W hm=>ZW (h.sa.fresh hm) (h.sd.fresh hm) h.ba h.bd (by omega) (by omega);obtain ⟨ua,uc,rfl,-⟩:=h.sa;obtain ⟨va,vc,rfl,-⟩:=h.sd;clear h l1 l2;generalize (fun r w'=>r = Ending.returned (errno (if rValid e = true then 0 else 1:Nat))∧Mod Nowhere w w') = R at *;obtain ⟨k,st,bf,pr,pk,ob,aid,dom⟩:=e;have hC:ChkC w ua va uc vc aid dom _ _ _:=⟨fun W=>Zbi W ua aid.length uc,fun W=>Zbi W va dom.length vc,hS,by simp,by simp,by simp⟩;by_cases k1:k = 1
 ·subst k1;by_cases s5:st = 5
  ·subst s5;exact Zfy hC hR
  ·exact Zfz hC hR s5
 by_cases k2:k = 2
 ·subst k2;by_cases s5:st = 5
  ·subst s5;exact ZfA hC hR
  ·exact ZfB hC hR s5
 by_cases k3:k = 3
 ·subst k3;exact ZfC hC hR
 exact ZfD hC hR (by omega)
end Go.Proofs.YthmahbfmfpjjcaaGreat
