/-
  The reference of the registry: an entry of an own list is replaced.
-/
import Derived.Test.YthmahbfmfpjjcaaGreatQH2
set_option linter.unusedVariables false
set_option linter.unusedSimpArgs false
set_option maxHeartbeats 8000000
set_option maxRecDepth 100000
namespace Go.Proofs.YthmahbfmfpjjcaaGreat
open Go.RowKit
open Jn Vn Rg
attribute [local go_sem] Oper.semAt_some
def setE (l:List Value) (o:Nat) (c:List Value):List Value:=((((((((l.set o (c.getD 0 default)).set (o + 1) (c.getD 1 default)).set (o + 2) (c.getD 2 default)).set (o + 3) (c.getD 3 default)).set (o + 4) (c.getD 4 default)).set (o + 5) (c.getD 5 default)).set (o + 6) (c.getD 6 default)).set (o + 7) (c.getD 7 default))
theorem Zg1 (a l:List Value) (o:Nat) (c:List Value) (h:a.length = 8):setE (a ++ l) (8 + o) c = a ++ setE l o c:=by
 unfold setE
 have hs:∀ (l:List Value) (j:Nat) (v:Value),(a ++ l).set (8 + j) v = a ++ l.set j v:=fun l j v=>by
  rw [List.set_append_right _ _ (by omega),h,Nat.add_sub_cancel_left]
 simp only [Nat.add_assoc,hs]
theorem X8:∀ (zs:List Ex) (k:Nat) (_:k < zs.length) (x:Ex),exsCells (zs.set k x) = setE (exsCells zs) (k * 8) (exCells x)
 | z :: zs,0,_,x=>by
  show exCells x ++ exsCells zs = setE (exCells z ++ exsCells zs) (0 * 8) (exCells x)
  rfl
 | z :: zs,k + 1,hk,x=>by
  show exCells z ++ exsCells (zs.set k x) = setE (exCells z ++ exsCells zs) ((k + 1) * 8) (exCells x)
  rw [X8 zs k (by simpa using hk) x,show (k + 1) * 8 = 8 + k * 8 by omega,Zg1 _ _ _ _ (ZV z)]
theorem ZbW (l:List Value) (o:Nat) (c:List Value):(setE l o c).length = l.length:=by unfold setE;simp only [List.length_set]
theorem Zg2 (l:List Value) (o n:Nat) (c:List Value):(setE l o c).take n = setE (l.take n) o c:=by unfold setE;simp only [List.take_set]
theorem e_set {w:World} {B n cap g:Nat} {zs:List Ex} (ho:EOwn w B (some ⟨g,0,none⟩) n cap zs) {k:Nat} (hk:k < zs.length) {x:Ex} (hx:ExD w x) {c0 c1 c2 c3 c4 c5 c6 c7:Value} (hc:exCells x = [c0,c1,c2,c3,c4,c5,c6,c7]) :
  ESl ((((((((w.setCell ⟨g,k * 8,none⟩ c0).setCell ⟨g,k * 8 + 1,none⟩ c1).setCell ⟨g,k * 8 + 2,none⟩ c2).setCell ⟨g,k * 8 + 3,none⟩ c3).setCell ⟨g,k * 8 + 4,none⟩ c4).setCell ⟨g,k * 8 + 5,none⟩ c5).setCell ⟨g,k * 8 + 6,none⟩ c6).setCell ⟨g,k * 8 + 7,none⟩ c7) (.slice (some ⟨g,0,none⟩) n cap) (zs.set k x) ∧
  Mod (Above B) w ((((((((w.setCell ⟨g,k * 8,none⟩ c0).setCell ⟨g,k * 8 + 1,none⟩ c1).setCell ⟨g,k * 8 + 2,none⟩ c2).setCell ⟨g,k * 8 + 3,none⟩ c3).setCell ⟨g,k * 8 + 4,none⟩ c4).setCell ⟨g,k * 8 + 5,none⟩ c5).setCell ⟨g,k * 8 + 6,none⟩ c6).setCell ⟨g,k * 8 + 7,none⟩ c7):=by
 obtain ⟨hn,⟨hl,hr⟩,hd⟩:=ho;rcases hr with ⟨e,_⟩ | ⟨g',cap',cur,e,hbg,hg,hnc,hcm,hcs,htake⟩
 ·cases e
 cases e
 have hb:Blk w g cur.toList 24:=by unfold Blk;rw [Array.toArray_toList];exact hg
 have hb2:=(((((((hb.setCell (k * 8) c0).setCell (k * 8 + 1) c1).setCell (k * 8 + 2) c2).setCell (k * 8 + 3) c3).setCell (k * 8 + 4) c4).setCell (k * 8 + 5) c5).setCell (k * 8 + 6) c6).setCell (k * 8 + 7) c7
 have m1:Mod (fun j=>j = g) w ((((((((w.setCell ⟨g,k * 8,none⟩ c0).setCell ⟨g,k * 8 + 1,none⟩ c1).setCell ⟨g,k * 8 + 2,none⟩ c2).setCell ⟨g,k * 8 + 3,none⟩ c3).setCell ⟨g,k * 8 + 4,none⟩ c4).setCell ⟨g,k * 8 + 5,none⟩ c5).setCell ⟨g,k * 8 + 6,none⟩ c6).setCell ⟨g,k * 8 + 7,none⟩ c7) :=
  (((((((((Mod.refl (fun j=>j = g) w).setCell (p:=⟨g,k * 8,none⟩) (fun _=>rfl) c0).setCell (p:=⟨g,k * 8 + 1,none⟩) (fun _=>rfl) c1).setCell (p:=⟨g,k * 8 + 2,none⟩) (fun _=>rfl) c2).setCell (p:=⟨g,k * 8 + 3,none⟩) (fun _=>rfl) c3).setCell (p:=⟨g,k * 8 + 4,none⟩) (fun _=>rfl) c4).setCell (p:=⟨g,k * 8 + 5,none⟩) (fun _=>rfl) c5).setCell (p:=⟨g,k * 8 + 6,none⟩) (fun _=>rfl) c6).setCell (p:=⟨g,k * 8 + 7,none⟩) (fun _=>rfl) c7)
 have hput:∀ l:List Value,((((((((l.set (k * 8) c0).set (k * 8 + 1) c1).set (k * 8 + 2) c2).set (k * 8 + 3) c3).set (k * 8 + 4) c4).set (k * 8 + 5) c5).set (k * 8 + 6) c6).set (k * 8 + 7) c7) = setE l (k * 8) (exCells x):=fun l=>by rw [hc];rfl
 rw [hput] at hb2;refine ⟨⟨?_,fun y hy=>?_⟩,m1.mono fun i _ e=>by rw [e];exact hbg⟩
 ·rw [List.length_set,← hn];refine ⟨by rw [X8 zs k hk x,ZbW];exact hl,.inr ⟨g,0,cap,_,rfl,hb2,hnc,hcm,?_,?_⟩⟩
  ·rw [ZbW,Array.length_toList];omega
  ·rw [List.drop_zero,Zg2,htake,X8 zs k hk x]
 have hu8:Shun (fun j=>j = g) w 5:=fun j e cs' hb'=>by
  have e:j = g:=e;rw [e] at hb';exact absurd (hb.inj hb').2 (by decide)
 rcases List.mem_or_eq_of_mem_set hy with hy | rfl
 ·exact (hd y hy).mod m1 hu8
 ·exact hx.mod m1 hu8
theorem EOwn.blk {w:World} {B n cap:Nat} {va:Option Addr} {zs:List Ex} (h:EOwn w B va n cap zs) (hn:0 < n):∃ g cs,va = some ⟨g,0,none⟩∧B≤g∧Blk w g cs 24∧n≤cap∧cap≤maxLen∧n * 8≤cs.length:=by
 obtain ⟨hn',⟨hl,hr⟩,hd⟩:=h;rcases hr with ⟨e,h0⟩ | ⟨g',cap',cur,e,hbg,hg,hnc,hcm,hcs,htake⟩
 ·omega
 simp at e;obtain ⟨rfl,rfl⟩:=e;exact ⟨g',cur.toList,rfl,hbg,by unfold Blk;rw [Array.toArray_toList];exact hg,hnc,hcm,by rw [Array.length_toList];omega⟩
theorem Zg3 (zs:List Ex) (k:Nat) (x:Ex):exps (zs.set k x) = (exps zs).set k x.2:=by unfold exps;rw [List.map_set]
theorem X9 {w:World} {va:Option Addr} {vc:Nat} {L:List En} (h:EL w va vc L) (h32:L.length≤32) {k:Nat} (hk:k < L.length) {u v:Value} {en:En} (d1:DSl w u en.aid) (d2:DSl w v en.dom) :
  Calls Tryz.prog 119 #[.agg #[.slice va L.length vc],.int .i64 k,.agg (eCells u v en.raw).toArray] w fun r w'=>∃ va' vc',r = .returned (.agg #[.slice va' (L.set k en).length vc'])∧EL w' va' vc' (L.set k en)∧Mod Nowhere w w':=by
 obtain ⟨ec1,ec2⟩:=h.len0;obtain ⟨zs,hs,hx⟩:=h;have hzl:zs.length = L.length:=by rw [← Zs,hx,List.length_map]
 obtain ⟨a1,c1,rfl,-⟩:=Sl.len d1;obtain ⟨a2,c2,rfl,-⟩:=Sl.len d2;have hm0:Mod Nowhere w (((w.alloc (.cells #[.slice va L.length vc] 52)).alloc (.cells #[.slice a1 en.aid.length c1,.int .i64 en.kind,.int .i64 en.st,.int .i64 en.bf,.int .i64 en.pr,.slice a2 en.dom.length c2,.int .i64 en.pk,.int .i64 en.ob] 24)).alloc (.cells #[.slice none 0 0] 52)):=((m1 w _ _).trans (m1 _ _ _)).trans (m1 _ _ _);have hsz:(((w.alloc (.cells #[.slice va L.length vc] 52)).alloc (.cells #[.slice a1 en.aid.length c1,.int .i64 en.kind,.int .i64 en.st,.int .i64 en.bf,.int .i64 en.pr,.slice a2 en.dom.length c2,.int .i64 en.pk,.int .i64 en.ob] 24)).alloc (.cells #[.slice none 0 0] 52)).heap.size = w.heap.size + 3:=by simp
 have hbE:Blk (((w.alloc (.cells #[.slice va L.length vc] 52)).alloc (.cells #[.slice a1 en.aid.length c1,.int .i64 en.kind,.int .i64 en.st,.int .i64 en.bf,.int .i64 en.pr,.slice a2 en.dom.length c2,.int .i64 en.pk,.int .i64 en.ob] 24)).alloc (.cells #[.slice none 0 0] 52)) (w.heap.size + 1) [.slice a1 en.aid.length c1,.int .i64 en.kind,.int .i64 en.st,.int .i64 en.bf,.int .i64 en.pr,.slice a2 en.dom.length c2,.int .i64 en.pk,.int .i64 en.ob] 24:=by
  have:=(Blk.new (w.alloc (.cells #[.slice va L.length vc] 52)) [.slice a1 en.aid.length c1,.int .i64 en.kind,.int .i64 en.st,.int .i64 en.bf,.int .i64 en.pr,.slice a2 en.dom.length c2,.int .i64 en.pk,.int .i64 en.ob] 24).mod (m1 _ [.slice none 0 0] 52) id;simpa using this
 have hbZ:Blk (((w.alloc (.cells #[.slice va L.length vc] 52)).alloc (.cells #[.slice a1 en.aid.length c1,.int .i64 en.kind,.int .i64 en.st,.int .i64 en.bf,.int .i64 en.pr,.slice a2 en.dom.length c2,.int .i64 en.pk,.int .i64 en.ob] 24)).alloc (.cells #[.slice none 0 0] 52)) (w.heap.size + 2) [.slice none 0 0] 52:=by
  have:=Blk.new ((w.alloc (.cells #[.slice va L.length vc] 52)).alloc (.cells #[.slice a1 en.aid.length c1,.int .i64 en.kind,.int .i64 en.st,.int .i64 en.bf,.int .i64 en.pr,.slice a2 en.dom.length c2,.int .i64 en.pk,.int .i64 en.ob] 24)) [.slice none 0 0] 52;simpa using this
 have hs':=hs;rw [← hzl] at hs';obtain ⟨va',vcap',W2,hrun,hown,hmN,hmA⟩:=YV (w:=w) (W:=(((w.alloc (.cells #[.slice va L.length vc] 52)).alloc (.cells #[.slice a1 en.aid.length c1,.int .i64 en.kind,.int .i64 en.st,.int .i64 en.bf,.int .i64 en.pr,.slice a2 en.dom.length c2,.int .i64 en.pk,.int .i64 en.ob] 24)).alloc (.cells #[.slice none 0 0] 52))) (B:=w.heap.size + 3) (fun _=>hs'.fresh hm0) (EOwn.nil _ _) (by omega) (by omega) hm0 (by omega);rw [hzl,Nat.zero_add] at hrun hown;rw [List.nil_append] at hown;obtain ⟨g,cs,rfl,hBg,hbg,hg1,hg2,hg3⟩:=hown.blk (by omega);have hbE2:=hbE.mod hmA (fun e=>by have e:w.heap.size + 3≤w.heap.size + 1:=e;omega)
 have hbZ2:=hbZ.mod hmA (fun e=>by have e:w.heap.size + 3≤w.heap.size + 2:=e;omega);obtain ⟨hset,hm3⟩:=e_set hown (k:=k) (by omega) (x:=((.slice a1 en.aid.length c1,.slice a2 en.dom.length c2),en.raw)) ⟨d1.fresh hmN,d2.fresh hmN⟩ rfl;have hbZ3:=hbZ2.mod hm3 (fun e=>by have e:w.heap.size + 3≤w.heap.size + 2:=e;omega);have hbZ4:=hbZ3.setCell 0 (.slice (some ⟨g,0,none⟩) L.length vcap');have hm4:=(Mod.refl (fun j=>j = w.heap.size + 2) ((((((((W2.setCell ⟨g,k * 8,none⟩ (.slice a1 en.aid.length c1)).setCell ⟨g,k * 8 + 1,none⟩ (.int .i64 en.kind)).setCell ⟨g,k * 8 + 2,none⟩ (.int .i64 en.st)).setCell ⟨g,k * 8 + 3,none⟩ (.int .i64 en.bf)).setCell ⟨g,k * 8 + 4,none⟩ (.int .i64 en.pr)).setCell ⟨g,k * 8 + 5,none⟩ (.slice a2 en.dom.length c2)).setCell ⟨g,k * 8 + 6,none⟩ (.int .i64 en.pk)).setCell ⟨g,k * 8 + 7,none⟩ (.int .i64 en.ob))).setCell (p:=⟨w.heap.size + 2,0,none⟩) (fun _=>rfl) (.slice (some ⟨g,0,none⟩) L.length vcap');have hsE:=shun1 (U:=24) hbZ3 (by decide)
 have hsU:=shun1 (U:=5) hbZ3 (by decide);have hset4:=hset.mod hm4 hsE hsU;have hxs:exps (zs.set k ((.slice a1 en.aid.length c1,.slice a2 en.dom.length c2),en.raw)) = (L.set k en).map En.raw:=by rw [Zg3,hx,List.map_set]
 have hmF:Mod Nowhere w _:=((hmN.step hm3 fun i hi e=>by have e:w.heap.size + 3≤i:=e;omega)).own hm4 (by omega);have y0:=hbE2.cell 0;have y1:=hbE2.cell 1;have y2:=hbE2.cell 2;have y3:=hbE2.cell 3;have y4:=hbE2.cell 4;have y5:=hbE2.cell 5;have y6:=hbE2.cell 6;have y7:=hbE2.cell 7;have yl:=hbE2.lt;simp only [gz0,gs0] at y0 y1 y2 y3 y4 y5 y6 y7;have hgc:∀ j,j < 8→∃ x,W2.cell? ⟨g,k * 8 + j,none⟩ = some x:=fun j hj=>⟨cs[k * 8 + j]'(by omega),by rw [hbg.cell];exact List.getElem?_eq_getElem _⟩;obtain ⟨x0,q0⟩:=hgc 0 (by omega);obtain ⟨x1,q1⟩:=hgc 1 (by omega);obtain ⟨x2,q2⟩:=hgc 2 (by omega);obtain ⟨x3,q3⟩:=hgc 3 (by omega);obtain ⟨x4,q4⟩:=hgc 4 (by omega);obtain ⟨x5,q5⟩:=hgc 5 (by omega);obtain ⟨x6,q6⟩:=hgc 6 (by omega);obtain ⟨x7,q7⟩:=hgc 7 (by omega);have f0:=hbg.frozen (k * 8);have f1:=hbg.frozen (k * 8 + 1);have f2:=hbg.frozen (k * 8 + 2);have f3:=hbg.frozen (k * 8 + 3);have f4:=hbg.frozen (k * 8 + 4);have f5:=hbg.frozen (k * 8 + 5);have f6:=hbg.frozen (k * 8 + 6);have f7:=hbg.frozen (k * 8 + 7)
 have z0:=hbZ2.cell 0;have zf:=hbZ2.frozen 0;have zl:=hbZ2.lt;have gl:=hbg.lt;have hki:(k:Int) < (L.length:Int):=by omega
 have hgn:g ≠ w.heap.size + 2:=by omega
 have hgn2:w.heap.size + 2 ≠ g:=by omega
 simp only [Nat.add_zero] at q0;simp only [gz0] at z0;clear hgc hs' hs;unfold eCells;dsimp only [En.raw];refine hid12 ?_ hx hzl hm0 hsz hbE hbZ hown hmN hmA hbg hbE2 hbZ2;clear hx hzl hm0 hsz hbE hbZ hown hmN hmA hbg hbE2 hbZ2;intro hx hzl hm0 hsz hbE hbZ hown hmN hmA hbg hbE2 hbZ2;refine hid12 ?_ hset hm3 hbZ3 hbZ4 hm4 hsE hsU hset4 hxs hmF d1 d2;clear hset hm3 hbZ3 hbZ4 hm4 hsE hsU hset4 hxs hmF d1 d2;intro hset hm3 hbZ3 hbZ4 hm4 hsE hsU hset4 hxs hmF d1 d2;go_enter Tryz.func119,Tryz.ntmps119
 go_upto_region 3 with (at_builtin;refine Lib.wpList_append_run _ rfl _ _ _ _ rfl _ _ (by rfl) (by rfl) _ _ hrun ?_;clear hrun)
 go_wp2;refine bodyPost_ret (ZfQ rfl _ _ (w.heap.size + 2) _ rfl hbZ4.out) rfl ?_;exact ⟨_,_,rfl,⟨_,by rw [List.length_set];exact hset4.out,hxs.out⟩,hmF.out⟩
end Go.Proofs.YthmahbfmfpjjcaaGreat
namespace Go.Proofs.YthmahbfmfpjjcaaGreat
open Go.RowKit
open Jn Vn Rg
attribute [local go_sem] Oper.semAt_some
namespace Rg
def isApB (n:Int):Bool:=decide (n = 2) || (decide (n = 3) || decide (n = 4))
end Rg
theorem Zg4 {w:World} (n:Int):Calls Tryz.prog 152 #[.int .i64 n] w fun e w'=>e = .returned (.bool (isApB n))∧w = w':=by
 have e2:(n == 2) = decide (n = 2):=by by_cases h:n = 2 <;> simp [h]
 have e3:(n == 3) = decide (n = 3):=by by_cases h:n = 3 <;> simp [h]
 have e4:(n == 4) = decide (n = 4):=by by_cases h:n = 4 <;> simp [h]
 unfold isApB;generalize decide (n = 2) = b2 at *;generalize decide (n = 3) = b3 at *;generalize decide (n = 4) = b4 at *
 cases b2 <;> cases b3 <;> cases b4 <;> (go_enter Tryz.func152,Tryz.ntmps152;go_wp2;go_ret;exact ⟨rfl,rfl⟩)
theorem Zg5 {w:World} (k f:Nat) (t:Int) (hk:k = 3 ∨ ((k = 1 ∨ k = 2)∧2≤f∧f≤5)):Calls Tryz.prog 118 #[.int .i64 k,.int .i64 f,.int .i64 t] w fun e w'=>e = .returned (.bool (Rg.appB k f t.toNat))∧w = w':=by
 have hI:=fun W n=>Zg4 (w:=W) n;rcases hk with rfl | ⟨hk,f2,f5⟩
 ·replace hI:=Lib.hid hI;go_enter Tryz.func118,Tryz.ntmps118;go_wp2;go_ret;exact ⟨rfl,rfl⟩
 by_cases hA:(f = 2∧t = 3) ∨ (f = 3∧t = 4)
 ·replace hI:=Lib.hid hI;clear f2 f5;rcases hk with rfl | rfl <;> rcases hA with ⟨rfl,rfl⟩ | ⟨rfl,rfl⟩ <;> (go_enter Tryz.func118,Tryz.ntmps118;go_wp2;go_ret;exact ⟨rfl,rfl⟩)
 by_cases hf:f = 5
 ·subst hf
  have hr:Rg.appB k 5 t.toNat = isApB t:=by
   by_cases ht:2≤t∧t≤5
   ·have b:t = 2 ∨ t = 3 ∨ t = 4 ∨ t = 5:=by omega
    rcases hk with rfl | rfl <;> rcases b with rfl | rfl | rfl | rfl <;> rfl
   ·have h1:isApB t = false:=by unfold isApB;rw [decide_eq_false (p:=t = 2) (by omega),decide_eq_false (p:=t = 3) (by omega),decide_eq_false (p:=t = 4) (by omega)];rfl
    have h2:(decide (2≤t.toNat) && decide (t.toNat≤5)) = false:=by rw [← Bool.decide_and,decide_eq_false (by omega)]
    rw [h1];unfold Rg.appB;rw [h2,Bool.and_false,Bool.false_and]
  rw [hr];have h5:=fun W=>hI W 5;have ht:=fun W=>hI W t;rw [show isApB 5 = false from rfl] at h5;clear hr hA hI;generalize isApB t = q at *;refine hid2 ?_ h5 ht;clear h5 ht;intro h5 ht;rcases hk with rfl | rfl <;> (go_enter Tryz.func118,Tryz.ntmps118;go_wp2_with fail;refine (h5.out _).mono ?_;rintro e w1 ⟨rfl,rfl⟩;go_wp2_with fail;refine (ht.out _).mono ?_;rintro e w1 ⟨rfl,rfl⟩;go_wp2;go_ret;exact ⟨Za (by simp),rfl⟩)
 ·have hfa:isApB f = true:=by
   have b:f = 2 ∨ f = 3 ∨ f = 4:=by omega
   rcases b with rfl | rfl | rfl <;> rfl
  have ha:=fun W=>hI W f;rw [hfa] at ha;have g3:f = 2→(t == 3) = false:=fun e=>by simpa using fun e2=>hA (.inl ⟨e,e2⟩)
  have g4:f = 3→(t == 4) = false:=fun e=>by simpa using fun e2=>hA (.inr ⟨e,e2⟩)
  have hr:Rg.appB k f t.toNat = decide (t = 5):=by
   by_cases ht:2≤t∧t≤5
   ·have b:t = 2 ∨ t = 3 ∨ t = 4 ∨ t = 5:=by omega
    have c:f = 2 ∨ f = 3 ∨ f = 4:=by omega
    rcases hk with rfl | rfl <;> rcases b with rfl | rfl | rfl | rfl <;> rcases c with rfl | rfl | rfl <;> first | rfl | exact absurd (g3 rfl) (by decide) | exact absurd (g4 rfl) (by decide)
   ·have h2:(decide (2≤t.toNat) && decide (t.toNat≤5)) = false:=by rw [← Bool.decide_and,decide_eq_false (by omega)]
    rw [decide_eq_false (p:=t = 5) (by omega)];unfold Rg.appB;rw [h2,Bool.and_false,Bool.false_and]
  rw [hr];have c:f = 2 ∨ f = 3 ∨ f = 4:=by omega
  have e5:(t == 5) = decide (t = 5):=by by_cases h:t = 5 <;> simp [h]
  clear hr hfa hI hA f2 f5 hf;generalize decide (t = 5) = q at *;rcases c with rfl | rfl | rfl
  ·have g:=g3 rfl;clear g3 g4;replace ha:=Lib.hid ha;rcases hk with rfl | rfl <;> cases q <;> (go_enter Tryz.func118,Tryz.ntmps118;go_wp2_with fail;refine (ha.out _).mono ?_;rintro e w1 ⟨rfl,rfl⟩;go_wp2;go_ret;exact ⟨rfl,rfl⟩)
  ·have g:=g4 rfl;clear g3 g4;replace ha:=Lib.hid ha;rcases hk with rfl | rfl <;> cases q <;> (go_enter Tryz.func118,Tryz.ntmps118;go_wp2_with fail;refine (ha.out _).mono ?_;rintro e w1 ⟨rfl,rfl⟩;go_wp2;go_ret;exact ⟨rfl,rfl⟩)
  ·clear g3 g4;replace ha:=Lib.hid ha;rcases hk with rfl | rfl <;> cases q <;> (go_enter Tryz.func118,Tryz.ntmps118;go_wp2_with fail;refine (ha.out _).mono ?_;rintro e w1 ⟨rfl,rfl⟩;go_wp2;go_ret;exact ⟨rfl,rfl⟩)
end Go.Proofs.YthmahbfmfpjjcaaGreat
namespace Go.Proofs.YthmahbfmfpjjcaaGreat
open Go.RowKit
open Jn Vn Rg
attribute [local go_sem] Oper.semAt_some
theorem Ja {L:List En} (hi:RInv L) {a:List Nat} {k:Nat} (hk:k < L.length) (hf:rFind L a = some L[k]) (f:En→En × Nat) (ha:(f L[k]).1.aid = L[k].aid):rChange L a f = if (f L[k]).2 = 0 then (L.set k (f L[k]).1,0) else (L,(f L[k]).2):=by
 unfold rChange;rw [hf];dsimp only;rw [ZfG hi hk ha]
theorem Zg6 {w:World} {va:Option Addr} {vc:Nat} {L:List En} (h:EL w va vc L) (hi:RInv L) {t:Value} {a:List Nat} (ht:Src w t a) (ba:Bytes a) (la:a.length≤1000) (x:Int) :
  Calls Tryz.prog 75 #[.agg #[.slice va L.length vc],t,.int .i64 x] w (LPost26 w (rChange L a (fState x.toNat)).1 (rChange L a (fState x.toNat)).2):=by
 obtain ⟨ec1,ec2⟩:=h.len0;have h32:=hi.len;have hm1:=m2z w [.slice va L.length vc] [.slice none 0 0] 52 52;have hB:=blk_b (w:=w) [.slice va L.length vc] [.slice none 0 0] 52 52;have hF:=ZI (h.fresh hm1) hi (ht.fresh hm1) ba la;obtain ⟨ta,tc,rfl,-⟩:=id ht;obtain ⟨R,hR⟩:∃ R,rChange L a (fState x.toNat) = R:=⟨_,rfl⟩;rw [hR];rcases ZJ (L:=L) (a:=a) with ⟨h1,h2⟩ | ⟨k,hk,h1,h2,-⟩
 ·rw [h1] at hF;have hR:R = (L,12):=by rw [← hR];unfold rChange;rw [h2]
  clear h1 h2;generalize a.length = n at *;refine hid6 ?_ h hB hF hm1 ht hR;clear h hB hF hm1 ht hR;intro h hB hF hm1 ht hR;go_enter Tryz.func75,Tryz.ntmps75;go_wp2_with fail;refine (hF.out).mono ?_;rintro e w1 ⟨rfl,hm⟩;obtain ⟨bS,bR⟩:=hB.out w1 hm;have hmw:=hm1.out.trans hm;have hel:=h.out.fresh hmw;have x0:=bS.cell 0;have xl:=bS.lt;have z0:=bR.cell 0;have zl:=bR.lt;have zf:=bR.frozen 0;simp only [gz0] at x0 z0;refine hid5 ?_ hm hmw bS bR hel;clear hm hmw bS bR hel;intro hm hmw bS bR hel;go_wp2;exact s_end rfl hR.out rfl rfl bR.out (by omega) hel.out hmw.out
 ·rw [h1] at hF;have hok:=hi.ok _ (List.getElem_mem hk);rw [Ja hi hk h2 (fState x.toNat) (ZaW _ _)] at hR;obtain ⟨b,off,a1,c1,a2,c2,rfl,-,-,hce⟩:=h.ce hk;have hki:(k:Int) < (L.length:Int):=by omega
  obtain ⟨en,hen⟩:∃ en,L[k] = en:=⟨_,rfl⟩;rw [hen] at hce hok hR
  have hno:(en.st = 5 ∨ x.toNat = 5 ∨ Rg.appB en.kind en.st x.toNat = false)→R = (L,14):=fun hq=>by
   rw [← hR,ZaZ hq];rfl
  have hyes:en.st ≠ 5→x.toNat ≠ 5→Rg.appB en.kind en.st x.toNat = true→R = (L.set k { en with st:=x.toNat },0):=fun q1 q2 q3=>by
   rw [← hR,Za0 q1 q2 q3];rfl
  have hkk:en.kind = 3 ∨ ((en.kind = 1 ∨ en.kind = 2)∧2≤en.st∧en.st≤5):=by
   have:=hok.k1;have:=hok.k3;by_cases e3:en.kind = 3
   ·exact .inl e3
   ·exact .inr ⟨by omega,hok.sn e3⟩
  have hA:=fun W=>Zg5 (w:=W) en.kind en.st x hkk
  have hxx:Rg.appB en.kind en.st x.toNat = true→((x.toNat:Nat):Int) = x:=fun hq=>by
   unfold Rg.appB at hq;simp only [Bool.and_eq_true,decide_eq_true_eq] at hq;omega
  clear hkk;have hWt:=fun X va' vc' (e':En) u v (he:EL X va' vc' L) (d1:DSl X u e'.aid) (d2:DSl X v e'.dom)=>X9 he h32 hk d1 d2;clear hR h1 h2;obtain ⟨xk,xs,xb,xp,xg,xo,xa,xd⟩:=en;dsimp only [En.raw] at hce hno hyes hA hxx;obtain ⟨q,hq⟩:∃ q,Rg.appB xk xs x.toNat = q:=⟨_,rfl⟩;rw [hq] at hA;generalize a.length = n at *;refine hid12 ?_ h hB hF hm1 ht hce hWt hen hok hno hyes hA;clear h hB hF hm1 ht hce hWt hen hok hno hyes hA;intro h hB hF hm1 ht hce hWt hen hok hno hyes hA;refine hid2 ?_ hxx hq;clear hxx hq;intro hxx hq;go_enter Tryz.func75,Tryz.ntmps75;go_wp2_with fail;refine (hF.out).mono ?_
  rintro e w1 ⟨rfl,hm⟩;obtain ⟨bS,bR⟩:=hB.out w1 hm;have hmw:=hm1.out.trans hm;have hel:=h.out.fresh hmw;obtain ⟨⟨q0,q1,q2,q3,q4,q5,q6,q7,ql⟩,d1,d2⟩:=hce.out w1 hmw;have x0:=bS.cell 0;have xl:=bS.lt;have z0:=bR.cell 0;have zl:=bR.lt;have zf:=bR.frozen 0;simp only [gz0] at x0 z0;obtain ⟨N,hN⟩:∃ N,w1.heap.size = N:=⟨_,rfl⟩;obtain ⟨W,hW⟩:∃ W,w1.alloc (.cells #[.slice a1 xa.length c1,.int .i64 xk,.int .i64 xs,.int .i64 xb,.int .i64 xp,.slice a2 xd.length c2,.int .i64 xg,.int .i64 xo] 24) = W:=⟨_,rfl⟩;have hmA:Mod Nowhere w1 W:=by rw [← hW];exact m1 w1 [.slice a1 xa.length c1,.int .i64 xk,.int .i64 xs,.int .i64 xb,.int .i64 xp,.slice a2 xd.length c2,.int .i64 xg,.int .i64 xo] _
  have bN:Blk W N [.slice a1 xa.length c1,.int .i64 xk,.int .i64 xs,.int .i64 xb,.int .i64 xp,.slice a2 xd.length c2,.int .i64 xg,.int .i64 xo] 24:=by rw [← hW,← hN];exact Blk.new w1 _ _
  have bS2:=bS.mod hmA id;have bR2:=bR.mod hmA id;have hel2:=hel.fresh hmA;have hmW:=hmw.trans hmA;have hNw:w.heap.size + 2≤N:=by have:=hm.size;simp at this;omega
  have s0:=bS2.cell 0;have sl:=bS2.lt;have r0:=bR2.cell 0;have rl:=bR2.lt;have rf:=bR2.frozen 0;have v0:=bN.cell 0;have v1:=bN.cell 1;have v2:=bN.cell 2;have v3:=bN.cell 3;have v4:=bN.cell 4;have v5:=bN.cell 5;have v6:=bN.cell 6;have v7:=bN.cell 7;have vl:=bN.lt;have vf:=bN.frozen;simp only [gz0,gs0] at v0 v1 v2 v3 v4 v5 v6 v7;simp only [gz0] at s0 r0;clear d1 d2;refine hid11 ?_ hm hmw bS bR hel hmA bN bS2 bR2 hel2 hmW;clear hm hmw bS bR hel hmA bN bS2 bR2 hel2 hmW;intro hm hmw bS bR hel hmA bN bS2 bR2 hel2 hmW;go_wp2_with fail;refine (hA.out _).mono ?_;rintro r w2 ⟨rfl,rfl⟩
  clear q0 q1 q2 q3 q4 q5 q6 q7 ql x0 xl z0 zl zf hW hN
  cases q
  ·skip
   have hR:=hno.out (.inr (.inr hq.out));replace hR:=Lib.hid hR;go_wp2;exact s_end rfl hR.out rfl rfl bR2.out (by omega) hel2.out hmW.out
  by_cases h5:xs = 5
  ·subst h5;have hR:=hno.out (.inl rfl);replace hR:=Lib.hid hR;go_wp2;exact s_end rfl hR.out rfl rfl bR2.out (by omega) hel2.out hmW.out
  have h5b:((xs:Int) == 5) = false:=by simp;omega
  by_cases hx5:x = 5
  ·have hR:=hno.out (.inr (.inl (by omega)));subst hx5;replace hR:=Lib.hid hR;go_wp2;exact s_end rfl hR.out rfl rfl bR2.out (by omega) hel2.out hmW.out
  have hx5b:(x == 5) = false:=by simpa using hx5
  have hxc:=hxx.out hq.out;have hR:=hyes.out h5 (by omega) hq.out;have mN2:Mod (fun j=>j = N) W (W.setCell ⟨N,2,none⟩ (.int .i64 x)):=(Mod.refl (fun j=>j = N) W).setCell (p:=⟨N,2,none⟩) (fun _=>rfl) (.int .i64 x);have hmV:=hmW.out.own mN2 (by omega);obtain ⟨-,d1,d2⟩:=hce.out _ hmV;have bR3:=bR2.out.mod mN2 (by omega);have hC:=hWt.out _ _ _ ⟨xk,x.toNat,xb,xp,xg,xo,xa,xd⟩ (.slice a1 xa.length c1) (.slice a2 xd.length c2) (h.out.fresh hmV) d1 d2;unfold eCells at hC;dsimp only [En.raw] at hC;rw [hxc] at hC;replace hxc:=Lib.hid hxc;clear h5 hx5;generalize L.set k ⟨xk,x.toNat,xb,xp,xg,xo,xa,xd⟩ = L' at *;refine hid7 ?_ hR mN2 hmV d1 d2 bR3 hC;clear hR mN2 hmV d1 d2 bR3 hC;intro hR mN2 hmV d1 d2 bR3 hC
  go_wp2_with fail;refine hC.out.mono ?_;rintro r w3 ⟨va',vc',rfl,hel3,hm3⟩;have bR4:=bR3.out.mod hm3 id;clear s0 sl r0 rl rf v0 v1 v2 v3 v4 v5 v6 v7 vl vf;have r0:=bR4.cell 0;have rl:=bR4.lt;have rf:=bR4.frozen 0;simp only [gz0] at r0;refine hid3 ?_ hel3 hm3 bR4;clear hel3 hm3 bR4;intro hel3 hm3 bR4;go_wp2;exact s_end rfl hR.out rfl rfl bR4.out (by omega) hel3.out (hmV.out.trans hm3.out)
theorem Zg7 {w:World} {va:Option Addr} {vc:Nat} {L:List En} (h:EL w va vc L) (hi:RInv L) {t:Value} {a:List Nat} (ht:Src w t a) (ba:Bytes a) (la:a.length≤1000) (lk:Bool) :
  Calls Tryz.prog 76 #[.agg #[.slice va L.length vc],t,.bool lk] w (LPost26 w (rChange L a (fLock lk)).1 (rChange L a (fLock lk)).2):=by
 obtain ⟨ec1,ec2⟩:=h.len0;have h32:=hi.len;have hm1:=m2z w [.slice va L.length vc] [.slice none 0 0] 52 52;have hB:=blk_b (w:=w) [.slice va L.length vc] [.slice none 0 0] 52 52;have hF:=ZI (h.fresh hm1) hi (ht.fresh hm1) ba la;obtain ⟨ta,tc,rfl,-⟩:=id ht;obtain ⟨R,hR⟩:∃ R,rChange L a (fLock lk) = R:=⟨_,rfl⟩;rw [hR];rcases ZJ (L:=L) (a:=a) with ⟨h1,h2⟩ | ⟨k,hk,h1,h2,-⟩
 ·rw [h1] at hF;have hR:R = (L,12):=by rw [← hR];unfold rChange;rw [h2]
  clear h1 h2;generalize a.length = n at *;refine hid6 ?_ h hB hF hm1 ht hR;clear h hB hF hm1 ht hR;intro h hB hF hm1 ht hR;go_enter Tryz.func76,Tryz.ntmps76;go_wp2_with fail;refine (hF.out).mono ?_;rintro e w1 ⟨rfl,hm⟩;obtain ⟨bS,bR⟩:=hB.out w1 hm;have hmw:=hm1.out.trans hm;have hel:=h.out.fresh hmw;have x0:=bS.cell 0;have xl:=bS.lt;have z0:=bR.cell 0;have zl:=bR.lt;have zf:=bR.frozen 0;simp only [gz0] at x0 z0;refine hid5 ?_ hm hmw bS bR hel;clear hm hmw bS bR hel;intro hm hmw bS bR hel;go_wp2;exact s_end rfl hR.out rfl rfl bR.out (by omega) hel.out hmw.out
 ·rw [h1] at hF;have hok:=hi.ok _ (List.getElem_mem hk);rw [Ja hi hk h2 (fLock lk) (ZaX _ _)] at hR;obtain ⟨b,off,a1,c1,a2,c2,rfl,-,-,hce⟩:=h.ce hk;have hki:(k:Int) < (L.length:Int):=by omega
  obtain ⟨en,hen⟩:∃ en,L[k] = en:=⟨_,rfl⟩;rw [hen] at hce hok hR;obtain ⟨is,his⟩:∃ is,isIss en = is:=⟨_,rfl⟩;have hfl:fLock lk en = (if en.kind = 3 then (en,22) else if is = true ∨ lk = decide (en.st = 5) then (en,14) else if lk = true then ({ en with st:=5,bf:=en.st },0) else ({ en with st:=en.bf,bf:=0 },0)):=by unfold fLock;rw [his]
  have hno:∀ er,fLock lk en = (en,er)→er ≠ 0→R = (L,er):=fun er hq h0=>by
   rw [← hR,hq]
   show (if er = 0 then _ else _) = _
   rw [if_neg h0]
  have hyes:∀ e',fLock lk en = (e',0)→R = (L.set k e',0):=fun e' hq=>by rw [← hR,hq];rfl
  rw [hfl] at hno hyes
  have hI:∀ X u v,DSl X u en.aid→DSl X v en.dom→Calls Tryz.prog 112 #[.agg (eCells u v en.raw).toArray] X fun r w'=>r = .returned (.bool is)∧Mod Nowhere X w':=fun X u v d1 d2=>by
   have:=hok.a16;have:=hok.d16;have hq:=XT (w:=X) (u:=u) (v:=v) (e:=en.raw) ⟨d1.src,d2.src,hok.ba,hok.bd⟩ (by show en.aid.length≤1000;omega) (by show en.dom.length≤1000;omega);rw [← his]
   have hb:(decide (en.raw.kind = 1) && decide (en.raw.aid = en.raw.dom)) = isIss en:=by
    unfold isIss
    show (decide ((en.kind:Int) = 1) && _) = _
    by_cases e1:en.kind = 1 <;> simp [e1,En.raw]
    omega
   rw [hb] at hq;exact hq
  clear hfl his;have hWt:=fun X va' vc' (e':En) u v (he:EL X va' vc' L) (d1:DSl X u e'.aid) (d2:DSl X v e'.dom)=>X9 he h32 hk d1 d2;clear hR h1 h2;obtain ⟨xk,xs,xb,xp,xg,xo,xa,xd⟩:=en;dsimp only [En.raw] at hce hno hyes hI;have hEn:L = L:=rfl;generalize a.length = n at *;refine hid12 ?_ h hB hF hm1 ht hce hWt hen hok hno hyes hI;clear h hB hF hm1 ht hce hWt hen hok hno hyes hI;intro h hB hF hm1 ht hce hWt hen hok hno hyes hI;replace hEn:=Lib.hid hEn;go_enter Tryz.func76,Tryz.ntmps76;go_wp2_with fail;refine (hF.out).mono ?_;rintro e w1 ⟨rfl,hm⟩;obtain ⟨bS,bR⟩:=hB.out w1 hm;have hmw:=hm1.out.trans hm
  have hel:=h.out.fresh hmw;obtain ⟨⟨q0,q1,q2,q3,q4,q5,q6,q7,ql⟩,d1,d2⟩:=hce.out w1 hmw;have x0:=bS.cell 0;have xl:=bS.lt;have z0:=bR.cell 0;have zl:=bR.lt;have zf:=bR.frozen 0;simp only [gz0] at x0 z0;obtain ⟨N,hN⟩:∃ N,w1.heap.size = N:=⟨_,rfl⟩;obtain ⟨W,hW⟩:∃ W,w1.alloc (.cells #[.slice a1 xa.length c1,.int .i64 xk,.int .i64 xs,.int .i64 xb,.int .i64 xp,.slice a2 xd.length c2,.int .i64 xg,.int .i64 xo] 24) = W:=⟨_,rfl⟩;have hmA:Mod Nowhere w1 W:=by rw [← hW];exact m1 w1 [.slice a1 xa.length c1,.int .i64 xk,.int .i64 xs,.int .i64 xb,.int .i64 xp,.slice a2 xd.length c2,.int .i64 xg,.int .i64 xo] _
  have bN:Blk W N [.slice a1 xa.length c1,.int .i64 xk,.int .i64 xs,.int .i64 xb,.int .i64 xp,.slice a2 xd.length c2,.int .i64 xg,.int .i64 xo] 24:=by rw [← hW,← hN];exact Blk.new w1 _ _
  have bS2:=bS.mod hmA id;have bR2:=bR.mod hmA id;have hel2:=hel.fresh hmA;have hmW:=hmw.trans hmA;have hNw:w.heap.size + 2≤N:=by have:=hm.size;simp at this;omega
  have s0:=bS2.cell 0;have sl:=bS2.lt;have r0:=bR2.cell 0;have rl:=bR2.lt;have rf:=bR2.frozen 0;have v0:=bN.cell 0;have v1:=bN.cell 1;have v2:=bN.cell 2;have v3:=bN.cell 3;have v4:=bN.cell 4;have v5:=bN.cell 5;have v6:=bN.cell 6;have v7:=bN.cell 7;have vl:=bN.lt;have vf:=bN.frozen;simp only [gz0,gs0] at v0 v1 v2 v3 v4 v5 v6 v7;simp only [gz0] at s0 r0;have hI2:=hI.out W _ _ (d1.fresh hmA) (d2.fresh hmA);unfold eCells at hI2;dsimp only [En.raw] at hI2;replace hI2:=Lib.hid hI2;clear d1 d2;refine hid11 ?_ hm hmw bS bR hel hmA bN bS2 bR2 hel2 hmW;clear hm hmw bS bR hel hmA bN bS2 bR2 hel2 hmW;intro hm hmw bS bR hel hmA bN bS2 bR2 hel2 hmW
  go_upto_region 5 with (fail)
  clear q0 q1 q2 q3 q4 q5 q6 q7 ql x0 xl z0 zl zf hW hN;by_cases h3:xk = 3
  ·subst h3;have hR:=hno.out 22 (if_pos rfl) (by decide);replace hR:=Lib.hid hR;go_wp2;exact s_end rfl hR.out rfl rfl bR2.out (by omega) hel2.out hmW.out
  have h3b:((xk:Int) == 3) = false:=by simp;omega
  go_wp2_with fail;refine hI2.out.mono ?_;rintro r w2 ⟨rfl,hm2⟩;have bS3:=bS2.out.mod hm2 id;have bR5:=bR2.out.mod hm2 id;have bN3:=bN.out.mod hm2 id;have hel3:=hel2.out.fresh hm2;have hmX:=hmW.out.trans hm2;clear s0 sl r0 rl rf v0 v1 v2 v3 v4 v5 v6 v7 vl vf;have s0:=bS3.cell 0;have sl:=bS3.lt;have r0:=bR5.cell 0;have rl:=bR5.lt;have rf:=bR5.frozen 0;simp only [gz0] at s0 r0;have v0:=bN3.cell 0;have v1:=bN3.cell 1;have v2:=bN3.cell 2;have v3:=bN3.cell 3;have v4:=bN3.cell 4;have v5:=bN3.cell 5;have v6:=bN3.cell 6;have v7:=bN3.cell 7;have vl:=bN3.lt;have vf:=bN3.frozen;simp only [gz0,gs0] at v0 v1 v2 v3 v4 v5 v6 v7
  refine hid6 ?_ hm2 bS3 bR5 bN3 hel3 hmX;clear hm2 bS3 bR5 bN3 hel3 hmX;intro hm2 bS3 bR5 bN3 hel3 hmX
  cases is
  ·by_cases h5:xs = 5
   ·subst h5
    cases lk
    ·skip
     have hR:=hyes.out ⟨xk,xb,0,xp,xg,xo,xa,xd⟩ (by rw [if_neg (by omega),if_neg (by simp),if_neg (by decide)]);have mN2:Mod (fun j=>j = N) w2 ((w2.setCell ⟨N,2,none⟩ (.int .i64 xb)).setCell ⟨N,3,none⟩ (.int .i64 0)):=((Mod.refl (fun j=>j = N) w2).setCell (p:=⟨N,2,none⟩) (fun _=>rfl) (.int .i64 xb)).setCell (p:=⟨N,3,none⟩) (fun _=>rfl) (.int .i64 0);have hmV:=hmX.out.own mN2 (by omega);obtain ⟨-,d1,d2⟩:=hce.out _ hmV;have bR3:=bR5.out.mod mN2 (by omega);have hC:=hWt.out _ _ _ ⟨xk,xb,0,xp,xg,xo,xa,xd⟩ (.slice a1 xa.length c1) (.slice a2 xd.length c2) (h.out.fresh hmV) d1 d2
     unfold eCells at hC;dsimp only [En.raw] at hC;generalize L.set k ⟨xk,xb,0,xp,xg,xo,xa,xd⟩ = L' at *;refine hid7 ?_ hR mN2 hmV d1 d2 bR3 hC;clear hR mN2 hmV d1 d2 bR3 hC;intro hR mN2 hmV d1 d2 bR3 hC;go_wp2_with fail;refine hC.out.mono ?_;rintro r w3 ⟨va',vc',rfl,hel3,hm3⟩;have bR4:=bR3.out.mod hm3 id;clear s0 sl r0 rl rf v0 v1 v2 v3 v4 v5 v6 v7 vl vf;have r0:=bR4.cell 0;have rl:=bR4.lt;have rf:=bR4.frozen 0;simp only [gz0] at r0;refine hid3 ?_ hel3 hm3 bR4;clear hel3 hm3 bR4;intro hel3 hm3 bR4;go_wp2;exact s_end rfl hR.out rfl rfl bR4.out (by omega) hel3.out (hmV.out.trans hm3.out)
    ·skip
     have hR:=hno.out 14 (by rw [if_neg (by omega),if_pos (.inr (by simp))]) (by decide);replace hR:=Lib.hid hR;go_wp2;exact s_end rfl hR.out rfl rfl bR5.out (by omega) hel3.out hmX.out
   ·have h5b:((xs:Int) == 5) = false:=by simp;omega
    cases lk
    ·skip
     have hR:=hno.out 14 (by rw [if_neg (by omega),if_pos (.inr (by simp [h5]))]) (by decide);replace hR:=Lib.hid hR;go_wp2;exact s_end rfl hR.out rfl rfl bR5.out (by omega) hel3.out hmX.out
    ·skip
     have hR:=hyes.out ⟨xk,5,xs,xp,xg,xo,xa,xd⟩ (by rw [if_neg (by omega),if_neg (by simp [h5]),if_pos rfl]);have mN2:Mod (fun j=>j = N) w2 ((w2.setCell ⟨N,2,none⟩ (.int .i64 5)).setCell ⟨N,3,none⟩ (.int .i64 xs)):=((Mod.refl (fun j=>j = N) w2).setCell (p:=⟨N,2,none⟩) (fun _=>rfl) (.int .i64 5)).setCell (p:=⟨N,3,none⟩) (fun _=>rfl) (.int .i64 xs);have hmV:=hmX.out.own mN2 (by omega);obtain ⟨-,d1,d2⟩:=hce.out _ hmV;have bR3:=bR5.out.mod mN2 (by omega);have hC:=hWt.out _ _ _ ⟨xk,5,xs,xp,xg,xo,xa,xd⟩ (.slice a1 xa.length c1) (.slice a2 xd.length c2) (h.out.fresh hmV) d1 d2
     unfold eCells at hC;dsimp only [En.raw] at hC;generalize L.set k ⟨xk,5,xs,xp,xg,xo,xa,xd⟩ = L' at *;refine hid7 ?_ hR mN2 hmV d1 d2 bR3 hC;clear hR mN2 hmV d1 d2 bR3 hC;intro hR mN2 hmV d1 d2 bR3 hC;go_wp2_with fail;refine hC.out.mono ?_;rintro r w3 ⟨va',vc',rfl,hel3,hm3⟩;have bR4:=bR3.out.mod hm3 id;clear s0 sl r0 rl rf v0 v1 v2 v3 v4 v5 v6 v7 vl vf;have r0:=bR4.cell 0;have rl:=bR4.lt;have rf:=bR4.frozen 0;simp only [gz0] at r0;refine hid3 ?_ hel3 hm3 bR4;clear hel3 hm3 bR4;intro hel3 hm3 bR4;go_wp2;exact s_end rfl hR.out rfl rfl bR4.out (by omega) hel3.out (hmV.out.trans hm3.out)
  ·skip
   have hR:=hno.out 14 (by rw [if_neg (by omega),if_pos (.inl rfl)]) (by decide);replace hR:=Lib.hid hR;go_wp2;exact s_end rfl hR.out rfl rfl bR5.out (by omega) hel3.out hmX.out
theorem Zg8 {w:World} {va:Option Addr} {vc:Nat} {L:List En} (h:EL w va vc L) (hi:RInv L) {t:Value} {a:List Nat} (ht:Src w t a) (ba:Bytes a) (la:a.length≤1000) {t2:Value} {g:List Nat} (ht2:Src w t2 g) (bg:Bytes g) (lt2:g.length≤1000) :
  Calls Tryz.prog 77 #[.agg #[.slice va L.length vc],t,t2] w (LPost26 w (rChange L a (fMove L g)).1 (rChange L a (fMove L g)).2):=by
 obtain ⟨ec1,ec2⟩:=h.len0;have h32:=hi.len;have hm1:=m2z w [.slice va L.length vc] [.slice none 0 0] 52 52;have hB:=blk_b (w:=w) [.slice va L.length vc] [.slice none 0 0] 52 52;have hF:=ZI (h.fresh hm1) hi (ht.fresh hm1) ba la;have hl2:=lt2;obtain ⟨ua,uc,rfl,-⟩:=id ht2;obtain ⟨ta,tc,rfl,-⟩:=id ht;obtain ⟨R,hR⟩:∃ R,rChange L a (fMove L g) = R:=⟨_,rfl⟩;rw [hR];rcases ZJ (L:=L) (a:=a) with ⟨h1,h2⟩ | ⟨k,hk,h1,h2,-⟩
 ·rw [h1] at hF;have hR:R = (L,12):=by rw [← hR];unfold rChange;rw [h2]
  clear h1 h2;generalize hgl:g.length = n2 at *;generalize a.length = n at *;refine hid6 ?_ h hB hF hm1 ht hR;clear h hB hF hm1 ht hR;intro h hB hF hm1 ht hR;go_enter Tryz.func77,Tryz.ntmps77;go_wp2_with fail;refine (hF.out).mono ?_;rintro e w1 ⟨rfl,hm⟩;obtain ⟨bS,bR⟩:=hB.out w1 hm;have hmw:=hm1.out.trans hm;have hel:=h.out.fresh hmw;have x0:=bS.cell 0;have xl:=bS.lt;have z0:=bR.cell 0;have zl:=bR.lt;have zf:=bR.frozen 0;simp only [gz0] at x0 z0;refine hid5 ?_ hm hmw bS bR hel;clear hm hmw bS bR hel;intro hm hmw bS bR hel;go_wp2;exact s_end rfl hR.out rfl rfl bR.out (by omega) hel.out hmw.out
 ·rw [h1] at hF;have hok:=hi.ok _ (List.getElem_mem hk);rw [Ja hi hk h2 (fMove L g) (ZaY _ _ _)] at hR;obtain ⟨b,off,a1,c1,a2,c2,rfl,-,-,hce⟩:=h.ce hk;have hki:(k:Int) < (L.length:Int):=by omega
  obtain ⟨en,hen⟩:∃ en,L[k] = en:=⟨_,rfl⟩;rw [hen] at hce hok hR;obtain ⟨dq,hdq⟩:∃ dq,L.any (isDom g) = dq:=⟨_,rfl⟩;have hfl:fMove L g en = (if en.kind = 1 then (en,22) else if dq = false then (en,12) else ({ en with dom:=g },0)):=by unfold fMove;rw [hdq]
  have hno:∀ er,fMove L g en = (en,er)→er ≠ 0→R = (L,er):=fun er hq h0=>by
   rw [← hR,hq]
   show (if er = 0 then _ else _) = _
   rw [if_neg h0]
  have hyes:∀ e',fMove L g en = (e',0)→R = (L.set k e',0):=fun e' hq=>by rw [← hR,hq];rfl
  rw [hfl] at hno hyes
  have hD:∀ X,Mod Nowhere w X→Calls Tryz.prog 113 #[.agg #[.slice (some ⟨b,off,none⟩) L.length vc],.slice ua g.length uc] X fun e w'=>e = .returned (.bool dq)∧Mod Nowhere X w':=fun X hm=>by
   rw [← hdq];exact XV (h.fresh hm) hi (ht2.fresh hm) bg hl2
  have hAp:∀ X,Mod Nowhere w X→∃ ga gc w',(Builtin.append_ #[22,22] 22 #[.slice (some ⟨X.heap.size,0,none⟩) 0 0,.slice ua g.length uc]).run Tryz.prog (X.alloc (.cells #[] 5)) = .ok (.slice ga g.length gc) w'∧DSl w' (.slice ga g.length gc) g∧Mod Nowhere X w':=fun X hm=>by
   have hm0:Mod Nowhere X (X.alloc (.cells #[] 5)):=(Mod.refl _ X).alloc _;obtain ⟨ga,gc,w',h1,h2,h3⟩:=XL (XK X) (ht2.fresh (hm.trans hm0)) (by omega) (by simp) 22;exact ⟨ga,gc,w',h1,Sl.of_owns h2,hm0.step h3 fun i hi e=>by have e:X.heap.size≤i:=e;omega⟩
  clear hfl hdq;have hWt:=fun X va' vc' (e':En) u v (he:EL X va' vc' L) (d1:DSl X u e'.aid) (d2:DSl X v e'.dom)=>X9 he h32 hk d1 d2;clear hR h1 h2;obtain ⟨xk,xs,xb,xp,xg,xo,xa,xd⟩:=en;dsimp only [En.raw] at hce hno hyes;have hEn:L = L:=rfl;generalize hgl:g.length = n2 at *;generalize a.length = n at *;refine hid12 ?_ h hB hF hm1 ht hce hWt hen hok hno hyes hD;clear h hB hF hm1 ht hce hWt hen hok hno hyes hD;intro h hB hF hm1 ht hce hWt hen hok hno hyes hD;refine hid3 ?_ hAp ht2 hEn;clear hAp ht2 hEn;intro hAp ht2 hEn;go_enter Tryz.func77,Tryz.ntmps77;go_wp2_with fail;refine (hF.out).mono ?_
  rintro e w1 ⟨rfl,hm⟩;obtain ⟨bS,bR⟩:=hB.out w1 hm;have hmw:=hm1.out.trans hm;have hel:=h.out.fresh hmw;obtain ⟨⟨q0,q1,q2,q3,q4,q5,q6,q7,ql⟩,d1,d2⟩:=hce.out w1 hmw;have x0:=bS.cell 0;have xl:=bS.lt;have z0:=bR.cell 0;have zl:=bR.lt;have zf:=bR.frozen 0;simp only [gz0] at x0 z0;obtain ⟨N,hN⟩:∃ N,w1.heap.size = N:=⟨_,rfl⟩;obtain ⟨W,hW⟩:∃ W,w1.alloc (.cells #[.slice a1 xa.length c1,.int .i64 xk,.int .i64 xs,.int .i64 xb,.int .i64 xp,.slice a2 xd.length c2,.int .i64 xg,.int .i64 xo] 24) = W:=⟨_,rfl⟩;have hmA:Mod Nowhere w1 W:=by rw [← hW];exact m1 w1 [.slice a1 xa.length c1,.int .i64 xk,.int .i64 xs,.int .i64 xb,.int .i64 xp,.slice a2 xd.length c2,.int .i64 xg,.int .i64 xo] _
  have bN:Blk W N [.slice a1 xa.length c1,.int .i64 xk,.int .i64 xs,.int .i64 xb,.int .i64 xp,.slice a2 xd.length c2,.int .i64 xg,.int .i64 xo] 24:=by rw [← hW,← hN];exact Blk.new w1 _ _
  have bS2:=bS.mod hmA id;have bR2:=bR.mod hmA id;have hel2:=hel.fresh hmA;have hmW:=hmw.trans hmA;have hNw:w.heap.size + 2≤N:=by have:=hm.size;simp at this;omega
  have s0:=bS2.cell 0;have sl:=bS2.lt;have r0:=bR2.cell 0;have rl:=bR2.lt;have rf:=bR2.frozen 0;have v0:=bN.cell 0;have v1:=bN.cell 1;have v2:=bN.cell 2;have v3:=bN.cell 3;have v4:=bN.cell 4;have v5:=bN.cell 5;have v6:=bN.cell 6;have v7:=bN.cell 7;have vl:=bN.lt;have vf:=bN.frozen;simp only [gz0,gs0] at v0 v1 v2 v3 v4 v5 v6 v7;simp only [gz0] at s0 r0;have hD2:=hD.out W hmW;replace hD2:=Lib.hid hD2;clear d1 d2;refine hid11 ?_ hm hmw bS bR hel hmA bN bS2 bR2 hel2 hmW;clear hm hmw bS bR hel hmA bN bS2 bR2 hel2 hmW;intro hm hmw bS bR hel hmA bN bS2 bR2 hel2 hmW
  go_upto_region 5 with (fail)
  clear q0 q1 q2 q3 q4 q5 q6 q7 ql x0 xl z0 zl zf hW hN;by_cases h1:xk = 1
  ·subst h1;have hR:=hno.out 22 (if_pos rfl) (by decide);replace hR:=Lib.hid hR;go_wp2;exact s_end rfl hR.out rfl rfl bR2.out (by omega) hel2.out hmW.out
  have h1b:((xk:Int) == 1) = false:=by simp;omega
  go_wp2_with fail;refine hD2.out.mono ?_;rintro r w2 ⟨rfl,hm2⟩;have bS3:=bS2.out.mod hm2 id;have bR5:=bR2.out.mod hm2 id;have bN3:=bN.out.mod hm2 id;have hel3:=hel2.out.fresh hm2;have hmX:=hmW.out.trans hm2;clear s0 sl r0 rl rf v0 v1 v2 v3 v4 v5 v6 v7 vl vf;have s0:=bS3.cell 0;have sl:=bS3.lt;have r0:=bR5.cell 0;have rl:=bR5.lt;have rf:=bR5.frozen 0;simp only [gz0] at s0 r0;have v0:=bN3.cell 0;have v1:=bN3.cell 1;have v2:=bN3.cell 2;have v3:=bN3.cell 3;have v4:=bN3.cell 4;have v5:=bN3.cell 5;have v6:=bN3.cell 6;have v7:=bN3.cell 7;have vl:=bN3.lt;have vf:=bN3.frozen;simp only [gz0,gs0] at v0 v1 v2 v3 v4 v5 v6 v7
  cases dq
  ·refine hid6 ?_ hm2 bS3 bR5 bN3 hel3 hmX;clear hm2 bS3 bR5 bN3 hel3 hmX;intro hm2 bS3 bR5 bN3 hel3 hmX;have hR:=hno.out 12 (by rw [if_neg (by omega),if_pos rfl]) (by decide);replace hR:=Lib.hid hR;go_wp2;exact s_end rfl hR.out rfl rfl bR5.out (by omega) hel3.out hmX.out
  ·obtain ⟨ga,gc,W3,hrun,hg,hm4⟩:=hAp.out w2 hmX;have bS6:=bS3.mod hm4 id;have bR6:=bR5.mod hm4 id;have bN4:=bN3.mod hm4 id;have hmY:=hmX.trans hm4;have hmz:=hm4.size;have s0:=bS6.cell 0;have sl:=bS6.lt;have r0:=bR6.cell 0;have rl:=bR6.lt;have rf:=bR6.frozen 0;simp only [gz0] at s0 r0;have v0:=bN4.cell 0;have v1:=bN4.cell 1;have v2:=bN4.cell 2;have v3:=bN4.cell 3;have v4:=bN4.cell 4;have v5:=bN4.cell 5;have v6:=bN4.cell 6;have v7:=bN4.cell 7;have vl:=bN4.lt;have vf:=bN4.frozen;simp only [gz0,gs0] at v0 v1 v2 v3 v4 v5 v6 v7;refine hid12 ?_ hm2 bS3 bR5 bN3 hel3 hmX bS6 bR6 bN4 hmY hg hm4;clear hm2 bS3 bR5 bN3 hel3 hmX bS6 bR6 bN4 hmY hg hm4;intro hm2 bS3 bR5 bN3 hel3 hmX bS6 bR6 bN4 hmY hg hm4;have hR:=hyes.out ⟨xk,xs,xb,xp,xg,xo,xa,g⟩ (by rw [if_neg (by omega),if_neg (by decide)])
   have mN2:Mod (fun j=>j = N) W3 (W3.setCell ⟨N,5,none⟩ (.slice ga n2 gc)):=(Mod.refl (fun j=>j = N) W3).setCell (p:=⟨N,5,none⟩) (fun _=>rfl) (.slice ga n2 gc);have hmV:=hmY.out.own mN2 (by omega);obtain ⟨-,d1,d2⟩:=hce.out _ hmV;have bR3:=bR6.out.mod mN2 (by omega);have e2:=DSl.mod hg.out mN2 (shun1 bN4.out (by decide));have hC:=hWt.out _ _ _ ⟨xk,xs,xb,xp,xg,xo,xa,g⟩ (.slice a1 xa.length c1) (.slice ga n2 gc) (h.out.fresh hmV) d1 e2;unfold eCells at hC;dsimp only [En.raw] at hC;generalize L.set k ⟨xk,xs,xb,xp,xg,xo,xa,g⟩ = L' at *;refine hid7 ?_ hR mN2 hmV d1 d2 bR3 hC;clear hR mN2 hmV d1 d2 bR3 hC;intro hR mN2 hmV d1 d2 bR3 hC
   go_wp2_with (at_builtin;refine Lib.wpList_append_run _ rfl _ _ _ _ rfl _ _ (by rfl) (by rfl) _ _ hrun ?_;clear hrun)
   refine hC.out.mono ?_;rintro r w3 ⟨va',vc',rfl,hel3,hm3⟩;have bR4:=bR3.out.mod hm3 id;clear s0 sl r0 rl rf v0 v1 v2 v3 v4 v5 v6 v7 vl vf;have r0:=bR4.cell 0;have rl:=bR4.lt;have rf:=bR4.frozen 0;simp only [gz0] at r0;refine hid3 ?_ hel3 hm3 bR4;clear hel3 hm3 bR4;intro hel3 hm3 bR4;go_wp2;exact s_end rfl hR.out rfl rfl bR4.out (by omega) hel3.out (hmV.out.trans hm3.out)
end Go.Proofs.YthmahbfmfpjjcaaGreat
