/-
  The reference of keys: Spend.
-/
import Derived.Test.YtoehlaeaafalmaaGreatCK12
set_option linter.unusedVariables false
set_option linter.unusedSimpArgs false
set_option maxHeartbeats 4000000
set_option maxRecDepth 100000
namespace Go.Proofs.YtoehlaeaafalmaaGreat
open Go.RowKit
open Jn Vn Ky
attribute [local go_sem] Oper.semAt_some
namespace Ky
def rSpend (L:List KEn) (st kd:Int):List KEn × Nat × Nat:=match kfind L st kd with
 | none=>(L,0,19)
 | some e=>if e.tries = 0 then (L,0,18) else (rWith L e.less,e.tries - 1,0)
def rRestore (L:List KEn) (st kd:Int):List KEn × Nat:=match kfind L st kd with
 | none=>(L,19)
 | some e=>(rWith L e.full,0)
theorem Jg {L:List KEn} (h:KL L) {st kd:Int} (q:rHit L st kd = true):∃ hi:rIdx L st kd < L.length,kfind L st kd = some L[rIdx L st kd]:=by
 have hi:=Zcw q;refine ⟨hi,?_⟩;rw [h.idx,if_pos q,List.getElem?_eq_getElem hi]
theorem Jh {L:List KEn} (h:KL L) {st kd:Int} (q:rHit L st kd = false):kfind L st kd = none:=by rw [h.idx,if_neg (by rw [q];decide)]
end Ky
theorem boxm2 {w:World} (cs ds:List Value) (T U:TypeId):Mod Nowhere w ((w.alloc (.cells cs.toArray T)).alloc (.cells ds.toArray U)):=((Mod.refl _ w).alloc _).alloc _
theorem box2 {w:World} (cs ds:List Value) (T U:TypeId):∀ W,Mod Nowhere ((w.alloc (.cells cs.toArray T)).alloc (.cells ds.toArray U)) W→Blk W w.heap.size cs T∧Blk W (w.heap.size + 1) ds U:=fun W hm =>
 ⟨((Blk.new w cs T).mod ((Mod.refl Nowhere _).alloc _) id).mod hm id,by
  have:=(Blk.new (w.alloc (.cells cs.toArray T)) ds U).mod hm id
  simpa using this⟩
theorem ZQ {fn:Func} {p u v:Tmp} (h:fn.results = #[.cell p 32,.tmp u,.tmp v]) (tmps:Array Value) (w:World) (b:Nat) (c0:Value) (hp:tmps.getD p undef = ptr b) (hb:Blk w b [c0] 32) :
  (results fn tmps).run Tryz.prog w = .ok (.tuple #[.agg #[c0],tmps.getD u undef,tmps.getD v undef]) w:=by
 have k0:=hb.cell 0;simp only [gz0] at k0;simp only [results,h];simp only [List.mapM_cons,Array.mapM_eq_mapM_toList,Sem.run_bind,hp]
 go_simp
def SPost2 (w:World) (L:List KEn) (k er:Nat) (e:Ending) (w':World):Prop:=∃ va vc,e = .returned (.tuple #[.agg #[.slice va L.length vc],.int .i64 (k:Nat),errno er])∧RL w' va vc L∧Mod Nowhere w w'
def NS (X:World) (B:Nat) (RW:List KEn):Prop:=∃ xa xc,Blk X B [.slice xa RW.length xc] 32∧RL X xa xc RW
def SRel (B:Nat) (RW:List KEn) (X Y:World):Prop:=Mod (fun j=>j = B) X Y∧((∃ c,Blk X B [c] 32)→∃ c,Blk Y B [c] 32)∧(NS X B RW→NS Y B RW)
theorem SRel.refl (B:Nat) (RW:List KEn) (X:World):SRel B RW X X:=⟨Mod.refl _ _,id,id⟩
theorem SRel.trans (B:Nat) (RW:List KEn) (X Y Z:World) (h:SRel B RW X Y) (k:SRel B RW Y Z):SRel B RW X Z:=⟨h.1.trans k.1,fun x=>k.2.1 (h.2.1 x),fun x=>k.2.2 (h.2.2 x)⟩
theorem SRel.calm {B:Nat} {RW:List KEn} {X Y:World} (h:Mod Nowhere X Y):SRel B RW X Y:=⟨h.nowhere,fun ⟨c,b⟩=>⟨c,b.mod h id⟩,fun ⟨xa,xc,b,r⟩=>⟨xa,xc,b.mod h id,r.fresh h⟩⟩
theorem RL.srel {B:Nat} {RW L:List KEn} {X Y:World} {va:Option Addr} {vc:Nat} (h:RL X va vc L) (hb:∃ c,Blk X B [c] 32) (hR:SRel B RW X Y):RL Y va vc L:=by
 obtain ⟨c,hb⟩:=hb;exact h.mod hR.1 (Zh hb (by decide)) (Zh hb (by decide))
theorem SRel.store {B:Nat} {RW:List KEn} {X:World} {c0:Value} {xa:Option Addr} {xc:Nat} (hb:Blk X B [c0] 32) (hr:RL X xa xc RW):SRel B RW X (X.setCell ⟨B,0,none⟩ (.slice xa RW.length xc))∧NS (X.setCell ⟨B,0,none⟩ (.slice xa RW.length xc)) B RW:=by
 have m:Mod (fun k=>k = B) X (X.setCell ⟨B,0,none⟩ (.slice xa RW.length xc)):=(Mod.refl (fun k=>k = B) X).setCell (p:=⟨B,0,none⟩) (fun _=>rfl) _;have hn:NS (X.setCell ⟨B,0,none⟩ (.slice xa RW.length xc)) B RW:=⟨xa,xc,hb.setCell 0 _,hr.mod m (Zh hb (by decide)) (Zh hb (by decide))⟩;exact ⟨⟨m,fun _=>⟨_,hb.setCell 0 _⟩,fun _=>hn⟩,hn⟩
section
variable {w : World} {va : Option Addr} {vc : Nat} {L : List KEn}
theorem Zhp (h:RL w va vc L) (hK:KL L) (hlen:L.length≤1000) (st kd:Int) :
  Calls Tryz.prog 19 #[.agg #[.slice va L.length vc],.int .i64 st,.int .i64 kd] w (SPost2 w (rSpend L st kd).1 (rSpend L st kd).2.1 (rSpend L st kd).2.2):=by
 have hmA:=boxm2 (w:=w) [.slice va L.length vc] [.slice none 0 0] 32 32;have hbx:=box2 (w:=w) [.slice va L.length vc] [.slice none 0 0] 32 32;have hI:=Xb (h.fresh hmA) hlen st kd;have y0:=(hbx _ (Mod.refl _ _)).1.cell 0;have yl:=(hbx _ (Mod.refl _ _)).1.lt;simp only [gz0] at y0
 cases hh:rHit L st kd with
 | false =>
  have hfin:∀ W x y,RL W x y L→Mod Nowhere w W→(SPost2 w (rSpend L st kd).1 (rSpend L st kd).2.1 (rSpend L st kd).2.2) (.returned (.tuple #[.agg #[.slice x L.length y],.int .i64 0,errno 19])) W:=fun W x y hr hm=>by
   unfold rSpend;rw [Jh hK hh];exact ⟨x,y,rfl,hr,hm⟩
  rw [hh] at hI;have hat:=True.intro;generalize (SPost2 w (rSpend L st kd).1 (rSpend L st kd).2.1 (rSpend L st kd).2.2) = R at *;generalize rIdx L st kd = ix at *;generalize hn:L.length = n at *;refine hid7 ?_ hmA hbx hI hat hfin h hn;clear hmA hbx hI hat hfin h hn;intro hmA hbx hI hat hfin h hn;go_enter Tryz.func19,Tryz.ntmps19;go_wp2_with fail;refine hI.out.mono ?_;rintro e1 w1 ⟨rfl,hm1⟩;have hm01:=hmA.out.trans hm1;obtain ⟨b0,b1⟩:=hbx.out w1 hm1;clear y0 yl;have y0:=b0.cell 0;have yl:=b0.lt;have z0:=b1.cell 0;have zf:=b1.frozen;have zl:=b1.lt;simp only [gz0] at y0 z0;obtain ⟨q1,q2,q3⟩:=Zj hm01 (Nat.le_add_right _ _) b1 (.slice va n vc)
  have hf:=hfin.out _ va vc (q3 _ _ _ (h.out.fresh hm01)) q2;clear b0 b1 q2 q3;refine hid4 ?_ hf q1 hm01 hm1;clear hf q1 hm01 hm1;intro hf q1 hm01 hm1;go_wp2;refine bodyPost_ret (ZQ rfl _ _ (w.heap.size + 1) _ rfl q1.out) rfl ?_;exact hf.out
 | true =>
  obtain ⟨hi,hfd⟩:=Jg hK hh;obtain ⟨b,off,a,c,rfl,hblt,hat⟩:=h.at_ hi;have hko:=hK.ok _ (List.getElem_mem hi);have hiL:=hi;rw [hh] at hI;generalize L[rIdx L st kd] = en at *;by_cases ht:en.tries = 0
  ·have hfin:∀ W x y,RL W x y L→Mod Nowhere w W→(SPost2 w (rSpend L st kd).1 (rSpend L st kd).2.1 (rSpend L st kd).2.2) (.returned (.tuple #[.agg #[.slice x L.length y],.int .i64 0,errno 18])) W:=fun W x y hr hm=>by
    unfold rSpend;rw [hfd];dsimp only;rw [if_pos ht];exact ⟨x,y,rfl,hr,hm⟩
   rw [ht] at hat;generalize (SPost2 w (rSpend L st kd).1 (rSpend L st kd).2.1 (rSpend L st kd).2.2) = R at *;clear hfd hi hko hh ht;generalize rIdx L st kd = ix at *;generalize hn:L.length = n at *;have hii:(ix:Int) < (n:Int):=by omega
   obtain ⟨l1,l2⟩:=h.len0;unfold maxLen at l2;rw [hn] at l1;refine hid7 ?_ hmA hbx hI hat hfin h hn;clear hmA hbx hI hat hfin h hn;intro hmA hbx hI hat hfin h hn;go_enter Tryz.func19,Tryz.ntmps19;go_wp2_with fail;refine hI.out.mono ?_;rintro e1 w1 ⟨rfl,hm1⟩;have hm01:=hmA.out.trans hm1;obtain ⟨b0,b1⟩:=hbx.out w1 hm1;clear y0 yl;have y0:=b0.cell 0;have yl:=b0.lt;have z0:=b1.cell 0;have zf:=b1.frozen;have zl:=b1.lt;simp only [gz0] at y0 z0;obtain ⟨g0,g1,g2,g3,g4,g5,-⟩:=hat.out w1 hm01;clear g1 g2 g3 g4;obtain ⟨q1,q2,q3⟩:=Zj hm01 (Nat.le_add_right _ _) b1 (.slice (some ⟨b,off,none⟩) n vc);have hf:=hfin.out _ _ vc (q3 _ _ _ (h.out.fresh hm01)) q2
   clear b0 b1 q2 q3;refine hid4 ?_ hf q1 hm01 hm1;clear hf q1 hm01 hm1;intro hf q1 hm01 hm1;go_wp2;refine bodyPost_ret (ZQ rfl _ _ (w.heap.size + 1) _ rfl q1.out) rfl ?_;exact hf.out
  ·have hfin:∀ W x y,RL W x y (rWith L en.less)→Mod Nowhere w W→(SPost2 w (rSpend L st kd).1 (rSpend L st kd).2.1 (rSpend L st kd).2.2) (.returned (.tuple #[.agg #[.slice x (rWith L en.less).length y],.int .i64 ((en.tries:Nat) - 1),errno 0])) W:=fun W x y hr hm=>by
    unfold rSpend;rw [hfd];dsimp only;rw [if_neg ht];exact ⟨x,y,by rw [show ((en.tries - 1:Nat):Int) = (en.tries:Int) - 1 by omega];rfl,hr,hm⟩
   have hatR0:∀ W {X:World},Mod Nowhere w X→Mod (fun k=>k = w.heap.size + 1) X W→Shun (fun k=>k = w.heap.size + 1) X 5→b < W.heap.size∧W.cell? ⟨b,off + rIdx L st kd * 5,none⟩ = some (.int .i64 (en.set:Nat))∧W.cell? ⟨b,off + rIdx L st kd * 5 + 1,none⟩ = some (.int .i64 (en.kind:Nat))∧W.cell? ⟨b,off + rIdx L st kd * 5 + 2,none⟩ = some (.slice a en.val.length c) ∧
     W.cell? ⟨b,off + rIdx L st kd * 5 + 3,none⟩ = some (.int .i64 (en.lim:Nat))∧W.cell? ⟨b,off + rIdx L st kd * 5 + 4,none⟩ = some (.int .i64 (en.tries:Nat))∧DSl W (.slice a en.val.length c) en.val:=fun W X hX hm hS=>by
    obtain ⟨g0,g1,g2,g3,g4,g5,g6⟩:=hat X hX;have hne:¬ b = w.heap.size + 1:=by omega
    have cc:∀ o v,X.cell? ⟨b,o,none⟩ = some v→W.cell? ⟨b,o,none⟩ = some v:=fun o v hv=>(hm.cell (p:=⟨b,o,none⟩) g0 hne).trans hv;exact ⟨Nat.lt_of_lt_of_le g0 hm.size,cc _ _ g1,cc _ _ g2,cc _ _ g3,cc _ _ g4,cc _ _ g5,DSl.mod g6 hm hS⟩
   have hW:=fun W (hr:RL W (some ⟨b,off,none⟩) vc L) (hd:DSl W (.slice a en.val.length c) en.val)=>Jf hr hlen (e:=en.less) (v:=.slice a en.val.length c) hd.src (by show en.val.length≤1000;rw [hko.v16];decide);have et1:((en.less.tries:Nat):Int) = (en.tries:Int) - 1:=by show ((en.tries - 1:Nat):Int) = _;omega
   rw [et1] at hW;have e1:en.less.set = en.set:=rfl;have e2:en.less.kind = en.kind:=rfl;have e3:en.less.lim = en.lim:=rfl;rw [e1,e2,e3] at hW;have ht2:¬ (en.tries:Int) = 0:=by omega
   have hw64:IntKind.i64.wrap ((en.tries:Int) - 1) = (en.tries:Int) - 1:=by
    have q1:=hko.tl;have q2:=hko.l15;rw [IntKind.wrap_i64];omega
   generalize (SPost2 w (rSpend L st kd).1 (rSpend L st kd).2.1 (rSpend L st kd).2.2) = R at *;generalize rWith L en.less = RW at *;clear hfd hi hko hh ht et1 e1 e2 e3;generalize en.val = ev at *;generalize en.set = es at *;generalize en.kind = ek at *;generalize en.lim = el at *;generalize en.tries = et at *;generalize rIdx L st kd = ix at *;generalize hn:L.length = n at *;generalize ev.length = vn at *;have hii:(ix:Int) < (n:Int):=by omega
   obtain ⟨l1,l2⟩:=h.len0;unfold maxLen at l2;rw [hn] at l1;refine hid9 ?_ hmA hbx hI hat hfin h hn hW hatR0;clear hmA hbx hI hat hfin h hn hW hatR0;intro hmA hbx hI hat hfin h hn hW hatR0;go_enter Tryz.func19,Tryz.ntmps19;go_wp2_with fail;refine hI.out.mono ?_;rintro e1 w1 ⟨rfl,hm1⟩;have hm01:=hmA.out.trans hm1;obtain ⟨b0,b1⟩:=hbx.out w1 hm1;clear y0 yl;have y0:=b0.cell 0;have yl:=b0.lt;have z0:=b1.cell 0;have zf:=b1.frozen;have zl:=b1.lt;simp only [gz0] at y0 z0;obtain ⟨g0,g1,g2,g3,g4,g5,-⟩:=hat.out w1 hm01;have hdr:Mod Nowhere w1 w1.drew:=(Mod.refl Nowhere w1).drew;have b1d:=b1.mod hdr id
   have hcR:∀ W,SRel (w.heap.size + 1) RW w1.drew W→∃ c,Blk W (w.heap.size + 1) [c] 32:=fun W hR=>hR.2.1 ⟨_,b1d⟩;have shE:=Zh (U:=111) b1d (by decide);have shU:=Zh (U:=5) b1d (by decide);have hbR:∀ W,SRel (w.heap.size + 1) RW w1.drew W→Blk W w.heap.size [.slice (some ⟨b,off,none⟩) n vc] 32:=fun W hR=>(b0.mod hdr id).mod hR.1 (fun e=>by have e:w.heap.size = w.heap.size + 1:=e;omega);have hrL:=h.out.fresh (hm01.trans hdr);have hatR:∀ W,SRel (w.heap.size + 1) RW w1.drew W→_:=fun W hR=>hatR0.out W (hm01.trans hdr) hR.1 shU;have hWR:=fun W (hR:SRel (w.heap.size + 1) RW w1.drew W)=>hW.out W (hrL.mod hR.1 shE shU) (hatR W hR).2.2.2.2.2.2
   clear g1 g2 g3 g4 b0 b1 hrL shE shU b1d;refine hid6 ?_ hm1 hm01 hcR hbR hatR hWR;clear hm1 hm01 hcR hbR hatR hWR;intro hm1 hm01 hcR hbR hatR hWR;clear hdr;go_wp2_with fail;rw [show ((et:Int) == 0) = false from beq_eq_false_iff_ne.2 ht2];refine YX (fun i v W0=>∀ w',(SRel (w.heap.size + 1) RW) W0 w'→match i with | 0=>(v = .agg #[.slice (some ⟨b,off,none⟩) n vc]) | 1=>(v = .pointer (some ⟨w.heap.size,0,none⟩)) | 2=>(v = .slice (some ⟨b,off,none⟩) n vc) | 3=>(v = .int .i64 (ix:Nat)) | 4=>(v = .pointer (some ⟨b,off + ix * 5,none⟩)) | 5=>(v = .pointer (some ⟨b,off + ix * 5,none⟩)) | 6=>(v = .agg #[.int .i64 (es:Nat),.int .i64 (ek:Nat),.slice a vn c,.int .i64 (el:Nat)]) | 7=>(v = .pointer (some ⟨w.heap.size,0,none⟩)) | 8=>(v = .slice (some ⟨b,off,none⟩) n vc) | 9=>(v = .int .i64 (ix:Nat)) | 10=>(v = .pointer (some ⟨b,off + ix * 5,none⟩)) | 11=>(v = .pointer (some ⟨b,off + ix * 5 + 4,none⟩)) | 12=>(v = .int .i64 (et:Nat)) | 13=>(v = .int .i64 ((et:Int) - 1)) | 14=>(∃ (xa:Option Addr) (xc:Nat),v = .agg #[.slice xa RW.length xc]∧RL w' xa xc RW) | 15=>(v = .pointer (some ⟨w.heap.size,0,none⟩)) | 16=>(v = .slice (some ⟨b,off,none⟩) n vc) | 17=>(v = .int .i64 (ix:Nat)) | 18=>(v = .pointer (some ⟨b,off + ix * 5,none⟩)) | 19=>(v = .pointer (some ⟨b,off + ix * 5 + 4,none⟩)) | 20=>(v = .int .i64 (et:Nat)) | 21=>(v = .int .i64 ((et:Int) - 1)) | 22=>(NS w' (w.heap.size + 1) RW) | 23=>(v = .int .i64 ((et:Int) - 1)) | 24=>(v = errno 0) | _=>True) (SRel (w.heap.size + 1) RW) ?A_ (by first | assumption | kernel_rfl) (by kernel_rfl) (by kernel_rfl) (SRel.refl _ _) (SRel.trans _ _) (fun i v w1 w2 h hR Z hZ=>h Z (SRel.trans _ _ _ _ _ hR hZ)) ?hA_ ?hS_ ?hE_
   case hA_=>intro xs;simp [putAll,List.range,List.range.loop,Act.put] <;> rfl
   case hS_ =>
    refine ⟨?_,?_,?_,?_,?_,?_,?_,?_,?_,?_,?_,?_,?_,?_,?_,?_,?_,?_,?_,?_,?_,?_,?_,?_,?_,trivial⟩
    ·-- 0: t29:=load(32,t3)
     intro yv w' hR hF K hK;clear hF;have b2:=hbR.out w' hR;have y0:=b2.cell 0;have yl:=b2.lt;simp only [gz0] at y0;clear b2
     go_simp
     exact hK _ _ (fun _ _=>rfl) (SRel.refl _ _ _)
    ·-- 1: t30:=fieldAddr(32,t3,0)
     intro yv w' hR hF K hK;clear hF
     go_simp
     exact hK _ _ (fun _ _=>by first | trivial | rfl | simp [*]) (SRel.refl _ _ _)
    ·-- 2: t31:=load(30,t30)
     intro yv w' hR hF K hK;have f1:(yv 1) = .pointer (some ⟨w.heap.size,0,none⟩):=hF 1 (by kernel_rfl) w' (SRel.refl _ _ w');clear hF;generalize yv 1 = y1 at *;subst f1;have b2:=hbR.out w' hR;have y0:=b2.cell 0;have yl:=b2.lt;simp only [gz0] at y0;clear b2
     go_simp
     exact hK _ _ (fun _ _=>rfl) (SRel.refl _ _ _)
    ·-- 3: t32:=move(t9)
     intro yv w' hR hF K hK;clear hF
     go_simp
     exact hK _ _ (fun _ _=>by first | trivial | rfl | simp [*]) (SRel.refl _ _ _)
    ·-- 4: t33:=indexAddr(30,t31,t32)
     intro yv w' hR hF K hK;have f2:(yv 2) = .slice (some ⟨b,off,none⟩) n vc:=hF 2 (by kernel_rfl) w' (SRel.refl _ _ w');have f3:(yv 3) = .int .i64 (ix:Nat):=hF 3 (by kernel_rfl) w' (SRel.refl _ _ w');clear hF;generalize yv 2 = y2 at *;subst f2;generalize yv 3 = y3 at *;subst f3
     go_simp
     exact hK _ _ (fun _ _=>by first | trivial | rfl | simp [*]) (SRel.refl _ _ _)
    ·-- 5: t34:=fieldAddr(111,t33,0)
     intro yv w' hR hF K hK;have f4:(yv 4) = .pointer (some ⟨b,off + ix * 5,none⟩):=hF 4 (by kernel_rfl) w' (SRel.refl _ _ w');clear hF;generalize yv 4 = y4 at *;subst f4
     go_simp
     exact hK _ _ (fun _ _=>by first | trivial | rfl | simp [*]) (SRel.refl _ _ _)
    ·-- 6: t35:=load(39,t34)
     intro yv w' hR hF K hK;have f5:(yv 5) = .pointer (some ⟨b,off + ix * 5,none⟩):=hF 5 (by kernel_rfl) w' (SRel.refl _ _ w');clear hF;generalize yv 5 = y5 at *;subst f5;obtain ⟨g0,g1,g2,g3,g4,g5,-⟩:=hatR.out w' hR
     go_simp
     exact hK _ _ (fun _ _=>rfl) (SRel.refl _ _ _)
    ·-- 7: t36:=fieldAddr(32,t3,0)
     intro yv w' hR hF K hK;clear hF
     go_simp
     exact hK _ _ (fun _ _=>by first | trivial | rfl | simp [*]) (SRel.refl _ _ _)
    ·-- 8: t37:=load(30,t36)
     intro yv w' hR hF K hK;have f7:(yv 7) = .pointer (some ⟨w.heap.size,0,none⟩):=hF 7 (by kernel_rfl) w' (SRel.refl _ _ w');clear hF;generalize yv 7 = y7 at *;subst f7;have b2:=hbR.out w' hR;have y0:=b2.cell 0;have yl:=b2.lt;simp only [gz0] at y0;clear b2
     go_simp
     exact hK _ _ (fun _ _=>rfl) (SRel.refl _ _ _)
    ·-- 9: t38:=move(t9)
     intro yv w' hR hF K hK;clear hF
     go_simp
     exact hK _ _ (fun _ _=>by first | trivial | rfl | simp [*]) (SRel.refl _ _ _)
    ·-- 10: t39:=indexAddr(30,t37,t38)
     intro yv w' hR hF K hK;have f8:(yv 8) = .slice (some ⟨b,off,none⟩) n vc:=hF 8 (by kernel_rfl) w' (SRel.refl _ _ w');have f9:(yv 9) = .int .i64 (ix:Nat):=hF 9 (by kernel_rfl) w' (SRel.refl _ _ w');clear hF;generalize yv 8 = y8 at *;subst f8;generalize yv 9 = y9 at *;subst f9
     go_simp
     exact hK _ _ (fun _ _=>by first | trivial | rfl | simp [*]) (SRel.refl _ _ _)
    ·-- 11: t40:=fieldAddr(111,t39,1)
     intro yv w' hR hF K hK;have f10:(yv 10) = .pointer (some ⟨b,off + ix * 5,none⟩):=hF 10 (by kernel_rfl) w' (SRel.refl _ _ w');clear hF;generalize yv 10 = y10 at *;subst f10
     go_simp
     exact hK _ _ (fun _ _=>by first | trivial | rfl | simp [*]) (SRel.refl _ _ _)
    ·-- 12: t41:=load(3,t40)
     intro yv w' hR hF K hK;have f11:(yv 11) = .pointer (some ⟨b,off + ix * 5 + 4,none⟩):=hF 11 (by kernel_rfl) w' (SRel.refl _ _ w');clear hF;generalize yv 11 = y11 at *;subst f11;obtain ⟨g0,g1,g2,g3,g4,g5,-⟩:=hatR.out w' hR
     go_simp
     exact hK _ _ (fun _ _=>rfl) (SRel.refl _ _ _)
    ·-- 13: t42:=binOp(sub,3,t41,1:i64,3)
     intro yv w' hR hF K hK;have f12:(yv 12) = .int .i64 (et:Nat):=hF 12 (by kernel_rfl) w' (SRel.refl _ _ w');clear hF;generalize yv 12 = y12 at *;subst f12
     go_simp
     exact hK _ _ (fun _ _=>by first | trivial | rfl | simp [*]) (SRel.refl _ _ _)
    ·-- 14: t43:=CALL F56 (t29,t35,t42)
     intro yv w' hR hF K hK;have f0:(yv 0) = .agg #[.slice (some ⟨b,off,none⟩) n vc]:=hF 0 (by kernel_rfl) w' (SRel.refl _ _ w');have f6:(yv 6) = .agg #[.int .i64 (es:Nat),.int .i64 (ek:Nat),.slice a vn c,.int .i64 (el:Nat)]:=hF 6 (by kernel_rfl) w' (SRel.refl _ _ w');have f13:(yv 13) = .int .i64 ((et:Int) - 1):=hF 13 (by kernel_rfl) w' (SRel.refl _ _ w');clear hF;generalize yv 0 = y0 at *;subst f0;generalize yv 6 = y6 at *;subst f6;generalize yv 13 = y13 at *;subst f13;have hc:=hWR.out w' hR;replace hc:=Lib.hid hc
     go_simp
     go_at_call 56
     refine hc.out.mono ?_;rintro e w9 ⟨xa,xc,rfl,hr9,hm9⟩;have hb9:=(SRel.calm (B:=w.heap.size + 1) (RW:=RW) hm9).2.1 (hcR.out w' hR);exact hK _ _ (fun W hW=>⟨xa,xc,rfl,hr9.srel hb9 hW⟩) (SRel.calm hm9)
    ·-- 15: t44:=fieldAddr(32,t3,0)
     intro yv w' hR hF K hK;clear hF
     go_simp
     exact hK _ _ (fun _ _=>by first | trivial | rfl | simp [*]) (SRel.refl _ _ _)
    ·-- 16: t45:=load(30,t44)
     intro yv w' hR hF K hK;have f15:(yv 15) = .pointer (some ⟨w.heap.size,0,none⟩):=hF 15 (by kernel_rfl) w' (SRel.refl _ _ w');clear hF;generalize yv 15 = y15 at *;subst f15;have b2:=hbR.out w' hR;have y0:=b2.cell 0;have yl:=b2.lt;simp only [gz0] at y0;clear b2
     go_simp
     exact hK _ _ (fun _ _=>rfl) (SRel.refl _ _ _)
    ·-- 17: t46:=move(t9)
     intro yv w' hR hF K hK;clear hF
     go_simp
     exact hK _ _ (fun _ _=>by first | trivial | rfl | simp [*]) (SRel.refl _ _ _)
    ·-- 18: t47:=indexAddr(30,t45,t46)
     intro yv w' hR hF K hK;have f16:(yv 16) = .slice (some ⟨b,off,none⟩) n vc:=hF 16 (by kernel_rfl) w' (SRel.refl _ _ w');have f17:(yv 17) = .int .i64 (ix:Nat):=hF 17 (by kernel_rfl) w' (SRel.refl _ _ w');clear hF;generalize yv 16 = y16 at *;subst f16;generalize yv 17 = y17 at *;subst f17
     go_simp
     exact hK _ _ (fun _ _=>by first | trivial | rfl | simp [*]) (SRel.refl _ _ _)
    ·-- 19: t48:=fieldAddr(111,t47,1)
     intro yv w' hR hF K hK;have f18:(yv 18) = .pointer (some ⟨b,off + ix * 5,none⟩):=hF 18 (by kernel_rfl) w' (SRel.refl _ _ w');clear hF;generalize yv 18 = y18 at *;subst f18
     go_simp
     exact hK _ _ (fun _ _=>by first | trivial | rfl | simp [*]) (SRel.refl _ _ _)
    ·-- 20: t49:=load(3,t48)
     intro yv w' hR hF K hK;have f19:(yv 19) = .pointer (some ⟨b,off + ix * 5 + 4,none⟩):=hF 19 (by kernel_rfl) w' (SRel.refl _ _ w');clear hF;generalize yv 19 = y19 at *;subst f19;obtain ⟨g0,g1,g2,g3,g4,g5,-⟩:=hatR.out w' hR
     go_simp
     exact hK _ _ (fun _ _=>rfl) (SRel.refl _ _ _)
    ·-- 21: t50:=binOp(sub,3,t49,1:i64,3)
     intro yv w' hR hF K hK;have f20:(yv 20) = .int .i64 (et:Nat):=hF 20 (by kernel_rfl) w' (SRel.refl _ _ w');clear hF;generalize yv 20 = y20 at *;subst f20
     go_simp
     exact hK _ _ (fun _ _=>by first | trivial | rfl | simp [*]) (SRel.refl _ _ _)
    ·-- 22: store(32,t6,t43)
     intro yv w' hR hF K hK;have f14:∃ (xa:Option Addr) (xc:Nat),(yv 14) = .agg #[.slice xa RW.length xc]∧RL w' xa xc RW:=hF 14 (by kernel_rfl) w' (SRel.refl _ _ w');have f0:(yv 0) = .agg #[.slice (some ⟨b,off,none⟩) n vc]:=hF 0 (by kernel_rfl) w' (SRel.refl _ _ w');have f1:(yv 1) = .pointer (some ⟨w.heap.size,0,none⟩):=hF 1 (by kernel_rfl) w' (SRel.refl _ _ w');have f2:(yv 2) = .slice (some ⟨b,off,none⟩) n vc:=hF 2 (by kernel_rfl) w' (SRel.refl _ _ w');have f3:(yv 3) = .int .i64 (ix:Nat):=hF 3 (by kernel_rfl) w' (SRel.refl _ _ w');have f4:(yv 4) = .pointer (some ⟨b,off + ix * 5,none⟩):=hF 4 (by kernel_rfl) w' (SRel.refl _ _ w');have f5:(yv 5) = .pointer (some ⟨b,off + ix * 5,none⟩):=hF 5 (by kernel_rfl) w' (SRel.refl _ _ w')
     have f6:(yv 6) = .agg #[.int .i64 (es:Nat),.int .i64 (ek:Nat),.slice a vn c,.int .i64 (el:Nat)]:=hF 6 (by kernel_rfl) w' (SRel.refl _ _ w');have f7:(yv 7) = .pointer (some ⟨w.heap.size,0,none⟩):=hF 7 (by kernel_rfl) w' (SRel.refl _ _ w');have f8:(yv 8) = .slice (some ⟨b,off,none⟩) n vc:=hF 8 (by kernel_rfl) w' (SRel.refl _ _ w');have f9:(yv 9) = .int .i64 (ix:Nat):=hF 9 (by kernel_rfl) w' (SRel.refl _ _ w');have f10:(yv 10) = .pointer (some ⟨b,off + ix * 5,none⟩):=hF 10 (by kernel_rfl) w' (SRel.refl _ _ w');have f11:(yv 11) = .pointer (some ⟨b,off + ix * 5 + 4,none⟩):=hF 11 (by kernel_rfl) w' (SRel.refl _ _ w');have f12:(yv 12) = .int .i64 (et:Nat):=hF 12 (by kernel_rfl) w' (SRel.refl _ _ w')
     have f13:(yv 13) = .int .i64 ((et:Int) - 1):=hF 13 (by kernel_rfl) w' (SRel.refl _ _ w');clear hF;generalize yv 14 = y14 at *;generalize yv 0 = y0 at *;subst f0;generalize yv 1 = y1 at *;subst f1;generalize yv 2 = y2 at *;subst f2;generalize yv 3 = y3 at *;subst f3;generalize yv 4 = y4 at *;subst f4;generalize yv 5 = y5 at *;subst f5;generalize yv 6 = y6 at *;subst f6;generalize yv 7 = y7 at *;subst f7;generalize yv 8 = y8 at *;subst f8;generalize yv 9 = y9 at *;subst f9;generalize yv 10 = y10 at *;subst f10;generalize yv 11 = y11 at *;subst f11;generalize yv 12 = y12 at *;subst f12
     generalize yv 13 = y13 at *;subst f13;obtain ⟨xa,xc,rfl,hr⟩:=f14;obtain ⟨c1,b1⟩:=hcR.out w' hR;have hr2:=hr;have z0:=b1.cell 0;have zf:=b1.frozen;have zl:=b1.lt;simp only [gz0] at z0;have hst:=SRel.store b1 hr2;obtain ⟨hs1,hs2⟩:=hst;generalize RW.length = m at *;refine hid5 ?_ hs1 hs2 hr hr2 b1;clear hs1 hs2 hr hr2 b1;intro hs1 hs2 hr hr2 b1
     go_simp
     exact hK undef _ (fun W hW=>hW.2.2 hs2.out) hs1.out
    ·-- 23: t7:=assign(t50)
     intro yv w' hR hF K hK;have f21:(yv 21) = .int .i64 ((et:Int) - 1):=hF 21 (by kernel_rfl) w' (SRel.refl _ _ w');have f22:NS w' (w.heap.size + 1) RW:=hF 22 (by kernel_rfl) w' (SRel.refl _ _ w');have f0:(yv 0) = .agg #[.slice (some ⟨b,off,none⟩) n vc]:=hF 0 (by kernel_rfl) w' (SRel.refl _ _ w');have f1:(yv 1) = .pointer (some ⟨w.heap.size,0,none⟩):=hF 1 (by kernel_rfl) w' (SRel.refl _ _ w');have f2:(yv 2) = .slice (some ⟨b,off,none⟩) n vc:=hF 2 (by kernel_rfl) w' (SRel.refl _ _ w');have f3:(yv 3) = .int .i64 (ix:Nat):=hF 3 (by kernel_rfl) w' (SRel.refl _ _ w');have f4:(yv 4) = .pointer (some ⟨b,off + ix * 5,none⟩):=hF 4 (by kernel_rfl) w' (SRel.refl _ _ w')
     have f5:(yv 5) = .pointer (some ⟨b,off + ix * 5,none⟩):=hF 5 (by kernel_rfl) w' (SRel.refl _ _ w');have f6:(yv 6) = .agg #[.int .i64 (es:Nat),.int .i64 (ek:Nat),.slice a vn c,.int .i64 (el:Nat)]:=hF 6 (by kernel_rfl) w' (SRel.refl _ _ w');have f7:(yv 7) = .pointer (some ⟨w.heap.size,0,none⟩):=hF 7 (by kernel_rfl) w' (SRel.refl _ _ w');have f8:(yv 8) = .slice (some ⟨b,off,none⟩) n vc:=hF 8 (by kernel_rfl) w' (SRel.refl _ _ w');have f9:(yv 9) = .int .i64 (ix:Nat):=hF 9 (by kernel_rfl) w' (SRel.refl _ _ w');have f10:(yv 10) = .pointer (some ⟨b,off + ix * 5,none⟩):=hF 10 (by kernel_rfl) w' (SRel.refl _ _ w');have f11:(yv 11) = .pointer (some ⟨b,off + ix * 5 + 4,none⟩):=hF 11 (by kernel_rfl) w' (SRel.refl _ _ w')
     have f12:(yv 12) = .int .i64 (et:Nat):=hF 12 (by kernel_rfl) w' (SRel.refl _ _ w');have f13:(yv 13) = .int .i64 ((et:Int) - 1):=hF 13 (by kernel_rfl) w' (SRel.refl _ _ w');have f14:∃ (xa:Option Addr) (xc:Nat),(yv 14) = .agg #[.slice xa RW.length xc]∧RL w' xa xc RW:=hF 14 (by kernel_rfl) w' (SRel.refl _ _ w');have f15:(yv 15) = .pointer (some ⟨w.heap.size,0,none⟩):=hF 15 (by kernel_rfl) w' (SRel.refl _ _ w');have f16:(yv 16) = .slice (some ⟨b,off,none⟩) n vc:=hF 16 (by kernel_rfl) w' (SRel.refl _ _ w');have f17:(yv 17) = .int .i64 (ix:Nat):=hF 17 (by kernel_rfl) w' (SRel.refl _ _ w');have f18:(yv 18) = .pointer (some ⟨b,off + ix * 5,none⟩):=hF 18 (by kernel_rfl) w' (SRel.refl _ _ w')
     have f19:(yv 19) = .pointer (some ⟨b,off + ix * 5 + 4,none⟩):=hF 19 (by kernel_rfl) w' (SRel.refl _ _ w');have f20:(yv 20) = .int .i64 (et:Nat):=hF 20 (by kernel_rfl) w' (SRel.refl _ _ w');clear hF;generalize yv 21 = y21 at *;subst f21;generalize yv 22 = y22 at *;generalize yv 0 = y0 at *;subst f0;generalize yv 1 = y1 at *;subst f1;generalize yv 2 = y2 at *;subst f2;generalize yv 3 = y3 at *;subst f3;generalize yv 4 = y4 at *;subst f4;generalize yv 5 = y5 at *;subst f5;generalize yv 6 = y6 at *;subst f6;generalize yv 7 = y7 at *;subst f7;generalize yv 8 = y8 at *;subst f8;generalize yv 9 = y9 at *
     subst f9;generalize yv 10 = y10 at *;subst f10;generalize yv 11 = y11 at *;subst f11;generalize yv 12 = y12 at *;subst f12;generalize yv 13 = y13 at *;subst f13;generalize yv 14 = y14 at *;generalize yv 15 = y15 at *;subst f15;generalize yv 16 = y16 at *;subst f16;generalize yv 17 = y17 at *;subst f17;generalize yv 18 = y18 at *;subst f18;generalize yv 19 = y19 at *;subst f19;generalize yv 20 = y20 at *;subst f20
     go_simp
     exact hK _ _ (fun _ _=>by first | trivial | rfl | simp [*]) (SRel.refl _ _ _)
    ·-- 24: t8:=assign(0:i64)
     intro yv w' hR hF K hK;have f23:(yv 23) = .int .i64 ((et:Int) - 1):=hF 23 (by kernel_rfl) w' (SRel.refl _ _ w');have f0:(yv 0) = .agg #[.slice (some ⟨b,off,none⟩) n vc]:=hF 0 (by kernel_rfl) w' (SRel.refl _ _ w');have f1:(yv 1) = .pointer (some ⟨w.heap.size,0,none⟩):=hF 1 (by kernel_rfl) w' (SRel.refl _ _ w');have f2:(yv 2) = .slice (some ⟨b,off,none⟩) n vc:=hF 2 (by kernel_rfl) w' (SRel.refl _ _ w');have f3:(yv 3) = .int .i64 (ix:Nat):=hF 3 (by kernel_rfl) w' (SRel.refl _ _ w');have f4:(yv 4) = .pointer (some ⟨b,off + ix * 5,none⟩):=hF 4 (by kernel_rfl) w' (SRel.refl _ _ w');have f5:(yv 5) = .pointer (some ⟨b,off + ix * 5,none⟩):=hF 5 (by kernel_rfl) w' (SRel.refl _ _ w')
     have f6:(yv 6) = .agg #[.int .i64 (es:Nat),.int .i64 (ek:Nat),.slice a vn c,.int .i64 (el:Nat)]:=hF 6 (by kernel_rfl) w' (SRel.refl _ _ w');have f7:(yv 7) = .pointer (some ⟨w.heap.size,0,none⟩):=hF 7 (by kernel_rfl) w' (SRel.refl _ _ w');have f8:(yv 8) = .slice (some ⟨b,off,none⟩) n vc:=hF 8 (by kernel_rfl) w' (SRel.refl _ _ w');have f9:(yv 9) = .int .i64 (ix:Nat):=hF 9 (by kernel_rfl) w' (SRel.refl _ _ w');have f10:(yv 10) = .pointer (some ⟨b,off + ix * 5,none⟩):=hF 10 (by kernel_rfl) w' (SRel.refl _ _ w');have f11:(yv 11) = .pointer (some ⟨b,off + ix * 5 + 4,none⟩):=hF 11 (by kernel_rfl) w' (SRel.refl _ _ w');have f12:(yv 12) = .int .i64 (et:Nat):=hF 12 (by kernel_rfl) w' (SRel.refl _ _ w')
     have f13:(yv 13) = .int .i64 ((et:Int) - 1):=hF 13 (by kernel_rfl) w' (SRel.refl _ _ w');have f14:∃ (xa:Option Addr) (xc:Nat),(yv 14) = .agg #[.slice xa RW.length xc]∧RL w' xa xc RW:=hF 14 (by kernel_rfl) w' (SRel.refl _ _ w');have f15:(yv 15) = .pointer (some ⟨w.heap.size,0,none⟩):=hF 15 (by kernel_rfl) w' (SRel.refl _ _ w');have f16:(yv 16) = .slice (some ⟨b,off,none⟩) n vc:=hF 16 (by kernel_rfl) w' (SRel.refl _ _ w');have f17:(yv 17) = .int .i64 (ix:Nat):=hF 17 (by kernel_rfl) w' (SRel.refl _ _ w');have f18:(yv 18) = .pointer (some ⟨b,off + ix * 5,none⟩):=hF 18 (by kernel_rfl) w' (SRel.refl _ _ w');have f19:(yv 19) = .pointer (some ⟨b,off + ix * 5 + 4,none⟩):=hF 19 (by kernel_rfl) w' (SRel.refl _ _ w')
     have f20:(yv 20) = .int .i64 (et:Nat):=hF 20 (by kernel_rfl) w' (SRel.refl _ _ w');have f21:(yv 21) = .int .i64 ((et:Int) - 1):=hF 21 (by kernel_rfl) w' (SRel.refl _ _ w');have f22:NS w' (w.heap.size + 1) RW:=hF 22 (by kernel_rfl) w' (SRel.refl _ _ w');clear hF;generalize yv 23 = y23 at *;subst f23;generalize yv 0 = y0 at *;subst f0;generalize yv 1 = y1 at *;subst f1;generalize yv 2 = y2 at *;subst f2;generalize yv 3 = y3 at *;subst f3;generalize yv 4 = y4 at *;subst f4;generalize yv 5 = y5 at *;subst f5;generalize yv 6 = y6 at *;subst f6;generalize yv 7 = y7 at *;subst f7
     generalize yv 8 = y8 at *;subst f8;generalize yv 9 = y9 at *;subst f9;generalize yv 10 = y10 at *;subst f10;generalize yv 11 = y11 at *;subst f11;generalize yv 12 = y12 at *;subst f12;generalize yv 13 = y13 at *;subst f13;generalize yv 14 = y14 at *;generalize yv 15 = y15 at *;subst f15;generalize yv 16 = y16 at *;subst f16;generalize yv 17 = y17 at *;subst f17;generalize yv 18 = y18 at *;subst f18;generalize yv 19 = y19 at *;subst f19;generalize yv 20 = y20 at *;subst f20;generalize yv 21 = y21 at *;subst f21;generalize yv 22 = y22 at *
     go_simp
     exact hK _ _ (fun _ _=>by first | trivial | rfl | simp [*]) (SRel.refl _ _ _)
   case hE_ =>
    intro yv w' hR hF;have f0:(yv 0) = .agg #[.slice (some ⟨b,off,none⟩) n vc]:=hF 0 (by simp) w' (SRel.refl _ _ w');have f1:(yv 1) = .pointer (some ⟨w.heap.size,0,none⟩):=hF 1 (by simp) w' (SRel.refl _ _ w');have f2:(yv 2) = .slice (some ⟨b,off,none⟩) n vc:=hF 2 (by simp) w' (SRel.refl _ _ w');have f3:(yv 3) = .int .i64 (ix:Nat):=hF 3 (by simp) w' (SRel.refl _ _ w');have f4:(yv 4) = .pointer (some ⟨b,off + ix * 5,none⟩):=hF 4 (by simp) w' (SRel.refl _ _ w');have f5:(yv 5) = .pointer (some ⟨b,off + ix * 5,none⟩):=hF 5 (by simp) w' (SRel.refl _ _ w');have f6:(yv 6) = .agg #[.int .i64 (es:Nat),.int .i64 (ek:Nat),.slice a vn c,.int .i64 (el:Nat)]:=hF 6 (by simp) w' (SRel.refl _ _ w');have f7:(yv 7) = .pointer (some ⟨w.heap.size,0,none⟩):=hF 7 (by simp) w' (SRel.refl _ _ w')
    have f8:(yv 8) = .slice (some ⟨b,off,none⟩) n vc:=hF 8 (by simp) w' (SRel.refl _ _ w');have f9:(yv 9) = .int .i64 (ix:Nat):=hF 9 (by simp) w' (SRel.refl _ _ w');have f10:(yv 10) = .pointer (some ⟨b,off + ix * 5,none⟩):=hF 10 (by simp) w' (SRel.refl _ _ w');have f11:(yv 11) = .pointer (some ⟨b,off + ix * 5 + 4,none⟩):=hF 11 (by simp) w' (SRel.refl _ _ w');have f12:(yv 12) = .int .i64 (et:Nat):=hF 12 (by simp) w' (SRel.refl _ _ w');have f13:(yv 13) = .int .i64 ((et:Int) - 1):=hF 13 (by simp) w' (SRel.refl _ _ w');have f14:∃ (xa:Option Addr) (xc:Nat),(yv 14) = .agg #[.slice xa RW.length xc]∧RL w' xa xc RW:=hF 14 (by simp) w' (SRel.refl _ _ w');have f15:(yv 15) = .pointer (some ⟨w.heap.size,0,none⟩):=hF 15 (by simp) w' (SRel.refl _ _ w')
    have f16:(yv 16) = .slice (some ⟨b,off,none⟩) n vc:=hF 16 (by simp) w' (SRel.refl _ _ w');have f17:(yv 17) = .int .i64 (ix:Nat):=hF 17 (by simp) w' (SRel.refl _ _ w');have f18:(yv 18) = .pointer (some ⟨b,off + ix * 5,none⟩):=hF 18 (by simp) w' (SRel.refl _ _ w');have f19:(yv 19) = .pointer (some ⟨b,off + ix * 5 + 4,none⟩):=hF 19 (by simp) w' (SRel.refl _ _ w');have f20:(yv 20) = .int .i64 (et:Nat):=hF 20 (by simp) w' (SRel.refl _ _ w');have f21:(yv 21) = .int .i64 ((et:Int) - 1):=hF 21 (by simp) w' (SRel.refl _ _ w');have f22:NS w' (w.heap.size + 1) RW:=hF 22 (by simp) w' (SRel.refl _ _ w');have f23:(yv 23) = .int .i64 ((et:Int) - 1):=hF 23 (by simp) w' (SRel.refl _ _ w')
    have f24:(yv 24) = errno 0:=hF 24 (by simp) w' (SRel.refl _ _ w');clear hF;generalize yv 0 = y0 at *;subst f0;generalize yv 1 = y1 at *;subst f1;generalize yv 2 = y2 at *;subst f2;generalize yv 3 = y3 at *;subst f3;generalize yv 4 = y4 at *;subst f4;generalize yv 5 = y5 at *;subst f5;generalize yv 6 = y6 at *;subst f6;generalize yv 7 = y7 at *;subst f7;generalize yv 8 = y8 at *;subst f8;generalize yv 9 = y9 at *;subst f9;generalize yv 10 = y10 at *;subst f10;generalize yv 11 = y11 at *;subst f11;generalize yv 12 = y12 at *;subst f12;generalize yv 13 = y13 at *;subst f13;generalize yv 14 = y14 at *
    generalize yv 15 = y15 at *;subst f15;generalize yv 16 = y16 at *;subst f16;generalize yv 17 = y17 at *;subst f17;generalize yv 18 = y18 at *;subst f18;generalize yv 19 = y19 at *;subst f19;generalize yv 20 = y20 at *;subst f20;generalize yv 21 = y21 at *;subst f21;generalize yv 22 = y22 at *;generalize yv 23 = y23 at *;subst f23;generalize yv 24 = y24 at *;subst f24;obtain ⟨xa,xc,b1,hr⟩:=f22;have hmw:Mod Nowhere w w':=(hm01.out.trans ((Mod.refl Nowhere w1).drew)).step hR.1 fun k hk e=>by have e:k = w.heap.size + 1:=e;omega
    have hf:=hfin.out _ xa xc hr hmw;clear f14 hR hr hmw hWR hatR hbR hcR;refine hid2 ?_ hf b1;clear hf b1;intro hf b1;go_wp2;refine bodyPost_ret (ZQ rfl _ _ (w.heap.size + 1) _ rfl b1.out) rfl ?_;exact hf.out
theorem Zhq (h:RL w va vc L) (hK:KL L) (hlen:L.length≤1000) (st kd:Int) :
  Calls Tryz.prog 38 #[.agg #[.slice va L.length vc],.int .i64 st,.int .i64 kd] w (SPost1 w (rRestore L st kd).1 (rRestore L st kd).2):=by
 have hmA:=boxm2 (w:=w) [.slice va L.length vc] [.slice none 0 0] 32 32;have hbx:=box2 (w:=w) [.slice va L.length vc] [.slice none 0 0] 32 32;have hI:=Xb (h.fresh hmA) hlen st kd;have y0:=(hbx _ (Mod.refl _ _)).1.cell 0;have yl:=(hbx _ (Mod.refl _ _)).1.lt;simp only [gz0] at y0
 cases hh:rHit L st kd with
 | false =>
  have hfin:∀ W x y,RL W x y L→Mod Nowhere w W→(SPost1 w (rRestore L st kd).1 (rRestore L st kd).2) (.returned (.tuple #[.agg #[.slice x L.length y],errno 19])) W:=fun W x y hr hm=>by
   unfold rRestore;rw [Jh hK hh];exact ⟨x,y,rfl,hr,hm⟩
  rw [hh] at hI;have hat:=True.intro;generalize (SPost1 w (rRestore L st kd).1 (rRestore L st kd).2) = R at *;generalize rIdx L st kd = ix at *;generalize hn:L.length = n at *;refine hid7 ?_ hmA hbx hI hat hfin h hn;clear hmA hbx hI hat hfin h hn;intro hmA hbx hI hat hfin h hn;go_enter Tryz.func38,Tryz.ntmps38;go_wp2_with fail;refine hI.out.mono ?_;rintro e1 w1 ⟨rfl,hm1⟩;have hm01:=hmA.out.trans hm1;obtain ⟨b0,b1⟩:=hbx.out w1 hm1;clear y0 yl;have y0:=b0.cell 0;have yl:=b0.lt;have z0:=b1.cell 0;have zf:=b1.frozen;have zl:=b1.lt;simp only [gz0] at y0 z0;obtain ⟨q1,q2,q3⟩:=Zj hm01 (Nat.le_add_right _ _) b1 (.slice va n vc);have hf:=hfin.out _ va vc (q3 _ _ _ (h.out.fresh hm01)) q2
  clear b0 b1 q2 q3;refine hid4 ?_ hf q1 hm01 hm1;clear hf q1 hm01 hm1;intro hf q1 hm01 hm1;go_wp2;refine bodyPost_ret (Z3 rfl _ _ (w.heap.size + 1) _ rfl q1.out) rfl ?_;exact hf.out
 | true =>
  obtain ⟨hi,hfd⟩:=Jg hK hh;obtain ⟨b,off,a,c,rfl,hblt,hat⟩:=h.at_ hi;have hko:=hK.ok _ (List.getElem_mem hi);have hiL:=hi;rw [hh] at hI;generalize L[rIdx L st kd] = en at *
  have hfin:∀ W x y,RL W x y (rWith L en.full)→Mod Nowhere w W→(SPost1 w (rRestore L st kd).1 (rRestore L st kd).2) (.returned (.tuple #[.agg #[.slice x (rWith L en.full).length y],errno 0])) W:=fun W x y hr hm=>by
   unfold rRestore;rw [hfd];exact ⟨x,y,rfl,hr,hm⟩
  have hW:=fun W (hm:Mod Nowhere w W)=>Jf (h.fresh hm) hlen (e:=en.full) (v:=.slice a en.val.length c) (hat W hm).2.2.2.2.2.2.src (by show en.val.length≤1000;rw [hko.v16];decide);have e1:en.full.set = en.set:=rfl;have e2:en.full.kind = en.kind:=rfl;have e3:en.full.lim = en.lim:=rfl;have e4:en.full.tries = en.lim:=rfl;rw [e1,e2,e3,e4] at hW;generalize (SPost1 w (rRestore L st kd).1 (rRestore L st kd).2) = R at *;generalize rWith L en.full = RW at *;clear hfd hi hko hh e1 e2 e3 e4;generalize en.val = ev at *;generalize en.set = es at *;generalize en.kind = ek at *
  generalize en.lim = el at *;generalize en.tries = et at *;generalize rIdx L st kd = ix at *;generalize hn:L.length = n at *;generalize ev.length = vn at *;have hii:(ix:Int) < (n:Int):=by omega
  obtain ⟨l1,l2⟩:=h.len0;unfold maxLen at l2;rw [hn] at l1;refine hid8 ?_ hmA hbx hI hat hfin h hn hW;clear hmA hbx hI hat hfin h hn hW;intro hmA hbx hI hat hfin h hn hW;go_enter Tryz.func38,Tryz.ntmps38;go_wp2_with fail;refine hI.out.mono ?_;rintro e1 w1 ⟨rfl,hm1⟩;have hm01:=hmA.out.trans hm1;obtain ⟨b0,b1⟩:=hbx.out w1 hm1;clear y0 yl;have y0:=b0.cell 0;have yl:=b0.lt;have z0:=b1.cell 0;have zf:=b1.frozen;have zl:=b1.lt;simp only [gz0] at y0 z0;clear b0 b1;refine hid2 ?_ hm1 hm01;clear hm1 hm01;intro hm1 hm01;go_wp2_with fail;refine ZD 15 (fun i v w'=>match i with | 0=>(v = .agg #[.slice (some ⟨b,off,none⟩) n vc]) | 1=>(v = .pointer (some ⟨w.heap.size,0,none⟩)) | 2=>(v = .slice (some ⟨b,off,none⟩) n vc) | 3=>(v = .int .i64 (ix:Nat)) | 4=>(v = .pointer (some ⟨b,off + ix * 5,none⟩)) | 5=>(v = .pointer (some ⟨b,off + ix * 5,none⟩)) | 6=>(v = .agg #[.int .i64 (es:Nat),.int .i64 (ek:Nat),.slice a vn c,.int .i64 (el:Nat)]) | 7=>(v = .pointer (some ⟨w.heap.size,0,none⟩)) | 8=>(v = .slice (some ⟨b,off,none⟩) n vc) | 9=>(v = .int .i64 (ix:Nat)) | 10=>(v = .pointer (some ⟨b,off + ix * 5,none⟩)) | 11=>(v = .pointer (some ⟨b,off + ix * 5,none⟩)) | 12=>(v = .pointer (some ⟨b,off + ix * 5 + 3,none⟩)) | 13=>(v = .int .i64 (el:Nat)) | 14=>(∃ (xa:Option Addr) (xc:Nat),v = .agg #[.slice xa RW.length xc]∧RL w' xa xc RW) | _=>True) ?A_4_1 (by first | assumption | kernel_rfl) (by kernel_rfl) (by kernel_rfl) (by kernel_rfl) (by decide) ?hA_4_1 ?hS_4_1 ?hE_4_1
  case hA_4_1=>intro xs;simp [putAll,List.range,List.range.loop,Act.put] <;> rfl
  case hS_4_1 =>
   refine ⟨?_,?_,?_,?_,?_,?_,?_,?_,?_,?_,?_,?_,?_,?_,?_,trivial⟩
   ·-- 0: t20:=load(32,t3)
    intro yv w' hR hF K hK;clear hF;have b2:=(hbx.out w' (hm1.out.trans ((Mod.refl Nowhere w1).drew.trans hR))).1;have y0:=b2.cell 0;have yl:=b2.lt;simp only [gz0] at y0;clear b2
    go_simp
    exact hK _ _ (fun _ _=>rfl) (Mod.refl _ _)
   ·-- 1: t21:=fieldAddr(32,t3,0)
    intro yv w' hR hF K hK;clear hF
    go_simp
    exact hK _ _ (fun _ _=>by first | trivial | rfl | simp [*]) (Mod.refl _ _)
   ·-- 2: t22:=load(30,t21)
    intro yv w' hR hF K hK;have f1:(yv 1) = .pointer (some ⟨w.heap.size,0,none⟩):=hF 1 (by kernel_rfl) w' (Mod.refl _ _);clear hF;generalize yv 1 = y1 at *;subst f1;have b2:=(hbx.out w' (hm1.out.trans ((Mod.refl Nowhere w1).drew.trans hR))).1;have y0:=b2.cell 0;have yl:=b2.lt;simp only [gz0] at y0;clear b2
    go_simp
    exact hK _ _ (fun _ _=>rfl) (Mod.refl _ _)
   ·-- 3: t23:=move(t8)
    intro yv w' hR hF K hK;clear hF
    go_simp
    exact hK _ _ (fun _ _=>by first | trivial | rfl | simp [*]) (Mod.refl _ _)
   ·-- 4: t24:=indexAddr(30,t22,t23)
    intro yv w' hR hF K hK;have f2:(yv 2) = .slice (some ⟨b,off,none⟩) n vc:=hF 2 (by kernel_rfl) w' (Mod.refl _ _);have f3:(yv 3) = .int .i64 (ix:Nat):=hF 3 (by kernel_rfl) w' (Mod.refl _ _);clear hF;generalize yv 2 = y2 at *;subst f2;generalize yv 3 = y3 at *;subst f3
    go_simp
    exact hK _ _ (fun _ _=>by first | trivial | rfl | simp [*]) (Mod.refl _ _)
   ·-- 5: t25:=fieldAddr(111,t24,0)
    intro yv w' hR hF K hK;have f4:(yv 4) = .pointer (some ⟨b,off + ix * 5,none⟩):=hF 4 (by kernel_rfl) w' (Mod.refl _ _);clear hF;generalize yv 4 = y4 at *;subst f4
    go_simp
    exact hK _ _ (fun _ _=>by first | trivial | rfl | simp [*]) (Mod.refl _ _)
   ·-- 6: t26:=load(39,t25)
    intro yv w' hR hF K hK;have f5:(yv 5) = .pointer (some ⟨b,off + ix * 5,none⟩):=hF 5 (by kernel_rfl) w' (Mod.refl _ _);clear hF;generalize yv 5 = y5 at *;subst f5;obtain ⟨g0,g1,g2,g3,g4,g5,-⟩:=hat.out w' (hm01.out.trans ((Mod.refl Nowhere w1).drew.trans hR))
    go_simp
    exact hK _ _ (fun _ _=>rfl) (Mod.refl _ _)
   ·-- 7: t27:=fieldAddr(32,t3,0)
    intro yv w' hR hF K hK;clear hF
    go_simp
    exact hK _ _ (fun _ _=>by first | trivial | rfl | simp [*]) (Mod.refl _ _)
   ·-- 8: t28:=load(30,t27)
    intro yv w' hR hF K hK;have f7:(yv 7) = .pointer (some ⟨w.heap.size,0,none⟩):=hF 7 (by kernel_rfl) w' (Mod.refl _ _);clear hF;generalize yv 7 = y7 at *;subst f7;have b2:=(hbx.out w' (hm1.out.trans ((Mod.refl Nowhere w1).drew.trans hR))).1;have y0:=b2.cell 0;have yl:=b2.lt;simp only [gz0] at y0;clear b2
    go_simp
    exact hK _ _ (fun _ _=>rfl) (Mod.refl _ _)
   ·-- 9: t29:=move(t8)
    intro yv w' hR hF K hK;clear hF
    go_simp
    exact hK _ _ (fun _ _=>by first | trivial | rfl | simp [*]) (Mod.refl _ _)
   ·-- 10: t30:=indexAddr(30,t28,t29)
    intro yv w' hR hF K hK;have f8:(yv 8) = .slice (some ⟨b,off,none⟩) n vc:=hF 8 (by kernel_rfl) w' (Mod.refl _ _);have f9:(yv 9) = .int .i64 (ix:Nat):=hF 9 (by kernel_rfl) w' (Mod.refl _ _);clear hF;generalize yv 8 = y8 at *;subst f8;generalize yv 9 = y9 at *;subst f9
    go_simp
    exact hK _ _ (fun _ _=>by first | trivial | rfl | simp [*]) (Mod.refl _ _)
   ·-- 11: t31:=fieldAddr(111,t30,0)
    intro yv w' hR hF K hK;have f10:(yv 10) = .pointer (some ⟨b,off + ix * 5,none⟩):=hF 10 (by kernel_rfl) w' (Mod.refl _ _);clear hF;generalize yv 10 = y10 at *;subst f10
    go_simp
    exact hK _ _ (fun _ _=>by first | trivial | rfl | simp [*]) (Mod.refl _ _)
   ·-- 12: t32:=fieldAddr(39,t31,3)
    intro yv w' hR hF K hK;have f11:(yv 11) = .pointer (some ⟨b,off + ix * 5,none⟩):=hF 11 (by kernel_rfl) w' (Mod.refl _ _);clear hF;generalize yv 11 = y11 at *;subst f11
    go_simp
    exact hK _ _ (fun _ _=>by first | trivial | rfl | simp [*]) (Mod.refl _ _)
   ·-- 13: t33:=load(3,t32)
    intro yv w' hR hF K hK;have f12:(yv 12) = .pointer (some ⟨b,off + ix * 5 + 3,none⟩):=hF 12 (by kernel_rfl) w' (Mod.refl _ _);clear hF;generalize yv 12 = y12 at *;subst f12;obtain ⟨g0,g1,g2,g3,g4,g5,-⟩:=hat.out w' (hm01.out.trans ((Mod.refl Nowhere w1).drew.trans hR))
    go_simp
    exact hK _ _ (fun _ _=>rfl) (Mod.refl _ _)
   ·-- 14: t34:=CALL F56 (t20,t26,t33)
    intro yv w' hR hF K hK;have f0:(yv 0) = .agg #[.slice (some ⟨b,off,none⟩) n vc]:=hF 0 (by kernel_rfl) w' (Mod.refl _ _);have f6:(yv 6) = .agg #[.int .i64 (es:Nat),.int .i64 (ek:Nat),.slice a vn c,.int .i64 (el:Nat)]:=hF 6 (by kernel_rfl) w' (Mod.refl _ _);have f13:(yv 13) = .int .i64 (el:Nat):=hF 13 (by kernel_rfl) w' (Mod.refl _ _);clear hF;generalize yv 0 = y0 at *;subst f0;generalize yv 6 = y6 at *;subst f6;generalize yv 13 = y13 at *;subst f13;have hc:=hW.out w' (hm01.out.trans ((Mod.refl Nowhere w1).drew.trans hR));replace hc:=Lib.hid hc
    go_simp
    go_at_call 56
    refine hc.out.mono ?_;rintro e w9 ⟨xa,xc,rfl,hr9,hm9⟩;exact hK _ _ (fun W hW=>⟨xa,xc,rfl,hr9.fresh hW⟩) hm9
  case hE_4_1 =>
   intro yv w' hR hF;have f0:(yv 0) = .agg #[.slice (some ⟨b,off,none⟩) n vc]:=hF 0 (by simp) w' (Mod.refl _ _);have f1:(yv 1) = .pointer (some ⟨w.heap.size,0,none⟩):=hF 1 (by simp) w' (Mod.refl _ _);have f2:(yv 2) = .slice (some ⟨b,off,none⟩) n vc:=hF 2 (by simp) w' (Mod.refl _ _);have f3:(yv 3) = .int .i64 (ix:Nat):=hF 3 (by simp) w' (Mod.refl _ _);have f4:(yv 4) = .pointer (some ⟨b,off + ix * 5,none⟩):=hF 4 (by simp) w' (Mod.refl _ _);have f5:(yv 5) = .pointer (some ⟨b,off + ix * 5,none⟩):=hF 5 (by simp) w' (Mod.refl _ _);have f6:(yv 6) = .agg #[.int .i64 (es:Nat),.int .i64 (ek:Nat),.slice a vn c,.int .i64 (el:Nat)]:=hF 6 (by simp) w' (Mod.refl _ _);have f7:(yv 7) = .pointer (some ⟨w.heap.size,0,none⟩):=hF 7 (by simp) w' (Mod.refl _ _)
   have f8:(yv 8) = .slice (some ⟨b,off,none⟩) n vc:=hF 8 (by simp) w' (Mod.refl _ _);have f9:(yv 9) = .int .i64 (ix:Nat):=hF 9 (by simp) w' (Mod.refl _ _);have f10:(yv 10) = .pointer (some ⟨b,off + ix * 5,none⟩):=hF 10 (by simp) w' (Mod.refl _ _);have f11:(yv 11) = .pointer (some ⟨b,off + ix * 5,none⟩):=hF 11 (by simp) w' (Mod.refl _ _);have f12:(yv 12) = .pointer (some ⟨b,off + ix * 5 + 3,none⟩):=hF 12 (by simp) w' (Mod.refl _ _);have f13:(yv 13) = .int .i64 (el:Nat):=hF 13 (by simp) w' (Mod.refl _ _);have f14:∃ (xa:Option Addr) (xc:Nat),(yv 14) = .agg #[.slice xa RW.length xc]∧RL w' xa xc RW:=hF 14 (by simp) w' (Mod.refl _ _)
   clear hF;generalize yv 0 = y0 at *;subst f0;generalize yv 1 = y1 at *;subst f1;generalize yv 2 = y2 at *;subst f2;generalize yv 3 = y3 at *;subst f3;generalize yv 4 = y4 at *;subst f4;generalize yv 5 = y5 at *;subst f5;generalize yv 6 = y6 at *;subst f6;generalize yv 7 = y7 at *;subst f7;generalize yv 8 = y8 at *;subst f8;generalize yv 9 = y9 at *;subst f9;generalize yv 10 = y10 at *;subst f10;generalize yv 11 = y11 at *;subst f11;generalize yv 12 = y12 at *;subst f12;generalize yv 13 = y13 at *;subst f13;generalize yv 14 = y14 at *;simp only [List.drop_succ_cons,List.drop_zero];obtain ⟨xa,xc,rfl,hr⟩:=f14;have hm2:=(Mod.refl Nowhere w1).drew.trans hR
   have hm02:=hm01.out.trans hm2;obtain ⟨b0,b1⟩:=hbx.out w' (hm1.out.trans hm2);obtain ⟨q1,q2,q3⟩:=Zj hm02 (Nat.le_add_right _ _) b1 (.slice xa RW.length xc);have hf:=hfin.out _ xa xc (q3 _ _ _ hr) q2;generalize RW.length = m at *;have z0:=b1.cell 0;have zf:=b1.frozen;have zl:=b1.lt;simp only [gz0] at z0;clear b0 b1 q2 q3 hR hr;refine hid4 ?_ hf q1 hm02 hm2;clear hf q1 hm02 hm2;intro hf q1 hm02 hm2;clear hW hat hI hbx;go_wp2;refine bodyPost_ret (Z3 rfl _ _ (w.heap.size + 1) _ rfl q1.out) rfl ?_;exact hf.out
end
end Go.Proofs.YtoehlaeaafalmaaGreat
namespace Go.Proofs.YtoehlaeaafalmaaGreat
open Go.RowKit
open Jn Vn Ky
attribute [local go_sem] Oper.semAt_some
def GPost (w:World) (o:Option KEn) (e:Ending) (w':World):Prop:=∃ u,e = .returned (.tuple #[keyV o u,.bool o.isSome])∧DSl w' u (valOf o)∧Mod Nowhere w w'
section
variable {w : World} {va : Option Addr} {vc : Nat} {L : List KEn}
theorem Zhr (h:RL w va vc L) (hK:KL L) (hlen:L.length≤1000) (st kd:Int) :
  Calls Tryz.prog 47 #[.agg #[.slice va L.length vc],.int .i64 st,.int .i64 kd] w (GPost w (kfind L st kd)):=by
 have hmA:=boxm2 (w:=w) [.slice va L.length vc] [.int .i64 0,.int .i64 0,.slice none 0 0,.int .i64 0] 32 39;have hbx:=box2 (w:=w) [.slice va L.length vc] [.int .i64 0,.int .i64 0,.slice none 0 0,.int .i64 0] 32 39;have hI:=Xb (h.fresh hmA) hlen st kd;have y0:=(hbx _ (Mod.refl _ _)).1.cell 0;have yl:=(hbx _ (Mod.refl _ _)).1.lt;simp only [gz0] at y0
 cases hh:rHit L st kd with
 | false =>
  rw [Jh hK hh];rw [hh] at hI;have hfin:∀ W,Mod Nowhere w W→GPost w none (.returned (.tuple #[.agg #[.int .i64 0,.int .i64 0,.slice none 0 0,.int .i64 0],.bool false])) W:=fun W hm=>⟨.slice none 0 0,rfl,Sl.nil _ _ _,hm⟩;generalize GPost w none = R at *;generalize rIdx L st kd = ix at *;generalize L.length = n at *;clear h hh hK;refine hid4 ?_ hmA hbx hI hfin;clear hmA hbx hI hfin;intro hmA hbx hI hfin;go_enter Tryz.func47,Tryz.ntmps47;go_wp2_with fail;refine hI.out.mono ?_;rintro e1 w1 ⟨rfl,hm1⟩;have hm01:=hmA.out.trans hm1;obtain ⟨b0,b1⟩:=hbx.out w1 hm1;have z0:=b1.cell 0;have z1:=b1.cell 1;have z2:=b1.cell 2;have z3:=b1.cell 3;have zf:=b1.frozen;have zl:=b1.lt;simp only [gz0,gs0] at z0 z1 z2 z3
  obtain ⟨q1,qm⟩:=setw4 b1 (.int .i64 0) (.int .i64 0) (.slice none 0 0) (.int .i64 0);have hf:=hfin.out _ (hm01.step qm fun k hk e=>by have e:k = w.heap.size + 1:=e;omega);clear b0 b1 qm y0 yl;refine hid4 ?_ hf q1 hm01 hm1;clear hf q1 hm01 hm1;intro hf q1 hm01 hm1;go_wp2;refine bodyPost_ret (Y7 rfl _ _ (w.heap.size + 1) _ _ _ _ rfl q1.out) rfl ?_;exact hf.out
 | true =>
  obtain ⟨hi,hfd⟩:=Jg hK hh;obtain ⟨b,off,a,c,rfl,hblt,hat⟩:=h.at_ hi;rw [hfd];rw [hh] at hI;generalize L[rIdx L st kd] = en at *;have hfin:∀ W,DSl W (.slice a en.val.length c) en.val→Mod Nowhere w W→GPost w (some en) (.returned (.tuple #[.agg #[.int .i64 (en.set:Nat),.int .i64 (en.kind:Nat),.slice a en.val.length c,.int .i64 (en.lim:Nat)],.bool true])) W:=fun W hd hm=>⟨_,rfl,hd,hm⟩;generalize GPost w (some en) = R at *;have hiL:=hi;clear hfd hi hh hK;generalize rIdx L st kd = ix at *;obtain ⟨l1,l2⟩:=h.len0;unfold maxLen at l2;clear h;generalize L.length = n at *
  generalize en.val = ev at *;generalize en.set = es at *;generalize en.kind = ek at *;generalize en.lim = el at *;generalize en.tries = et at *;generalize hvn:ev.length = vn at *;have hii:(ix:Int) < (n:Int):=by omega
  refine hid6 ?_ hmA hbx hI hfin hat hvn;clear hmA hbx hI hfin hat hvn;intro hmA hbx hI hfin hat hvn;go_enter Tryz.func47,Tryz.ntmps47;go_wp2_with fail;refine hI.out.mono ?_;rintro e1 w1 ⟨rfl,hm1⟩;have hm01:=hmA.out.trans hm1;obtain ⟨b0,b1⟩:=hbx.out w1 hm1;clear y0 yl;have y0:=b0.cell 0;have yl:=b0.lt;have z0:=b1.cell 0;have z1:=b1.cell 1;have z2:=b1.cell 2;have z3:=b1.cell 3;have zf:=b1.frozen;have zl:=b1.lt;simp only [gz0,gs0] at y0 z0 z1 z2 z3;obtain ⟨g0,g1,g2,g3,g4,g5,g6⟩:=hat.out w1 hm01;obtain ⟨q1,qm⟩:=setw4 b1 (.int .i64 (es:Nat)) (.int .i64 (ek:Nat)) (.slice a vn c) (.int .i64 (el:Nat));have hd:=DSl.mod g6 qm (Zh b1 (by decide))
  have hf:=hfin.out _ hd (hm01.step qm fun k hk e=>by have e:k = w.heap.size + 1:=e;omega);clear b0 b1 qm hd g6;refine hid4 ?_ hf q1 hm01 hm1;clear hf q1 hm01 hm1;intro hf q1 hm01 hm1;go_wp2;refine bodyPost_ret (Y7 rfl _ _ (w.heap.size + 1) _ _ _ _ rfl q1.out) rfl ?_;exact hf.out
theorem Zhs (w:World):Calls Tryz.prog 11 #[] w (SPost w []):=by
 have hb:=Blk.new w [.slice none 0 0] 32;have hm:Mod Nowhere w (w.alloc (.cells #[.slice none 0 0] 32)):=(Mod.refl _ _).alloc _;have hf:SPost w [] (.returned (.agg #[.slice none 0 0])) _:=⟨none,0,rfl,RL.nil _,hm⟩;have z0:=hb.cell 0;have zf:=hb.frozen;have zl:=hb.lt;simp only [gz0] at z0;generalize SPost w [] = R at *;refine hid3 ?_ hm hb hf;clear hm hb hf;intro hm hb hf;go_enter Tryz.func11,Tryz.ntmps11;go_wp2;refine bodyPost_ret (Jd rfl _ _ w.heap.size _ rfl hb.out) rfl ?_;exact hf.out
end
namespace Ky
def rDelete (L:List KEn) (st:Int):List KEn × Nat:=if (rDel L st).length = L.length then (L,12) else (rDel L st,0)
theorem Zht {L:List KEn} {k:Nat} (hk:k < L.length) (st:Int):rDel (L.take (k + 1)) st = rDel (L.take k) st ++ (if inS st L[k] = true then [] else [L[k]]):=by
 unfold rDel;rw [List.take_add_one,List.getElem?_eq_getElem hk,List.filter_append]
 congr 1
 show List.filter _ [L[k]] = _
 rw [List.filter_cons]
 cases inS st L[k] <;> rfl
end Ky
section
variable {w : World} {va : Option Addr} {vc : Nat} {L : List KEn}
theorem Zhu (h:RL w va vc L) (hlen:L.length≤1000) (st:Int) :
  Calls Tryz.prog 37 #[.agg #[.slice va L.length vc],.int .i64 st] w (SPost1 w (rDelete L st).1 (rDelete L st).2):=by
 have hmA:=boxm2 (w:=w) [.slice va L.length vc] [.slice none 0 0] 32 32;have hbx:=box2 (w:=w) [.slice va L.length vc] [.slice none 0 0] 32 32;have h0:=h.fresh hmA
 have hf1:∀ W x y,(rDel L st).length = L.length→RL W x y L→Mod Nowhere w W→SPost1 w (rDelete L st).1 (rDelete L st).2 (.returned (.tuple #[.agg #[.slice x L.length y],errno 12])) W:=fun W x y hl hr hm=>by
  unfold rDelete;rw [if_pos hl];exact ⟨x,y,rfl,hr,hm⟩
 have hf2:∀ W x y,¬ (rDel L st).length = L.length→RL W x y (rDel L st)→Mod Nowhere w W→SPost1 w (rDelete L st).1 (rDelete L st).2 (.returned (.tuple #[.agg #[.slice x (rDel L st).length y],errno 0])) W:=fun W x y hl hr hm=>by
  unfold rDelete;rw [if_neg hl];exact ⟨x,y,rfl,hr,hm⟩
 obtain ⟨l1,l2⟩:=h.len0;unfold maxLen at l2;generalize SPost1 w (rDelete L st).1 (rDelete L st).2 = R at *;obtain ⟨n,hn⟩:∃ n,L.length = n:=⟨_,rfl⟩;rw [hn] at l1 hmA hbx h0 hlen;rw [hn];generalize hw0:((w.alloc (.cells [.slice va n vc].toArray 32)).alloc (.cells [.slice none 0 0].toArray 32)) = w0 at *;have hsz0:w0.heap.size = w.heap.size + 2:=by rw [← hw0];simp
 have y0:=(hbx _ (Mod.refl _ _)).1.cell 0;have yl:=(hbx _ (Mod.refl _ _)).1.lt;simp only [gz0] at y0;clear h;refine hid7 ?_ hmA hbx h0 hf1 hf2 hn hsz0;clear hmA hbx h0 hf1 hf2 hn hsz0;intro hmA hbx h0 hf1 hf2 hn hsz0;have hw0':=hw0;replace hw0:=Lib.hid hw0;go_enter Tryz.func37,Tryz.ntmps37;go_wp2
 try rw [hw0']
 clear hw0'
 go_loopw [6,7] (fun v i wr=>∃ (k:Nat) (ys:List Kx) (a:Option Addr) (m c:Nat),k≤n∧i = .int .i64 k∧v = .slice a m c∧KOwn wr w0.heap.size a m c ys∧kes ys = rDel (L.take k) st∧Mod Nowhere w0 wr) (fun _ i _=>n - (intOf i).toNat)
 case atStart=>exact ⟨0,[],none,0,0,by omega,rfl,rfl,KOwn.nil _ _,rfl,Mod.refl _ _⟩
 case round =>
  obtain ⟨k,ys,a,m,c,hk,rfl,rfl,hown,hke,hm⟩:=hrel;obtain ⟨b0,b1⟩:=hbx.out wr hm;clear y0 yl;have y0:=b0.cell 0;have yl:=b0.lt;simp only [gz0] at y0
  have hml:m≤n:=by
   have e1:m = (rDel (L.take k) st).length:=by rw [← hke,kes,List.length_map,hown.len]
   have e2:(rDel (L.take k) st).length≤(L.take k).length:=List.length_filter_le _ _;have e3:(L.take k).length≤k:=by rw [List.length_take];omega
   omega
  by_cases hkn:k < n
  ·have hkl:k < L.length:=by rw [hn.out];exact hkn
   have h00:=h0.out;obtain ⟨b,off,a2,c2,rfl,hbl,hat⟩:=h00.at_ hkl;obtain ⟨g0,g1,g2,g3,g4,g5,g6⟩:=hat wr hm;have htk:=Zht hkl st;have hki:(k:Int) < (n:Int):=by omega
   by_cases hs:((L[k].set:Nat):Int) = st
   ·rw [if_pos (by unfold inS;rw [decide_eq_true hs]),List.append_nil,← hke] at htk;generalize L[k] = en at *;generalize en.val.length = vn at *;generalize en.set = es at *;clear h00 hat g6;refine hid6 ?_ hown hm htk b0 b1 hke;clear hown hm htk b0 b1 hke;intro hown hm htk b0 b1 hke;go_wp2;go_roundw
    case rel=>exact ⟨k + 1,ys,a,m,c,by omega,by go_num,rfl,hown.out,htk.out.symm,hm.out⟩
    case measure=>simp [intOf];omega
   ·rw [if_neg (by unfold inS;rw [decide_eq_false hs];decide),← hke] at htk;obtain ⟨a3,c3,W2,hrun,hown2,hmO⟩:=k_put (x:=(.slice a2 L[k].val.length c2,L[k])) g6 hown hm.size (by omega);have hab:=Own1.above hown.own;have hm2:=hm.step hmO fun j hj e=>by have:=(hab j e).1;omega
    have hke2:kes (ys ++ [(.slice a2 L[k].val.length c2,L[k])]) = rDel (L.take (k + 1)) st:=by rw [Je,htk];rfl
    unfold kxC at hrun;dsimp only at hrun;generalize ys ++ [((Value.slice a2 L[k].val.length c2,L[k]):Kx)] = zs at *;generalize L[k] = en at *;generalize en.val.length = vn at *;generalize en.set = es at *;clear h00 hat g6 hab hmO htk hown hke;refine hid6 ?_ hown2 hm2 hke2 b0 b1 hm;clear hown2 hm2 hke2 b0 b1 hm;intro hown2 hm2 hke2 b0 b1 hm
    go_wp2_with (at_builtin;refine Lib.wpList_append_run _ rfl _ _ _ _ rfl _ _ (by rfl) (by rfl) _ _ hrun ?_;clear hrun)
    go_roundw
    case rel=>exact ⟨k + 1,zs,a3,m + 1,c3,by omega,by go_num,rfl,hown2.out,hke2.out,hm2.out⟩
    case measure=>simp [intOf];omega
  ·obtain rfl:k = n:=by omega
   rw [← hn.out,List.take_length] at hke;have hml2:m = (rDel L st).length:=by rw [← hke,kes,List.length_map,hown.len]
   have hm02:=hmA.out.trans hm;have z0:=b1.cell 0;have zf:=b1.frozen;have zl:=b1.lt;simp only [gz0] at z0;by_cases he:m = k
   ·obtain ⟨q1,q2,q3⟩:=Zj hm02 (Nat.le_add_right _ 1) b1 (.slice va k vc);have h00:=h0.out.fresh hm;have hr:=q3 va vc L h00;have hf:=hf1.out _ va vc (by rw [← hml2,he,hn.out]) hr q2;rw [hn.out] at hf;subst he;clear b0 b1 q2 q3 h00 hr hml2;refine hid6 ?_ hf q1 hm02 hm hown hke;clear hf q1 hm02 hm hown hke;intro hf q1 hm02 hm hown hke;go_wp2;refine bodyPost_ret (Z3 rfl _ _ (w.heap.size + 1) _ rfl q1.out) rfl ?_;exact hf.out
   ·have hei:¬ (m:Int) = (k:Int):=by omega
    obtain ⟨q1,q2,q3⟩:=Zj hm02 (Nat.le_add_right _ 1) b1 (.slice a m c);have hrl:=hown.rl;rw [hke] at hrl;have hf:=hf2.out _ a c (by rw [← hml2,hn.out];exact he) (q3 _ _ _ hrl) q2;rw [← hml2] at hf;clear b0 b1 q2 q3 hrl hml2;refine hid6 ?_ hf q1 hm02 hm hown hke;clear hf q1 hm02 hm hown hke;intro hf q1 hm02 hm hown hke;go_wp2;refine bodyPost_ret (Z3 rfl _ _ (w.heap.size + 1) _ rfl q1.out) rfl ?_;exact hf.out
end
end Go.Proofs.YtoehlaeaafalmaaGreat
