/-
  The reference of keys: a key is put in (with).
-/
import Derived.Test.YtoehlaeaafalmaaGreatCK11
import Derived.Test.YtoehlaeaafalmaaGreatCK5
set_option linter.unusedVariables false
set_option linter.unusedSimpArgs false
set_option maxHeartbeats 4000000
set_option maxRecDepth 100000
namespace Go.Proofs.YtoehlaeaafalmaaGreat
open Go.RowKit
open Jn Vn Ky
attribute [local go_sem] Oper.semAt_some
theorem Jd {fn:Func} {p:Tmp} (h:fn.results = #[.cell p 32]) (tmps:Array Value) (w:World) (b:Nat) (c0:Value) (hp:tmps.getD p undef = ptr b) (hb:Blk w b [c0] 32) :
  (results fn tmps).run Tryz.prog w = .ok (.agg #[c0]) w :=
 results_cell_row h _ _ b 32 _ (0,0) _ hp hb Tryz.underlying32 rfl (by kernel_rfl)
theorem KOwn.new (w:World):KOwn (w.alloc (.cells #[] 111)) w.heap.size (some ⟨w.heap.size,0,none⟩) 0 0 [] :=
 ⟨rfl,⟨rfl,.inr ⟨w.heap.size,0,#[],rfl,Nat.le_refl _,heap_alloc_new w _,Nat.le_refl _,by decide,by decide,rfl⟩⟩,fun y hy=>(List.not_mem_nil hy).elim⟩
theorem KOwn.mod {S:Nat→Prop} {w w':World} {B n vcap:Nat} {va:Option Addr} {ys:List Kx} (h:KOwn w B va n vcap ys) (hm:Mod S w w') (hB:∀ k,B≤k→¬ S k) (hS:Shun S w 5):KOwn w' B va n vcap ys :=
 ⟨h.len,Zb h.own hm hB,fun y hy=>DSl.mod (h.data y hy) hm hS⟩
theorem Je (xs ys:List Kx):kes (xs ++ ys) = kes xs ++ kes ys:=by simp [kes]
theorem Zh {W:World} {B:Nat} {T U:TypeId} {cs:List Value} (hb:Blk W B cs T) (h:T ≠ U):Shun (fun j=>j = B) W U:=fun k e cs' hb'=>by
 rw [e] at hb';exact h (hb.inj hb').2
def SPost (w:World) (L:List KEn) (e:Ending) (w':World):Prop:=∃ va vc,e = .returned (.agg #[.slice va L.length vc])∧RL w' va vc L∧Mod Nowhere w w'
section
variable {w : World} {va : Option Addr} {vc : Nat} {L : List KEn}
theorem Zhm {w1:World} {B:Nat} {va:Option Addr} {vc:Nat} {L:List KEn} (hL:RL w1 va vc L) (hn:L.length≤1000) {e:KEn} {ua:Option Addr} {uc:Nat} (hv:Src w1 (.slice ua e.val.length uc) e.val) (hvl:e.val.length≤1000)
  (b0:Blk w1 B [.slice va L.length vc] 32) (b1:Blk w1 (B + 1) [.int .i64 (e.set:Nat),.int .i64 (e.kind:Nat),.slice ua e.val.length uc,.int .i64 (e.lim:Nat)] 39) (b2:Blk w1 (B + 2) [.slice none 0 0] 32)
  {i j:Nat} (hi:i≤L.length) (hj:j≤L.length) :
  ∃ tc va2 vc2 W2 ca cc W3 va4 vc4 W5 ta td va6 vc6 W6,
   (∀ W,(Instr.slice 30 (.slice va L.length vc) none (some (.int .i64 i)) none).run Tryz.prog W = .ok (.slice va i tc) W) ∧
   (Builtin.append_ #[30,30] 30 #[.slice (some ⟨w1.heap.size,0,none⟩) 0 0,.slice va i tc]).run Tryz.prog (w1.alloc (.cells #[] 111)) = .ok (.slice va2 i vc2) W2 ∧
   (Builtin.append_ #[37,37] 37 #[.slice (some ⟨W2.heap.size,0,none⟩) 0 0,.slice ua e.val.length uc]).run Tryz.prog (W2.alloc (.cells #[] 5)) = .ok (.slice ca e.val.length cc) W3 ∧
   (Builtin.append_ #[30,30] 30 #[.slice va2 i vc2,.slice (some ⟨W3.heap.size,0,none⟩) 1 1]).run Tryz.prog ((W3.setCell ⟨B + 1,2,none⟩ (.slice ca e.val.length cc)).alloc (.cells #[.int .i64 (e.set:Nat),.int .i64 (e.kind:Nat),.slice ca e.val.length cc,.int .i64 (e.lim:Nat),.int .i64 (e.tries:Nat)] 111)) = .ok (.slice va4 (i + 1) vc4) W5 ∧
   (∀ W,(Instr.slice 30 (.slice va L.length vc) (some (.int .i64 j)) none none).run Tryz.prog W = .ok (.slice ta (L.length - j) td) W) ∧
   (Builtin.append_ #[30,30] 30 #[.slice va4 (i + 1) vc4,.slice ta (L.length - j) td]).run Tryz.prog W5 = .ok (.slice va6 (i + 1 + (L.length - j)) vc6) W6 ∧
   (Blk W2 (B + 1) [.int .i64 (e.set:Nat),.int .i64 (e.kind:Nat),.slice ua e.val.length uc,.int .i64 (e.lim:Nat)] 39∧Blk W3 (B + 1) [.int .i64 (e.set:Nat),.int .i64 (e.kind:Nat),.slice ua e.val.length uc,.int .i64 (e.lim:Nat)] 39 ∧
   Blk (W3.setCell ⟨B + 1,2,none⟩ (.slice ca e.val.length cc)) (B + 1) [.int .i64 (e.set:Nat),.int .i64 (e.kind:Nat),.slice ca e.val.length cc,.int .i64 (e.lim:Nat)] 39∧Blk W5 B [.slice va L.length vc] 32∧Blk W6 (B + 2) [.slice none 0 0] 32∧w1.heap.size≤W6.heap.size) ∧
   Blk (W6.setCell ⟨B + 2,0,none⟩ (.slice va6 (i + 1 + (L.length - j)) vc6)) (B + 2) [.slice va6 (i + 1 + (L.length - j)) vc6] 32 ∧
   RL (W6.setCell ⟨B + 2,0,none⟩ (.slice va6 (i + 1 + (L.length - j)) vc6)) va6 vc6 ((L.take i ++ [e]) ++ L.drop j) ∧
   (∀ w,Mod Nowhere w w1→w.heap.size≤B→Mod Nowhere w (W6.setCell ⟨B + 2,0,none⟩ (.slice va6 (i + 1 + (L.length - j)) vc6))):=by
 obtain ⟨tc,hs1,zs1,hz1l,hz1k,hz1⟩:=hL.upto hi;obtain ⟨ta,td,hs2,zs2,hz2l,hz2k,hz2⟩:=hL.rest hj;have mA:Mod Nowhere w1 (w1.alloc (.cells #[] 111)):=(Mod.refl _ _).alloc _;obtain ⟨va2,vc2,W2,r1,o2,m2⟩:=Ja (zs:=zs1) (fun h0=>(hz1 h0).fresh mA) (KOwn.new w1) mA.size (by omega);rw [hz1l,Nat.zero_add] at r1 o2;rw [List.nil_append] at o2;have ab2:=Own1.above (KOwn.new w1).own;have M2:Mod Nowhere w1 W2:=mA.step m2 fun k hk e=>by have:=(ab2 k e).1;omega
 have mB:Mod Nowhere W2 (W2.alloc (.cells #[] 5)):=(Mod.refl _ _).alloc _;obtain ⟨ca,cc,W3,r2,o3,m3⟩:=Zbl (Zbk W2) ((hv.fresh M2).fresh mB) (by omega) mB.size 37;have M3:Mod Nowhere W2 W3:=mB.step m3 fun k hk e=>by have e:W2.heap.size≤k:=e;omega
 have l0:=b0.lt;have l1:=b1.lt;have l2:=b2.lt;have b1_2:=b1.mod M2 id;have b1_3:=b1_2.mod M3 id;have m4:Mod (fun k=>k = B + 1) W3 (W3.setCell ⟨B + 1,2,none⟩ (.slice ca e.val.length cc)):=(Mod.refl (fun k=>k = B + 1) W3).setCell (p:=⟨B + 1,2,none⟩) (fun _=>rfl) _;have b1_4:Blk (W3.setCell ⟨B + 1,2,none⟩ (.slice ca e.val.length cc)) (B + 1) [.int .i64 (e.set:Nat),.int .i64 (e.kind:Nat),.slice ca e.val.length cc,.int .i64 (e.lim:Nat)] 39:=b1_3.setCell 2 (.slice ca e.val.length cc);have shU:=Zh (U:=5) b1_3 (by decide);have shE:=Zh (U:=111) b1_3 (by decide);have M23:=M2.trans M3
 have o4:=(o2.fresh M3).mod m4 (fun k hk e=>by have e:k = B + 1:=e;omega) shU;have d3:DSl W3 (.slice ca e.val.length cc) e.val:=Sl.of_owns o3;have d4:=DSl.mod d3 m4 shU;have s4:w1.heap.size≤(W3.setCell ⟨B + 1,2,none⟩ (.slice ca e.val.length cc)).heap.size:=Nat.le_trans M23.size m4.size;obtain ⟨va4,vc4,W5,r3,o5,m5⟩:=k_put (x:=(.slice ca e.val.length cc,e)) d4 o4 s4 (by omega);rw [show (W3.setCell ⟨B + 1,2,none⟩ (.slice ca e.val.length cc)).heap.size = W3.heap.size from by simp] at r3;have hkc:(kxC (.slice ca e.val.length cc,e)).toArray = #[.int .i64 (e.set:Nat),.int .i64 (e.kind:Nat),.slice ca e.val.length cc,.int .i64 (e.lim:Nat),.int .i64 (e.tries:Nat)]:=rfl;rw [hkc] at r3
 have ab5:=Own1.above o4.own;have sh5:=X9 o4.own (U:=5) (by decide)
 have hz2':zs2.length ≠ 0→KSl W5 (.slice ta zs2.length td) zs2:=fun h0=>by
  have k1:=hz2 h0;obtain ⟨b,off,cap,e1,hb,-⟩:=k1.sl.open (by omega);have k4:=(k1.fresh M23).mod m4 shE shU;refine ⟨k4.sl.mod m5 fun k hk e=>?_,fun x hx=>DSl.mod (k4.data x hx) m5 sh5⟩;have:=(ab5 k e).1;rw [e1] at hk;simp only [Value.ownBlock,Option.some.injEq] at hk;omega
 obtain ⟨va6,vc6,W6,r4,o6,m6⟩:=Ja (zs:=zs2) hz2' o5 (Nat.le_trans s4 m5.size) (by omega);have ab6:=Own1.above o5.own;rw [hz2l] at r4 o6;have b0_5:=((b0.mod M23 id).mod m4 (fun e=>by have e:B = B + 1:=e;omega)).mod m5 (fun e=>by have:=(ab5 _ e).1;omega);have b2_6:=(((b2.mod M23 id).mod m4 (fun e=>by have e:B + 2 = B + 1:=e;omega)).mod m5 (fun e=>by have:=(ab5 _ e).1;omega)).mod m6 (fun e=>by have:=(ab6 _ e).1;omega);have m7:Mod (fun k=>k = B + 2) W6 (W6.setCell ⟨B + 2,0,none⟩ (.slice va6 (i + 1 + (L.length - j)) vc6)):=(Mod.refl (fun k=>k = B + 2) W6).setCell (p:=⟨B + 2,0,none⟩) (fun _=>rfl) _;have o7:=o6.mod m7 (fun k hk e=>by have e:k = B + 2:=e;omega) (Zh (U:=5) b2_6 (by decide))
 have hr:=o7.rl;have hk:kes ((zs1 ++ [(.slice ca e.val.length cc,e)]) ++ zs2) = (L.take i ++ [e]) ++ L.drop j:=by rw [Je,Je,hz1k,hz2k];rfl
 rw [hk] at hr;refine ⟨tc,va2,vc2,W2,ca,cc,W3,va4,vc4,W5,ta,td,va6,vc6,W6,hs1,r1,r2,r3,hs2,r4,⟨b1_2,b1_3,b1_4,b0_5,b2_6,Nat.le_trans (Nat.le_trans s4 m5.size) m6.size⟩,b2_6.setCell 0 _,hr,fun w hw hB=>?_⟩;have hws:=hw.size;exact ((((hw.trans M23).step m4 fun k hk e=>by have e:k = B + 1:=e;omega).step m5 fun k hk e=>by have:=(ab5 k e).1;omega).step m6 fun k hk e=>by have:=(ab6 k e).1;omega).step m7 fun k hk e=>by have e:k = B + 2:=e;omega
theorem Zcw {l:List KEn} {s k:Int} (h:rHit l s k = true):rIdx l s k < l.length:=by
 rcases Nat.lt_or_ge (rIdx l s k) l.length with q | q
 ·exact q
 ·have:=ZY l s k;rw [Zcv (by omega)] at h
  cases h
theorem Jf (h:RL w va vc L) (hlen:L.length≤1000) {e:KEn} {v:Value} (hv:Src w v e.val) (hvl:e.val.length≤1000) :
  Calls Tryz.prog 56 #[.agg #[.slice va L.length vc],.agg #[.int .i64 (e.set:Nat),.int .i64 (e.kind:Nat),v,.int .i64 (e.lim:Nat)],.int .i64 (e.tries:Nat)] w (SPost w (rWith L e)):=by
 obtain ⟨ua,uc,rfl,-⟩:=id hv;have hmA:Mod Nowhere w (((w.alloc (.cells #[.slice va L.length vc] 32)).alloc (.cells #[.int .i64 (e.set:Nat),.int .i64 (e.kind:Nat),.slice ua e.val.length uc,.int .i64 (e.lim:Nat)] 39)).alloc (.cells #[.slice none 0 0] 32)):=(((Mod.refl _ w).alloc _).alloc _).alloc _
 have hb0:Blk (((w.alloc (.cells #[.slice va L.length vc] 32)).alloc (.cells #[.int .i64 (e.set:Nat),.int .i64 (e.kind:Nat),.slice ua e.val.length uc,.int .i64 (e.lim:Nat)] 39)).alloc (.cells #[.slice none 0 0] 32)) w.heap.size [.slice va L.length vc] 32 :=
  ((Blk.new w [.slice va L.length vc] 32).mod ((Mod.refl Nowhere _).alloc _) id).mod ((Mod.refl Nowhere _).alloc _) id
 have hb1:Blk (((w.alloc (.cells #[.slice va L.length vc] 32)).alloc (.cells #[.int .i64 (e.set:Nat),.int .i64 (e.kind:Nat),.slice ua e.val.length uc,.int .i64 (e.lim:Nat)] 39)).alloc (.cells #[.slice none 0 0] 32)) (w.heap.size + 1) [.int .i64 (e.set:Nat),.int .i64 (e.kind:Nat),.slice ua e.val.length uc,.int .i64 (e.lim:Nat)] 39:=by
  have:=(Blk.new (w.alloc (.cells #[.slice va L.length vc] 32)) [.int .i64 (e.set:Nat),.int .i64 (e.kind:Nat),.slice ua e.val.length uc,.int .i64 (e.lim:Nat)] 39).mod ((Mod.refl Nowhere _).alloc (.cells #[.slice none 0 0] 32)) id;simpa using this
 have hb2:Blk (((w.alloc (.cells #[.slice va L.length vc] 32)).alloc (.cells #[.int .i64 (e.set:Nat),.int .i64 (e.kind:Nat),.slice ua e.val.length uc,.int .i64 (e.lim:Nat)] 39)).alloc (.cells #[.slice none 0 0] 32)) (w.heap.size + 2) [.slice none 0 0] 32:=by
  have:=Blk.new ((w.alloc (.cells #[.slice va L.length vc] 32)).alloc (.cells #[.int .i64 (e.set:Nat),.int .i64 (e.kind:Nat),.slice ua e.val.length uc,.int .i64 (e.lim:Nat)] 39)) [.slice none 0 0] 32;simpa using this
 have hI:=Xb (h.fresh hmA) hlen e.set e.kind
 have hM:=fun w1 (hm:Mod Nowhere (((w.alloc (.cells #[.slice va L.length vc] 32)).alloc (.cells #[.int .i64 (e.set:Nat),.int .i64 (e.kind:Nat),.slice ua e.val.length uc,.int .i64 (e.lim:Nat)] 39)).alloc (.cells #[.slice none 0 0] 32)) w1) =>
  Zhm (w1:=w1) (B:=w.heap.size) ((h.fresh hmA).fresh hm) hlen ((hv.fresh hmA).fresh hm) hvl (hb0.mod hm id) (hb1.mod hm id) (hb2.mod hm id) (ZY L e.set e.kind)
   (j:=if rHit L e.set e.kind = true then rIdx L e.set e.kind + 1 else rIdx L e.set e.kind) (by
    split
    ·rename_i q;exact Zcw q
    ·exact ZY _ _ _)
 have hbb:=fun w1 (hm:Mod Nowhere (((w.alloc (.cells #[.slice va L.length vc] 32)).alloc (.cells #[.int .i64 (e.set:Nat),.int .i64 (e.kind:Nat),.slice ua e.val.length uc,.int .i64 (e.lim:Nat)] 39)).alloc (.cells #[.slice none 0 0] 32)) w1)=>(⟨hb0.mod hm id,hb1.mod hm id⟩:Blk w1 w.heap.size [.slice va L.length vc] 32∧Blk w1 (w.heap.size + 1) [.int .i64 (e.set:Nat),.int .i64 (e.kind:Nat),.slice ua e.val.length uc,.int .i64 (e.lim:Nat)] 39);have y0:=hb0.cell 0;have yl:=hb0.lt;have x0:=hb1.cell 0;have x1:=hb1.cell 1;have xl:=hb1.lt;simp only [gz0,gs0] at y0 x0 x1
 have hwl:(rWith L e).length = rIdx L e.set e.kind + 1 + (L.length - (if rHit L e.set e.kind = true then rIdx L e.set e.kind + 1 else rIdx L e.set e.kind)):=by
  have:=ZY L e.set e.kind;unfold rWith;rw [List.length_append,List.length_append,List.length_take,List.length_drop]
  show min _ _ + 1 + _ = _
  omega
 have hfin:∀ W x c,RL W x c (rWith L e)→Mod Nowhere w W→SPost w (rWith L e) (.returned (.agg #[.slice x (rIdx L e.set e.kind + 1 + (L.length - (if rHit L e.set e.kind = true then rIdx L e.set e.kind + 1 else rIdx L e.set e.kind))) c])) W:=fun W x c hr hm=>⟨x,c,by rw [hwl],hr,hm⟩;have hwi:(L.take (rIdx L e.set e.kind) ++ [e]) ++ L.drop (if rHit L e.set e.kind = true then rIdx L e.set e.kind + 1 else rIdx L e.set e.kind) = rWith L e:=rfl;simp only [hwi] at hM;have hil:=ZY L e.set e.kind;generalize SPost w (rWith L e) = R at *;generalize rWith L e = RW at *;generalize rIdx L e.set e.kind = i at *
 generalize rHit L e.set e.kind = hit at *;clear hwl hwi h hv hb0 hb1 hb2;generalize L.length = n at *;generalize e.val.length = vn at *;generalize e.set = es at *;generalize e.kind = ek at *;generalize e.lim = el at *;generalize e.tries = et at *;refine hid5 ?_ hmA hI hM hbb hfin;clear hmA hI hM hbb hfin;intro hmA hI hM hbb hfin;go_enter Tryz.func56,Tryz.ntmps56;go_wp2_with fail;refine hI.out.mono ?_;rintro e1 w1 ⟨rfl,hm1⟩;have hmF:=hmA.out.trans hm1;obtain ⟨tc,va2,vc2,W2,ca,cc,W3,va4,vc4,W5,ta,td,va6,vc6,W6,hs1,r1,r2,r3,hs2,r4,⟨c1,c2,c3,c4,c5,c6⟩,d1,d2,d3⟩:=hM.out w1 hm1;obtain ⟨p0,p1⟩:=hbb.out w1 hm1
 have hf:=hfin.out _ _ _ d2 (d3 w hmF (Nat.le_refl _));clear y0 yl x0 x1 xl d2 d3;have y0:=p0.cell 0;have yl:=p0.lt;have x2:=c1.cell 2;have xl:=c1.lt;have xf:=c2.frozen;have x2':=c2.cell 2;have xl2:=c2.lt;have k0:=c3.cell 0;have k1:=c3.cell 1;have k2:=c3.cell 2;have k3:=c3.cell 3;have kl:=c3.lt;have y5:=c4.cell 0;have yl5:=c4.lt;have z6:=c5.cell 0;have zf:=c5.frozen;have zl:=c5.lt;simp only [gz0,gs0] at y0 x2 x2' k0 k1 k2 k3 y5 z6;refine hid12 ?_ hm1 hmF hf p0 p1 c1 c2 c3 c4 c5 c6 d1;clear hm1 hmF hf p0 p1 c1 c2 c3 c4 c5 c6 d1;intro hm1 hmF hf p0 p1 c1 c2 c3 c4 c5 c6 d1
 clear hI hM hbb hfin
 cases hit with
 | false =>
  rw [if_neg (show ¬ false = true by decide)] at hs2 r4 hf d1
  go_wp2_with (at_builtin;first | (refine Lib.wpList_append_run _ rfl _ _ _ _ rfl _ _ (by rfl) (by rfl) _ _ r1 ?_;clear r1) | (refine Lib.wpList_append_run _ rfl _ _ _ _ rfl _ _ (by rfl) (by rfl) _ _ r2 ?_;clear r2) | (refine Lib.wpList_append_run _ rfl _ _ _ _ rfl _ _ (by rfl) (by rfl) _ _ r3 ?_;clear r3) | (refine Lib.wpList_append_run _ rfl _ _ _ _ rfl _ _ (by rfl) (by rfl) _ _ r4 ?_;clear r4))
  refine bodyPost_ret (Jd rfl _ _ (w.heap.size + 2) _ rfl d1.out) rfl ?_;exact hf.out
 | true =>
  rw [if_pos (show true = true from rfl)] at hs2 r4 hf d1;have hii:((i + 1:Nat):Int) = (i:Int) + 1:=by omega
  rw [hii] at hs2
  go_wp2_with (at_builtin;first | (refine Lib.wpList_append_run _ rfl _ _ _ _ rfl _ _ (by rfl) (by rfl) _ _ r1 ?_;clear r1) | (refine Lib.wpList_append_run _ rfl _ _ _ _ rfl _ _ (by rfl) (by rfl) _ _ r2 ?_;clear r2) | (refine Lib.wpList_append_run _ rfl _ _ _ _ rfl _ _ (by rfl) (by rfl) _ _ r3 ?_;clear r3) | (refine Lib.wpList_append_run _ rfl _ _ _ _ rfl _ _ (by rfl) (by rfl) _ _ r4 ?_;clear r4))
  refine bodyPost_ret (Jd rfl _ _ (w.heap.size + 2) _ rfl d1.out) rfl ?_;exact hf.out
end
theorem Zhn {w:World} (st kd lm:Int) {v:Value} {l:List Nat} (hs:Src w v l):Calls Tryz.prog 73 #[.agg #[.int .i64 st,.int .i64 kd,v,.int .i64 lm]] w fun e w'=>e = .returned (.bool (RK.ok ⟨st,kd,lm,l⟩))∧Mod Nowhere w w':=by
 obtain ⟨a,c,rfl,-⟩:=id hs;obtain ⟨n,hn⟩:∃ n,l.length = n:=⟨_,rfl⟩;rw [hn];have hm:Mod Nowhere w (w.alloc (.cells #[.int .i64 st,.int .i64 kd,.slice a n c,.int .i64 lm] 39)):=(Mod.refl _ w).alloc _;have hb:=Blk.new w [.int .i64 st,.int .i64 kd,.slice a n c,.int .i64 lm] 39;have z0:=hb.cell 0;have z1:=hb.cell 1;have z2:=hb.cell 2;have z3:=hb.cell 3;have zl:=hb.lt;simp only [gz0,gs0] at z0 z1 z2 z3;clear hb;by_cases h0:(1:Int)≤st
 ·by_cases h1:st≤8
  ·by_cases h2:(1:Int)≤kd
   ·by_cases h3:kd≤6
    ·by_cases h4:(n:Int) = 16
     ·by_cases h5:(1:Int)≤lm
      ·by_cases h6:lm≤15
       ·have hR:RK.ok ⟨st,kd,lm,l⟩ = true:=by
         skip
         unfold RK.ok okP;simp only [Bool.and_eq_true,decide_eq_true_eq];omega
        rw [hR];clear hR hn hs;replace hm:=Lib.hid hm;go_enter Tryz.func73,Tryz.ntmps73;go_wp2;go_ret;exact ⟨rfl,hm.out⟩
       ·have hR:RK.ok ⟨st,kd,lm,l⟩ = false:=by
         rw [Bool.eq_false_iff];unfold RK.ok okP;simp only [ne_eq,Bool.and_eq_true,decide_eq_true_eq];omega
        rw [hR];clear hR hn hs;replace hm:=Lib.hid hm;go_enter Tryz.func73,Tryz.ntmps73;go_wp2;go_ret;exact ⟨rfl,hm.out⟩
      ·have hR:RK.ok ⟨st,kd,lm,l⟩ = false:=by
        rw [Bool.eq_false_iff];unfold RK.ok okP;simp only [ne_eq,Bool.and_eq_true,decide_eq_true_eq];omega
       rw [hR];clear hR hn hs;replace hm:=Lib.hid hm;go_enter Tryz.func73,Tryz.ntmps73;go_wp2;go_ret;exact ⟨rfl,hm.out⟩
     ·have hR:RK.ok ⟨st,kd,lm,l⟩ = false:=by
       rw [Bool.eq_false_iff];unfold RK.ok okP;simp only [ne_eq,Bool.and_eq_true,decide_eq_true_eq];omega
      rw [hR];clear hR hn hs;replace hm:=Lib.hid hm;go_enter Tryz.func73,Tryz.ntmps73;go_wp2;go_ret;exact ⟨rfl,hm.out⟩
    ·have hR:RK.ok ⟨st,kd,lm,l⟩ = false:=by
      rw [Bool.eq_false_iff];unfold RK.ok okP;simp only [ne_eq,Bool.and_eq_true,decide_eq_true_eq];omega
     rw [hR];clear hR hn hs;replace hm:=Lib.hid hm;go_enter Tryz.func73,Tryz.ntmps73;go_wp2;go_ret;exact ⟨rfl,hm.out⟩
   ·have hR:RK.ok ⟨st,kd,lm,l⟩ = false:=by
     rw [Bool.eq_false_iff];unfold RK.ok okP;simp only [ne_eq,Bool.and_eq_true,decide_eq_true_eq];omega
    rw [hR];clear hR hn hs;replace hm:=Lib.hid hm;go_enter Tryz.func73,Tryz.ntmps73;go_wp2;go_ret;exact ⟨rfl,hm.out⟩
  ·have hR:RK.ok ⟨st,kd,lm,l⟩ = false:=by
    rw [Bool.eq_false_iff];unfold RK.ok okP;simp only [ne_eq,Bool.and_eq_true,decide_eq_true_eq];omega
   rw [hR];clear hR hn hs;replace hm:=Lib.hid hm;go_enter Tryz.func73,Tryz.ntmps73;go_wp2;go_ret;exact ⟨rfl,hm.out⟩
 ·have hR:RK.ok ⟨st,kd,lm,l⟩ = false:=by
   rw [Bool.eq_false_iff];unfold RK.ok okP;simp only [ne_eq,Bool.and_eq_true,decide_eq_true_eq];omega
  rw [hR];clear hR hn hs;replace hm:=Lib.hid hm;go_enter Tryz.func73,Tryz.ntmps73;go_wp2;go_ret;exact ⟨rfl,hm.out⟩
namespace Ky
def rPut (L:List KEn) (x:RK):List KEn × Nat:=if x.ok = true then (rWith L x.en,0) else (L,1)
end Ky
theorem Z3 {fn:Func} {p u:Tmp} (h:fn.results = #[.cell p 32,.tmp u]) (tmps:Array Value) (w:World) (b:Nat) (c0:Value) (hp:tmps.getD p undef = ptr b) (hb:Blk w b [c0] 32) :
  (results fn tmps).run Tryz.prog w = .ok (.tuple #[.agg #[c0],tmps.getD u undef]) w:=by
 rw [results_cell_tmp h,hp];have k0:=hb.cell 0;simp only [gz0] at k0
 go_simp
def SPost1 (w:World) (L:List KEn) (er:Nat) (e:Ending) (w':World):Prop:=∃ va vc,e = .returned (.tuple #[.agg #[.slice va L.length vc],errno er])∧RL w' va vc L∧Mod Nowhere w w'
theorem boxm {w:World} (cs ds es:List Value) (T U V:TypeId):Mod Nowhere w (((w.alloc (.cells cs.toArray T)).alloc (.cells ds.toArray U)).alloc (.cells es.toArray V)):=(((Mod.refl _ w).alloc _).alloc _).alloc _
theorem box3 {w:World} (cs ds es:List Value) (T U V:TypeId):∀ W,Mod Nowhere (((w.alloc (.cells cs.toArray T)).alloc (.cells ds.toArray U)).alloc (.cells es.toArray V)) W→Blk W w.heap.size cs T∧Blk W (w.heap.size + 1) ds U∧Blk W (w.heap.size + 2) es V:=fun W hm =>
 ⟨(((Blk.new w cs T).mod ((Mod.refl Nowhere _).alloc _) id).mod ((Mod.refl Nowhere _).alloc _) id).mod hm id,by
  have:=((Blk.new (w.alloc (.cells cs.toArray T)) ds U).mod ((Mod.refl Nowhere _).alloc (.cells es.toArray V)) id).mod hm id
  simpa using this,by
  have:=(Blk.new ((w.alloc (.cells cs.toArray T)).alloc (.cells ds.toArray U)) es V).mod hm id
  simpa using this⟩
theorem Zj {w w2:World} {B:Nat} {c0:Value} (hm:Mod Nowhere w w2) (hw:w.heap.size≤B) (hb:Blk w2 B [c0] 32) (v:Value) :
  Blk (w2.setCell ⟨B,0,none⟩ v) B [v] 32∧Mod Nowhere w (w2.setCell ⟨B,0,none⟩ v)∧∀ va vc L,RL w2 va vc L→RL (w2.setCell ⟨B,0,none⟩ v) va vc L:=by
 have m:Mod (fun k=>k = B) w2 (w2.setCell ⟨B,0,none⟩ v):=(Mod.refl (fun k=>k = B) w2).setCell (p:=⟨B,0,none⟩) (fun _=>rfl) _;exact ⟨hb.setCell 0 v,hm.step m fun k hk e=>by have e:k = B:=e;omega,fun va vc L h=>h.mod m (Zh hb (by decide)) (Zh hb (by decide))⟩
section
variable {w : World} {va : Option Addr} {vc : Nat} {L : List KEn}
theorem Zho (h:RL w va vc L) (hlen:L.length≤1000) (st kd lm:Int) {v:Value} {l:List Nat} (hv:Src w v l) (bv:Bytes l) :
  Calls Tryz.prog 36 #[.agg #[.slice va L.length vc],.agg #[.int .i64 st,.int .i64 kd,v,.int .i64 lm]] w (SPost1 w (rPut L ⟨st,kd,lm,l⟩).1 (rPut L ⟨st,kd,lm,l⟩).2):=by
 obtain ⟨a,c,rfl,-⟩:=id hv;have hmA:=boxm (w:=w) [.slice va L.length vc] [.int .i64 st,.int .i64 kd,.slice a l.length c,.int .i64 lm] [.slice none 0 0] 32 39 32;have hbx:=box3 (w:=w) [.slice va L.length vc] [.int .i64 st,.int .i64 kd,.slice a l.length c,.int .i64 lm] [.slice none 0 0] 32 39 32;have hV:=Zhn st kd lm (hv.fresh hmA);obtain ⟨b0,b1,b2⟩:=hbx _ (Mod.refl _ _);have y0:=b0.cell 0;have yl:=b0.lt;have x0:=b1.cell 0;have x1:=b1.cell 1;have x2:=b1.cell 2;have x3:=b1.cell 3;have xl:=b1.lt;simp only [gz0,gs0] at y0 x0 x1 x2 x3;clear b0 b1 b2
 cases hok:RK.ok ⟨st,kd,lm,l⟩ with
 | false =>
  have hfin:∀ W x y,RL W x y L→Mod Nowhere w W→SPost1 w (rPut L ⟨st,kd,lm,l⟩).1 (rPut L ⟨st,kd,lm,l⟩).2 (.returned (.tuple #[.agg #[.slice x L.length y],errno 1])) W:=fun W x y hr hm=>by
   unfold rPut;rw [if_neg (by rw [hok];decide)];exact ⟨x,y,rfl,hr,hm⟩
  rw [hok] at hV;generalize SPost1 w (rPut L ⟨st,kd,lm,l⟩).1 (rPut L ⟨st,kd,lm,l⟩).2 = R at *;generalize hn:L.length = n at *;generalize l.length = ln at *;clear hv;refine hid7 ?_ hmA hbx hV hfin h hok hn;clear hmA hbx hV hfin h hok hn;intro hmA hbx hV hfin h hok hn;go_enter Tryz.func36,Tryz.ntmps36;go_wp2_with fail;refine hV.out.mono ?_;rintro e w1 ⟨rfl,hm1⟩;have hm01:=hmA.out.trans hm1;obtain ⟨b0,b1,b2⟩:=hbx.out w1 hm1;obtain ⟨q1,q2,q3⟩:=Zj hm01 (Nat.le_add_right _ _) b2 (.slice va n vc);have hr:=h.out.fresh hm01;have hf:=hfin.out _ va vc (q3 _ _ _ hr) q2;clear y0 yl x0 x1 x2 x3 xl;have y0:=b0.cell 0;have yl:=b0.lt
  have z0:=b2.cell 0;have zf:=b2.frozen;have zl:=b2.lt;simp only [gz0] at y0 z0;clear b0 b1 b2 q2 q3;refine hid5 ?_ hf q1 hm01 hm1 hr;clear hf q1 hm01 hm1 hr;intro hf q1 hm01 hm1 hr;go_wp2;refine bodyPost_ret (Z3 rfl _ _ (w.heap.size + 2) _ rfl q1.out) rfl ?_;exact hf.out
 | true =>
  obtain ⟨ok,e1,e2,e3⟩:=RK.okk hok bv
  have hfin:∀ W x y,RL W x y (rWith L (RK.en ⟨st,kd,lm,l⟩))→Mod Nowhere w W→SPost1 w (rPut L ⟨st,kd,lm,l⟩).1 (rPut L ⟨st,kd,lm,l⟩).2 (.returned (.tuple #[.agg #[.slice x (rWith L (RK.en ⟨st,kd,lm,l⟩)).length y],errno 0])) W:=fun W x y hr hm=>by
   unfold rPut;rw [if_pos hok];exact ⟨x,y,rfl,hr,hm⟩
  have hW:=fun W (hm:Mod Nowhere w W)=>Jf (h.fresh hm) hlen (e:=RK.en ⟨st,kd,lm,l⟩) (v:=.slice a l.length c) (hv.fresh hm) (by rw [ok.v16];decide);have et:(((RK.en ⟨st,kd,lm,l⟩).tries:Nat):Int) = lm:=e3;rw [hok] at hV;rw [e1,e2,e3,et] at hW;dsimp only at hW;generalize SPost1 w (rPut L ⟨st,kd,lm,l⟩).1 (rPut L ⟨st,kd,lm,l⟩).2 = R at *;generalize RK.en ⟨st,kd,lm,l⟩ = en at *;generalize hn:L.length = n at *;generalize l.length = ln at *;clear hv ok e1 e2 e3 et;refine hid8 ?_ hmA hbx hV hfin h hW hok hn;clear hmA hbx hV hfin h hW hok hn;intro hmA hbx hV hfin h hW hok hn
  go_enter Tryz.func36,Tryz.ntmps36;go_wp2_with fail;refine hV.out.mono ?_;rintro e w1 ⟨rfl,hm1⟩;have hm01:=hmA.out.trans hm1;obtain ⟨b0,b1,b2⟩:=hbx.out w1 hm1;have hc:=hW.out w1 hm01;clear y0 yl x0 x1 x2 x3 xl;have y0:=b0.cell 0;have yl:=b0.lt;have x0:=b1.cell 0;have x1:=b1.cell 1;have x2:=b1.cell 2;have x3:=b1.cell 3;have xl:=b1.lt;simp only [gz0,gs0] at y0 x0 x1 x2 x3;clear b0 b1 b2;refine hid3 ?_ hm1 hm01 hc;clear hm1 hm01 hc;intro hm1 hm01 hc;go_wp2_with fail;refine hc.out.mono ?_;rintro e w2 ⟨xa,xc,rfl,hr2,hm2⟩;have hm02:=hm01.out.trans hm2;obtain ⟨b0,b1,b2⟩:=hbx.out w2 (hm1.out.trans hm2);obtain ⟨q1,q2,q3⟩:=Zj hm02 (Nat.le_add_right _ _) b2 (.slice xa (rWith L en).length xc)
  have hf:=hfin.out _ xa xc (q3 _ _ _ hr2) q2;generalize (rWith L en).length = m at *;have z0:=b2.cell 0;have zf:=b2.frozen;have zl:=b2.lt;simp only [gz0] at z0;clear b0 b1 b2 q2 q3 y0 yl x0 x1 x2 x3 xl hc hr2;refine hid4 ?_ hf q1 hm02 hm2;clear hf q1 hm02 hm2;intro hf q1 hm02 hm2;go_wp2;refine bodyPost_ret (Z3 rfl _ _ (w.heap.size + 2) _ rfl q1.out) rfl ?_;exact hf.out
end
end Go.Proofs.YtoehlaeaafalmaaGreat
