/-
  The reference of keys: Sets.
-/
import Derived.Test.YtoehlaeaafalmaaGreatCK13
set_option linter.unusedVariables false
set_option linter.unusedSimpArgs false
set_option maxHeartbeats 4000000
set_option maxRecDepth 100000
namespace Go.Proofs.YtoehlaeaafalmaaGreat
open Go.RowKit
open Jn Vn Ky
attribute [local go_sem] Oper.semAt_some
namespace Ky
theorem Zcx (e:KEn):∀ (o:Option Nat) (l:List KEn),rSets o (l ++ [e]) = rSets o l ++ (if (match l.getLast? with | none=>o | some x=>some x.set) = some e.set then [] else [e.set])
 | o,[]=>by
  show (if o = some e.set then rSets (some e.set) [] else e.set :: rSets (some e.set) []) = [] ++ _
  rw [List.nil_append]
  rfl
 | o,a :: l=>by
  have ih:=Zcx e (some a.set) l
  have hl:(match (a :: l).getLast? with | none=>o | some x=>some x.set) = (match l.getLast? with | none=>some a.set | some x=>some x.set):=by
   cases l with
   | nil=>rfl
   | cons b l=>rw [List.getLast?_cons_cons];cases h:(b :: l).getLast? with
    | none=>simp at h
    | some x=>rfl
  show (if o = some a.set then rSets (some a.set) (l ++ [e]) else a.set :: rSets (some a.set) (l ++ [e])) = (if o = some a.set then rSets (some a.set) l else a.set :: rSets (some a.set) l) ++ _
  rw [ih,hl]
  split <;> rfl
theorem Zhv {L:List KEn} (h:0 < L.length):rSets none (L.take (0 + 1)) = rSets none (L.take 0) ++ [L[0].set]:=by
 cases L with
 | nil=>simp at h
 | cons a l=>rfl
theorem Zhw {L:List KEn} {j:Nat} (h:j + 1 < L.length):rSets none (L.take (j + 1 + 1)) = rSets none (L.take (j + 1)) ++ (if L[j].set = L[j + 1].set then [] else [L[j + 1].set]):=by
 have h1:L.take (j + 1 + 1) = L.take (j + 1) ++ [L[j + 1]]:=by rw [List.take_add_one,List.getElem?_eq_getElem h];rfl
 have h2:(L.take (j + 1)).getLast? = some L[j]:=by
  rw [List.take_add_one,List.getElem?_eq_getElem (show j < L.length by omega)]
  show (L.take j ++ [L[j]]).getLast? = _
  rw [List.getLast?_concat]
 rw [h1,Zcx,h2];by_cases e:L[j].set = L[j + 1].set
 ·rw [if_pos (congrArg some e),if_pos e]
 ·rw [if_neg (fun q=>e (Option.some.inj q)),if_neg e]
theorem Ji:∀ (o:Option Nat) (l:List KEn),(rSets o l).length≤l.length
 | _,[]=>Nat.le_refl _
 | o,e :: l=>by
  have:=Ji (some e.set) l;unfold rSets
  split
  ·rw [List.length_cons];omega
  ·rw [List.length_cons,List.length_cons];omega
end Ky
section
variable {w : World} {va : Option Addr} {vc : Nat} {L : List KEn}
theorem Zhx (h:RL w va vc L) (hlen:L.length≤1000) :
  Calls Tryz.prog 44 #[.agg #[.slice va L.length vc]] w fun e w'=>∃ v,e = .returned v∧Sl w' v 3 1 (rSets none L).length (ints (rSets none L))∧Mod Nowhere w w':=by
 obtain ⟨l1,l2⟩:=h.len0;unfold maxLen at l2
 have hsl:∀ k,(rSets none (L.take k)).length≤1000:=fun k=>by
  have h1:=Ji none (L.take k);have h2:(L.take k).length≤L.length:=by rw [List.length_take];omega
  omega
 obtain ⟨n,hn⟩:∃ n,L.length = n:=⟨_,rfl⟩;rw [hn] at l1 hlen ⊢;have hm0:Mod Nowhere w (w.alloc (.cells #[.slice va n vc] 32)):=(Mod.refl _ w).alloc _;have hb0:=Blk.new w [.slice va n vc] 32;have h0:=h.fresh hm0;have y0:=hb0.cell 0;have yl:=hb0.lt;simp only [gz0] at y0;obtain ⟨w0,hw0⟩:∃ W,w.alloc (.cells #[.slice va n vc] 32) = W:=⟨_,rfl⟩;have hb0':Blk w0 w.heap.size [.slice va n vc] 32:=by rw [← hw0];exact hb0
 rw [hw0] at hm0 h0 y0 yl;have hbx:∀ W,Mod Nowhere w0 W→Blk W w.heap.size [.slice va n vc] 32:=fun W hm=>hb0'.mod hm id;have hsz:=hm0.size;clear h hb0 hb0';refine hid6 ?_ hm0 h0 hbx hn hsl hsz;clear hm0 h0 hbx hn hsl hsz;intro hm0 h0 hbx hn hsl hsz;go_enter Tryz.func44,Tryz.ntmps44;go_wp2
 try rw [hw0]
 clear hw0
 go_loopw [3,4] (fun v i wr=>∃ k:Nat,k≤n∧i = .int .i64 k∧wr.ownsRow w0.heap.size 3 1 v (rSets none (L.take k)).length (ints (rSets none (L.take k)))∧Mod Nowhere w0 wr) (fun _ i _=>n - (intOf i).toNat)
 case atStart=>exact ⟨0,by omega,rfl,by show World.ownsRow w0 w0.heap.size 3 1 (.slice none 0 0) 0 [];exact World.ownsRow_nil _ _ _ _,Mod.refl _ _⟩
 case round =>
  obtain ⟨k,hk,rfl,hown,hm⟩:=hrel;obtain ⟨sa,sc,rfl,-⟩:=Zf hown;have b0:=hbx.out wr hm;clear y0 yl;have y0:=b0.cell 0;have yl:=b0.lt;simp only [gz0] at y0;clear b0;have hslk:=hsl.out k;by_cases hkn:k < n
  ·have hki:(k:Int) < (n:Int):=by omega
   have hkl:k < L.length:=by rw [hn.out];exact hkn
   obtain ⟨b,off,a1,c1,rfl,-,hat1⟩:=h0.out.at_ hkl;obtain ⟨acc,hacc⟩:∃ x,rSets none (L.take k) = x:=⟨_,rfl⟩;obtain ⟨acc2,hacc2⟩:∃ x,rSets none (L.take (k + 1)) = x:=⟨_,rfl⟩;rw [hacc] at hown hslk ⊢
   cases k with
   | zero =>
    have hst:=Zhv hkl;rw [hacc,hacc2] at hst;generalize L[0] = en at *;generalize en.set = es at *;rw [Nat.zero_mul,Nat.add_zero] at hat1;refine hid6 ?_ hown hm hat1 hst hacc hacc2;clear hown hm hat1 hst hacc hacc2;intro hown hm hat1 hst hacc hacc2;go_wp2_with fail;refine Zo (fun i v w'=>match i with | 0=>(v = .int .i64 0) | 1=>(v = .bool true) | 2=>(v = .bool true) | 19=>(v = .bool true) | _=>True) ?A_ (by first | assumption | kernel_rfl) (by kernel_rfl) (by kernel_rfl) ?hA_ ?hS_ ?hE_
    case hA_=>intro xs;simp [putAll,List.range,List.range.loop,Act.put] <;> rfl
    case hS_ =>
     refine ⟨?_,?_,?_,?_,?_,?_,?_,?_,?_,?_,?_,?_,?_,?_,?_,?_,?_,?_,?_,?_,trivial⟩
     ·-- 0: t12:=move(t4)
      intro yv w' hR hF K hK;clear hF
      go_simp
      exact hK _ _ (fun _ _=>by first | trivial | rfl | simp [*]) (Mod.refl _ _)
     ·-- 1: t13:=binOp(eql,3,t12,0:i64,3)
      intro yv w' hR hF K hK;have f0:(yv 0) = .int .i64 0:=hF 0 (by kernel_rfl) w' (Mod.refl _ _);clear hF;generalize yv 0 = y0 at *;subst f0
      go_simp
      exact hK _ _ (fun _ _=>by first | trivial | rfl | simp [*]) (Mod.refl _ _)
     ·-- 2: t14:=move(t13)
      intro yv w' hR hF K hK;have f1:(yv 1) = .bool true:=hF 1 (by kernel_rfl) w' (Mod.refl _ _);clear hF;generalize yv 1 = y1 at *;subst f1
      go_simp
      exact hK _ _ (fun _ _=>by first | trivial | rfl | simp [*]) (Mod.refl _ _)
     ·-- 3: t15:=fieldAddr(32,t1,0)   [guard (2,false)]
      intro yv w' hR hF K hK;have f2:(yv 2) = .bool true:=hF 2 (by kernel_rfl) w' (Mod.refl _ _);clear hF;generalize yv 2 = y2 at *;subst f2
      go_simp
      exact hK _ _ (fun _ _=>by first | trivial | rfl | simp [*]) (Mod.refl _ _)
     ·-- 4: t16:=load(30,t15)   [guard (2,false)]
      intro yv w' hR hF K hK;have f2:(yv 2) = .bool true:=hF 2 (by kernel_rfl) w' (Mod.refl _ _);clear hF;generalize yv 2 = y2 at *;subst f2
      go_simp
      exact hK _ _ (fun _ _=>by first | trivial | rfl | simp [*]) (Mod.refl _ _)
     ·-- 5: t17:=move(t4)   [guard (2,false)]
      intro yv w' hR hF K hK;have f2:(yv 2) = .bool true:=hF 2 (by kernel_rfl) w' (Mod.refl _ _);clear hF;generalize yv 2 = y2 at *;subst f2
      go_simp
      exact hK _ _ (fun _ _=>by first | trivial | rfl | simp [*]) (Mod.refl _ _)
     ·-- 6: t18:=indexAddr(30,t16,t17)   [guard (2,false)]
      intro yv w' hR hF K hK;have f2:(yv 2) = .bool true:=hF 2 (by kernel_rfl) w' (Mod.refl _ _);clear hF;generalize yv 2 = y2 at *;subst f2
      go_simp
      exact hK _ _ (fun _ _=>by first | trivial | rfl | simp [*]) (Mod.refl _ _)
     ·-- 7: t19:=fieldAddr(111,t18,0)   [guard (2,false)]
      intro yv w' hR hF K hK;have f2:(yv 2) = .bool true:=hF 2 (by kernel_rfl) w' (Mod.refl _ _);clear hF;generalize yv 2 = y2 at *;subst f2
      go_simp
      exact hK _ _ (fun _ _=>by first | trivial | rfl | simp [*]) (Mod.refl _ _)
     ·-- 8: t20:=fieldAddr(39,t19,0)   [guard (2,false)]
      intro yv w' hR hF K hK;have f2:(yv 2) = .bool true:=hF 2 (by kernel_rfl) w' (Mod.refl _ _);clear hF;generalize yv 2 = y2 at *;subst f2
      go_simp
      exact hK _ _ (fun _ _=>by first | trivial | rfl | simp [*]) (Mod.refl _ _)
     ·-- 9: t21:=load(3,t20)   [guard (2,false)]
      intro yv w' hR hF K hK;have f2:(yv 2) = .bool true:=hF 2 (by kernel_rfl) w' (Mod.refl _ _);clear hF;generalize yv 2 = y2 at *;subst f2
      go_simp
      exact hK _ _ (fun _ _=>by first | trivial | rfl | simp [*]) (Mod.refl _ _)
     ·-- 10: t22:=fieldAddr(32,t1,0)   [guard (2,false)]
      intro yv w' hR hF K hK;have f2:(yv 2) = .bool true:=hF 2 (by kernel_rfl) w' (Mod.refl _ _);clear hF;generalize yv 2 = y2 at *;subst f2
      go_simp
      exact hK _ _ (fun _ _=>by first | trivial | rfl | simp [*]) (Mod.refl _ _)
     ·-- 11: t23:=load(30,t22)   [guard (2,false)]
      intro yv w' hR hF K hK;have f2:(yv 2) = .bool true:=hF 2 (by kernel_rfl) w' (Mod.refl _ _);clear hF;generalize yv 2 = y2 at *;subst f2
      go_simp
      exact hK _ _ (fun _ _=>by first | trivial | rfl | simp [*]) (Mod.refl _ _)
     ·-- 12: t24:=move(t4)   [guard (2,false)]
      intro yv w' hR hF K hK;have f2:(yv 2) = .bool true:=hF 2 (by kernel_rfl) w' (Mod.refl _ _);clear hF;generalize yv 2 = y2 at *;subst f2
      go_simp
      exact hK _ _ (fun _ _=>by first | trivial | rfl | simp [*]) (Mod.refl _ _)
     ·-- 13: t25:=binOp(sub,3,t24,1:i64,3)   [guard (2,false)]
      intro yv w' hR hF K hK;have f2:(yv 2) = .bool true:=hF 2 (by kernel_rfl) w' (Mod.refl _ _);clear hF;generalize yv 2 = y2 at *;subst f2
      go_simp
      exact hK _ _ (fun _ _=>by first | trivial | rfl | simp [*]) (Mod.refl _ _)
     ·-- 14: t26:=indexAddr(30,t23,t25)   [guard (2,false)]
      intro yv w' hR hF K hK;have f2:(yv 2) = .bool true:=hF 2 (by kernel_rfl) w' (Mod.refl _ _);clear hF;generalize yv 2 = y2 at *;subst f2
      go_simp
      exact hK _ _ (fun _ _=>by first | trivial | rfl | simp [*]) (Mod.refl _ _)
     ·-- 15: t27:=fieldAddr(111,t26,0)   [guard (2,false)]
      intro yv w' hR hF K hK;have f2:(yv 2) = .bool true:=hF 2 (by kernel_rfl) w' (Mod.refl _ _);clear hF;generalize yv 2 = y2 at *;subst f2
      go_simp
      exact hK _ _ (fun _ _=>by first | trivial | rfl | simp [*]) (Mod.refl _ _)
     ·-- 16: t28:=fieldAddr(39,t27,0)   [guard (2,false)]
      intro yv w' hR hF K hK;have f2:(yv 2) = .bool true:=hF 2 (by kernel_rfl) w' (Mod.refl _ _);clear hF;generalize yv 2 = y2 at *;subst f2
      go_simp
      exact hK _ _ (fun _ _=>by first | trivial | rfl | simp [*]) (Mod.refl _ _)
     ·-- 17: t29:=load(3,t28)   [guard (2,false)]
      intro yv w' hR hF K hK;have f2:(yv 2) = .bool true:=hF 2 (by kernel_rfl) w' (Mod.refl _ _);clear hF;generalize yv 2 = y2 at *;subst f2
      go_simp
      exact hK _ _ (fun _ _=>by first | trivial | rfl | simp [*]) (Mod.refl _ _)
     ·-- 18: t30:=binOp(neq,3,t21,t29,3)   [guard (2,false)]
      intro yv w' hR hF K hK;have f2:(yv 2) = .bool true:=hF 2 (by kernel_rfl) w' (Mod.refl _ _);clear hF;generalize yv 2 = y2 at *;subst f2
      go_simp
      exact hK _ _ (fun _ _=>by first | trivial | rfl | simp [*]) (Mod.refl _ _)
     ·-- 19: t31:=pick(t14,const(Value.bool(true)),t30)
      intro yv w' hR hF K hK;have f2:(yv 2) = .bool true:=hF 2 (by kernel_rfl) w' (Mod.refl _ _);clear hF;generalize yv 2 = y2 at *;subst f2
      go_simp
      exact hK _ _ (fun _ _=>by first | trivial | rfl | simp [*]) (Mod.refl _ _)
    case hE_ =>
     intro yv w' hR hF;have f0:(yv 0) = .int .i64 0:=hF 0 (by simp) w' (Mod.refl _ _);have f1:(yv 1) = .bool true:=hF 1 (by simp) w' (Mod.refl _ _);have f2:(yv 2) = .bool true:=hF 2 (by simp) w' (Mod.refl _ _);have f19:(yv 19) = .bool true:=hF 19 (by simp) w' (Mod.refl _ _);clear hF;generalize yv 0 = y0 at *;subst f0;generalize yv 1 = y1 at *;subst f1;generalize yv 2 = y2 at *;subst f2;generalize yv 19 = y19 at *;subst f19;have hm2:=hm.out.trans ((Mod.refl Nowhere wr).drew.trans hR);have hown2:=Zb hown.out ((Mod.refl Nowhere wr).drew.trans hR) (fun _ _ e=>e);have b2:=hbx.out w' hm2;obtain ⟨g0,g1,-⟩:=hat1.out w' hm2
     obtain ⟨va2,vc2,W2,hrun,hown3,hmO⟩:=ZM Tryz.underlying59 Y5 rfl (by decide) hown2 (news:=[.int .i64 ((es:Nat):Int)]) rfl (by intro u hu;simp only [List.mem_cons,List.not_mem_nil,or_false] at hu;subst hu;rfl) (by omega) (by omega) hm2.size;have hab:=Own1.above hown2;have hm3:=hm2.step hmO fun i hi e=>by have:=(hab i e).1;omega
     have hll:acc.length + 1 = acc2.length:=by rw [hst.out,List.length_append];rfl
     have hln:ints acc ++ [.int .i64 ((es:Nat):Int)] = ints acc2:=by rw [hst.out];simp [ints]
     rw [hln,hll] at hown3;rw [hll] at hrun;have y0:=b2.cell 0;have yl:=b2.lt;simp only [gz0] at y0;clear b2 hR hm hown hown2 hmO hab hll hln;generalize hq1:acc.length = q1 at *;generalize hq2:acc2.length = q2 at *;refine hid5 ?_ hm2 hown3 hm3 hq1 hq2;clear hm2 hown3 hm3 hq1 hq2;intro hm2 hown3 hm3 hq1 hq2
     go_wp2_with (at_builtin;refine Lib.wpList_append_run _ rfl _ _ _ _ rfl _ _ (by rfl) (by rfl) _ _ hrun ?_;clear hrun)
     go_roundw
     case rel=>exact ⟨0 + 1,by omega,by go_num,by rw [hacc2.out,hq2.out];exact hown3.out,hm3.out⟩
     case measure=>simp [intOf];omega
   | succ j =>
    have hjl:j < L.length:=by omega
    have hst:=Zhw hkl;rw [hacc,hacc2] at hst;have hji:(j:Int) < (n:Int):=by omega
    have hwj:IntKind.i64.wrap (j:Int) = (j:Int):=by rw [IntKind.wrap_i64];omega
    have hat0:∀ X,Mod Nowhere w0 X→b < X.heap.size∧X.cell? ⟨b,off + j * 5,none⟩ = some (.int .i64 (L[j].set:Nat))∧True:=fun X hX=>by
     obtain ⟨b',off',a0,c0,e,-,hx⟩:=h0.out.at_ hjl;simp at e;obtain ⟨rfl,rfl⟩:=e;obtain ⟨g0,g1,-⟩:=hx X hX;exact ⟨g0,g1,trivial⟩
    have hjc:((j + 1:Nat):Int) = (j:Int) + 1:=by omega
    rw [hjc] at hki ⊢;have hj0:¬ (j:Int) + 1 = 0:=by omega
    generalize L[j + 1] = en at *;generalize L[j] = fn at *;generalize en.set = es at *;generalize fn.set = fs at *;by_cases he:fs = es
    ·rw [if_pos he,List.append_nil] at hst;subst he;refine hid7 ?_ hown hm hat1 hat0 hst hacc hacc2;clear hown hm hat1 hat0 hst hacc hacc2;intro hown hm hat1 hat0 hst hacc hacc2;go_wp2_with fail;refine Zo (fun i v w'=>match i with | 0=>(v = .int .i64 ((j:Int) + 1)) | 1=>(v = .bool false) | 2=>(v = .bool false) | 3=>(v = .pointer (some ⟨w.heap.size,0,none⟩)) | 4=>(v = .slice (some ⟨b,off,none⟩) n vc) | 5=>(v = .int .i64 ((j:Int) + 1)) | 6=>(v = .pointer (some ⟨b,off + (j + 1) * 5,none⟩)) | 7=>(v = .pointer (some ⟨b,off + (j + 1) * 5,none⟩)) | 8=>(v = .pointer (some ⟨b,off + (j + 1) * 5,none⟩)) | 9=>(v = .int .i64 (fs:Nat)) | 10=>(v = .pointer (some ⟨w.heap.size,0,none⟩)) | 11=>(v = .slice (some ⟨b,off,none⟩) n vc) | 12=>(v = .int .i64 ((j:Int) + 1)) | 13=>(v = .int .i64 (j:Int)) | 14=>(v = .pointer (some ⟨b,off + j * 5,none⟩)) | 15=>(v = .pointer (some ⟨b,off + j * 5,none⟩)) | 16=>(v = .pointer (some ⟨b,off + j * 5,none⟩)) | 17=>(v = .int .i64 (fs:Nat)) | 18=>(v = .bool false) | 19=>(v = .bool false) | _=>True) ?A_5_1 (by first | assumption | kernel_rfl) (by kernel_rfl) (by kernel_rfl) ?hA_5_1 ?hS_5_1 ?hE_5_1
     case hA_5_1=>intro xs;simp [putAll,List.range,List.range.loop,Act.put] <;> rfl
     case hS_5_1 =>
      refine ⟨?_,?_,?_,?_,?_,?_,?_,?_,?_,?_,?_,?_,?_,?_,?_,?_,?_,?_,?_,?_,trivial⟩
      ·-- 0: t12:=move(t4)
       intro yv w' hR hF K hK;clear hF
       go_simp
       exact hK _ _ (fun _ _=>by first | trivial | rfl | simp [*]) (Mod.refl _ _)
      ·-- 1: t13:=binOp(eql,3,t12,0:i64,3)
       intro yv w' hR hF K hK;have f0:(yv 0) = .int .i64 ((j:Int) + 1):=hF 0 (by kernel_rfl) w' (Mod.refl _ _);clear hF;generalize yv 0 = y0 at *;subst f0
       go_simp
       exact hK _ _ (fun _ _=>by first | trivial | rfl | simp [*]) (Mod.refl _ _)
      ·-- 2: t14:=move(t13)
       intro yv w' hR hF K hK;have f1:(yv 1) = .bool false:=hF 1 (by kernel_rfl) w' (Mod.refl _ _);clear hF;generalize yv 1 = y1 at *;subst f1
       go_simp
       exact hK _ _ (fun _ _=>by first | trivial | rfl | simp [*]) (Mod.refl _ _)
      ·-- 3: t15:=fieldAddr(32,t1,0)   [guard (2,false)]
       intro yv w' hR hF K hK;have f2:(yv 2) = .bool false:=hF 2 (by kernel_rfl) w' (Mod.refl _ _);clear hF;generalize yv 2 = y2 at *;subst f2
       go_simp
       exact hK _ _ (fun _ _=>by first | trivial | rfl | simp [*]) (Mod.refl _ _)
      ·-- 4: t16:=load(30,t15)   [guard (2,false)]
       intro yv w' hR hF K hK;have f3:(yv 3) = .pointer (some ⟨w.heap.size,0,none⟩):=hF 3 (by kernel_rfl) w' (Mod.refl _ _);have f2:(yv 2) = .bool false:=hF 2 (by kernel_rfl) w' (Mod.refl _ _);clear hF;generalize yv 3 = y3 at *;subst f3;generalize yv 2 = y2 at *;subst f2;have b2:=hbx.out w' (hm.out.trans ((Mod.refl Nowhere wr).drew.trans hR));have y0:=b2.cell 0;have yl:=b2.lt;simp only [gz0] at y0;clear b2
       go_simp
       exact hK _ _ (fun _ _=>rfl) (Mod.refl _ _)
      ·-- 5: t17:=move(t4)   [guard (2,false)]
       intro yv w' hR hF K hK;have f2:(yv 2) = .bool false:=hF 2 (by kernel_rfl) w' (Mod.refl _ _);clear hF;generalize yv 2 = y2 at *;subst f2
       go_simp
       exact hK _ _ (fun _ _=>by first | trivial | rfl | simp [*]) (Mod.refl _ _)
      ·-- 6: t18:=indexAddr(30,t16,t17)   [guard (2,false)]
       intro yv w' hR hF K hK;have f4:(yv 4) = .slice (some ⟨b,off,none⟩) n vc:=hF 4 (by kernel_rfl) w' (Mod.refl _ _);have f5:(yv 5) = .int .i64 ((j:Int) + 1):=hF 5 (by kernel_rfl) w' (Mod.refl _ _);have f2:(yv 2) = .bool false:=hF 2 (by kernel_rfl) w' (Mod.refl _ _);clear hF;generalize yv 4 = y4 at *;subst f4;generalize yv 5 = y5 at *;subst f5;generalize yv 2 = y2 at *;subst f2
       go_simp
       exact hK _ _ (fun _ _=>by first | trivial | rfl | simp [*]) (Mod.refl _ _)
      ·-- 7: t19:=fieldAddr(111,t18,0)   [guard (2,false)]
       intro yv w' hR hF K hK;have f6:(yv 6) = .pointer (some ⟨b,off + (j + 1) * 5,none⟩):=hF 6 (by kernel_rfl) w' (Mod.refl _ _);have f2:(yv 2) = .bool false:=hF 2 (by kernel_rfl) w' (Mod.refl _ _);clear hF;generalize yv 6 = y6 at *;subst f6;generalize yv 2 = y2 at *;subst f2
       go_simp
       exact hK _ _ (fun _ _=>by first | trivial | rfl | simp [*]) (Mod.refl _ _)
      ·-- 8: t20:=fieldAddr(39,t19,0)   [guard (2,false)]
       intro yv w' hR hF K hK;have f7:(yv 7) = .pointer (some ⟨b,off + (j + 1) * 5,none⟩):=hF 7 (by kernel_rfl) w' (Mod.refl _ _);have f2:(yv 2) = .bool false:=hF 2 (by kernel_rfl) w' (Mod.refl _ _);clear hF;generalize yv 7 = y7 at *;subst f7;generalize yv 2 = y2 at *;subst f2
       go_simp
       exact hK _ _ (fun _ _=>by first | trivial | rfl | simp [*]) (Mod.refl _ _)
      ·-- 9: t21:=load(3,t20)   [guard (2,false)]
       intro yv w' hR hF K hK;have f8:(yv 8) = .pointer (some ⟨b,off + (j + 1) * 5,none⟩):=hF 8 (by kernel_rfl) w' (Mod.refl _ _);have f2:(yv 2) = .bool false:=hF 2 (by kernel_rfl) w' (Mod.refl _ _);clear hF;generalize yv 8 = y8 at *;subst f8;generalize yv 2 = y2 at *;subst f2;obtain ⟨g0,g1,-⟩:=hat1.out w' (hm.out.trans ((Mod.refl Nowhere wr).drew.trans hR))
       go_simp
       exact hK _ _ (fun _ _=>rfl) (Mod.refl _ _)
      ·-- 10: t22:=fieldAddr(32,t1,0)   [guard (2,false)]
       intro yv w' hR hF K hK;have f2:(yv 2) = .bool false:=hF 2 (by kernel_rfl) w' (Mod.refl _ _);clear hF;generalize yv 2 = y2 at *;subst f2
       go_simp
       exact hK _ _ (fun _ _=>by first | trivial | rfl | simp [*]) (Mod.refl _ _)
      ·-- 11: t23:=load(30,t22)   [guard (2,false)]
       intro yv w' hR hF K hK;have f10:(yv 10) = .pointer (some ⟨w.heap.size,0,none⟩):=hF 10 (by kernel_rfl) w' (Mod.refl _ _);have f2:(yv 2) = .bool false:=hF 2 (by kernel_rfl) w' (Mod.refl _ _);clear hF;generalize yv 10 = y10 at *;subst f10;generalize yv 2 = y2 at *;subst f2;have b2:=hbx.out w' (hm.out.trans ((Mod.refl Nowhere wr).drew.trans hR));have y0:=b2.cell 0;have yl:=b2.lt;simp only [gz0] at y0;clear b2
       go_simp
       exact hK _ _ (fun _ _=>rfl) (Mod.refl _ _)
      ·-- 12: t24:=move(t4)   [guard (2,false)]
       intro yv w' hR hF K hK;have f2:(yv 2) = .bool false:=hF 2 (by kernel_rfl) w' (Mod.refl _ _);clear hF;generalize yv 2 = y2 at *;subst f2
       go_simp
       exact hK _ _ (fun _ _=>by first | trivial | rfl | simp [*]) (Mod.refl _ _)
      ·-- 13: t25:=binOp(sub,3,t24,1:i64,3)   [guard (2,false)]
       intro yv w' hR hF K hK;have f12:(yv 12) = .int .i64 ((j:Int) + 1):=hF 12 (by kernel_rfl) w' (Mod.refl _ _);have f2:(yv 2) = .bool false:=hF 2 (by kernel_rfl) w' (Mod.refl _ _);clear hF;generalize yv 12 = y12 at *;subst f12;generalize yv 2 = y2 at *;subst f2
       go_simp
       exact hK _ _ (fun _ _=>by first | trivial | rfl | simp [*]) (Mod.refl _ _)
      ·-- 14: t26:=indexAddr(30,t23,t25)   [guard (2,false)]
       intro yv w' hR hF K hK;have f11:(yv 11) = .slice (some ⟨b,off,none⟩) n vc:=hF 11 (by kernel_rfl) w' (Mod.refl _ _);have f13:(yv 13) = .int .i64 (j:Int):=hF 13 (by kernel_rfl) w' (Mod.refl _ _);have f2:(yv 2) = .bool false:=hF 2 (by kernel_rfl) w' (Mod.refl _ _);clear hF;generalize yv 11 = y11 at *;subst f11;generalize yv 13 = y13 at *;subst f13;generalize yv 2 = y2 at *;subst f2
       go_simp
       exact hK _ _ (fun _ _=>by first | trivial | rfl | simp [*]) (Mod.refl _ _)
      ·-- 15: t27:=fieldAddr(111,t26,0)   [guard (2,false)]
       intro yv w' hR hF K hK;have f14:(yv 14) = .pointer (some ⟨b,off + j * 5,none⟩):=hF 14 (by kernel_rfl) w' (Mod.refl _ _);have f2:(yv 2) = .bool false:=hF 2 (by kernel_rfl) w' (Mod.refl _ _);clear hF;generalize yv 14 = y14 at *;subst f14;generalize yv 2 = y2 at *;subst f2
       go_simp
       exact hK _ _ (fun _ _=>by first | trivial | rfl | simp [*]) (Mod.refl _ _)
      ·-- 16: t28:=fieldAddr(39,t27,0)   [guard (2,false)]
       intro yv w' hR hF K hK;have f15:(yv 15) = .pointer (some ⟨b,off + j * 5,none⟩):=hF 15 (by kernel_rfl) w' (Mod.refl _ _);have f2:(yv 2) = .bool false:=hF 2 (by kernel_rfl) w' (Mod.refl _ _);clear hF;generalize yv 15 = y15 at *;subst f15;generalize yv 2 = y2 at *;subst f2
       go_simp
       exact hK _ _ (fun _ _=>by first | trivial | rfl | simp [*]) (Mod.refl _ _)
      ·-- 17: t29:=load(3,t28)   [guard (2,false)]
       intro yv w' hR hF K hK;have f16:(yv 16) = .pointer (some ⟨b,off + j * 5,none⟩):=hF 16 (by kernel_rfl) w' (Mod.refl _ _);have f2:(yv 2) = .bool false:=hF 2 (by kernel_rfl) w' (Mod.refl _ _);clear hF;generalize yv 16 = y16 at *;subst f16;generalize yv 2 = y2 at *;subst f2;obtain ⟨g0,g1,-⟩:=hat0.out w' (hm.out.trans ((Mod.refl Nowhere wr).drew.trans hR))
       go_simp
       exact hK _ _ (fun _ _=>rfl) (Mod.refl _ _)
      ·-- 18: t30:=binOp(neq,3,t21,t29,3)   [guard (2,false)]
       intro yv w' hR hF K hK;have f9:(yv 9) = .int .i64 (fs:Nat):=hF 9 (by kernel_rfl) w' (Mod.refl _ _);have f17:(yv 17) = .int .i64 (fs:Nat):=hF 17 (by kernel_rfl) w' (Mod.refl _ _);have f2:(yv 2) = .bool false:=hF 2 (by kernel_rfl) w' (Mod.refl _ _);clear hF;generalize yv 9 = y9 at *;subst f9;generalize yv 17 = y17 at *;subst f17;generalize yv 2 = y2 at *;subst f2
       go_simp
       exact hK _ _ (fun _ _=>by first | trivial | rfl | simp [*]) (Mod.refl _ _)
      ·-- 19: t31:=pick(t14,const(Value.bool(true)),t30)
       intro yv w' hR hF K hK;have f2:(yv 2) = .bool false:=hF 2 (by kernel_rfl) w' (Mod.refl _ _);have f18:(yv 18) = .bool false:=hF 18 (by kernel_rfl) w' (Mod.refl _ _);clear hF;generalize yv 2 = y2 at *;subst f2;generalize yv 18 = y18 at *;subst f18
       go_simp
       exact hK _ _ (fun _ _=>by first | trivial | rfl | simp [*]) (Mod.refl _ _)
     case hE_5_1 =>
      intro yv w' hR hF;have f0:(yv 0) = .int .i64 ((j:Int) + 1):=hF 0 (by simp) w' (Mod.refl _ _);have f1:(yv 1) = .bool false:=hF 1 (by simp) w' (Mod.refl _ _);have f2:(yv 2) = .bool false:=hF 2 (by simp) w' (Mod.refl _ _);have f3:(yv 3) = .pointer (some ⟨w.heap.size,0,none⟩):=hF 3 (by simp) w' (Mod.refl _ _);have f4:(yv 4) = .slice (some ⟨b,off,none⟩) n vc:=hF 4 (by simp) w' (Mod.refl _ _);have f5:(yv 5) = .int .i64 ((j:Int) + 1):=hF 5 (by simp) w' (Mod.refl _ _);have f6:(yv 6) = .pointer (some ⟨b,off + (j + 1) * 5,none⟩):=hF 6 (by simp) w' (Mod.refl _ _);have f7:(yv 7) = .pointer (some ⟨b,off + (j + 1) * 5,none⟩):=hF 7 (by simp) w' (Mod.refl _ _)
      have f8:(yv 8) = .pointer (some ⟨b,off + (j + 1) * 5,none⟩):=hF 8 (by simp) w' (Mod.refl _ _);have f9:(yv 9) = .int .i64 (fs:Nat):=hF 9 (by simp) w' (Mod.refl _ _);have f10:(yv 10) = .pointer (some ⟨w.heap.size,0,none⟩):=hF 10 (by simp) w' (Mod.refl _ _);have f11:(yv 11) = .slice (some ⟨b,off,none⟩) n vc:=hF 11 (by simp) w' (Mod.refl _ _);have f12:(yv 12) = .int .i64 ((j:Int) + 1):=hF 12 (by simp) w' (Mod.refl _ _);have f13:(yv 13) = .int .i64 (j:Int):=hF 13 (by simp) w' (Mod.refl _ _);have f14:(yv 14) = .pointer (some ⟨b,off + j * 5,none⟩):=hF 14 (by simp) w' (Mod.refl _ _);have f15:(yv 15) = .pointer (some ⟨b,off + j * 5,none⟩):=hF 15 (by simp) w' (Mod.refl _ _)
      have f16:(yv 16) = .pointer (some ⟨b,off + j * 5,none⟩):=hF 16 (by simp) w' (Mod.refl _ _);have f17:(yv 17) = .int .i64 (fs:Nat):=hF 17 (by simp) w' (Mod.refl _ _);have f18:(yv 18) = .bool false:=hF 18 (by simp) w' (Mod.refl _ _);have f19:(yv 19) = .bool false:=hF 19 (by simp) w' (Mod.refl _ _);clear hF;generalize yv 0 = y0 at *;subst f0;generalize yv 1 = y1 at *;subst f1;generalize yv 2 = y2 at *;subst f2;generalize yv 3 = y3 at *;subst f3;generalize yv 4 = y4 at *;subst f4;generalize yv 5 = y5 at *;subst f5;generalize yv 6 = y6 at *;subst f6;generalize yv 7 = y7 at *
      subst f7;generalize yv 8 = y8 at *;subst f8;generalize yv 9 = y9 at *;subst f9;generalize yv 10 = y10 at *;subst f10;generalize yv 11 = y11 at *;subst f11;generalize yv 12 = y12 at *;subst f12;generalize yv 13 = y13 at *;subst f13;generalize yv 14 = y14 at *;subst f14;generalize yv 15 = y15 at *;subst f15;generalize yv 16 = y16 at *;subst f16;generalize yv 17 = y17 at *;subst f17;generalize yv 18 = y18 at *;subst f18;generalize yv 19 = y19 at *;subst f19;have hm2:=hm.out.trans ((Mod.refl Nowhere wr).drew.trans hR);have hown2:=Zb hown.out ((Mod.refl Nowhere wr).drew.trans hR) (fun _ _ e=>e)
      clear hR hm hown;refine hid2 ?_ hm2 hown2;clear hm2 hown2;intro hm2 hown2;go_wp2;go_roundw
      case rel=>exact ⟨j + 1 + 1,by omega,by go_num,by rw [hacc2.out,hst.out];exact hown2.out,hm2.out⟩
      case measure=>simp [intOf];omega
    ·rw [if_neg he] at hst;have hne:¬ (es:Int) = (fs:Int):=by omega
     refine hid7 ?_ hown hm hat1 hat0 hst hacc hacc2;clear hown hm hat1 hat0 hst hacc hacc2;intro hown hm hat1 hat0 hst hacc hacc2;go_wp2_with fail;refine Zo (fun i v w'=>match i with | 0=>(v = .int .i64 ((j:Int) + 1)) | 1=>(v = .bool false) | 2=>(v = .bool false) | 3=>(v = .pointer (some ⟨w.heap.size,0,none⟩)) | 4=>(v = .slice (some ⟨b,off,none⟩) n vc) | 5=>(v = .int .i64 ((j:Int) + 1)) | 6=>(v = .pointer (some ⟨b,off + (j + 1) * 5,none⟩)) | 7=>(v = .pointer (some ⟨b,off + (j + 1) * 5,none⟩)) | 8=>(v = .pointer (some ⟨b,off + (j + 1) * 5,none⟩)) | 9=>(v = .int .i64 (es:Nat)) | 10=>(v = .pointer (some ⟨w.heap.size,0,none⟩)) | 11=>(v = .slice (some ⟨b,off,none⟩) n vc) | 12=>(v = .int .i64 ((j:Int) + 1)) | 13=>(v = .int .i64 (j:Int)) | 14=>(v = .pointer (some ⟨b,off + j * 5,none⟩)) | 15=>(v = .pointer (some ⟨b,off + j * 5,none⟩)) | 16=>(v = .pointer (some ⟨b,off + j * 5,none⟩)) | 17=>(v = .int .i64 (fs:Nat)) | 18=>(v = .bool true) | 19=>(v = .bool true) | _=>True) ?A_5_2 (by first | assumption | kernel_rfl) (by kernel_rfl) (by kernel_rfl) ?hA_5_2 ?hS_5_2 ?hE_5_2
     case hA_5_2=>intro xs;simp [putAll,List.range,List.range.loop,Act.put] <;> rfl
     case hS_5_2 =>
      refine ⟨?_,?_,?_,?_,?_,?_,?_,?_,?_,?_,?_,?_,?_,?_,?_,?_,?_,?_,?_,?_,trivial⟩
      ·-- 0: t12:=move(t4)
       intro yv w' hR hF K hK;clear hF
       go_simp
       exact hK _ _ (fun _ _=>by first | trivial | rfl | simp [*]) (Mod.refl _ _)
      ·-- 1: t13:=binOp(eql,3,t12,0:i64,3)
       intro yv w' hR hF K hK;have f0:(yv 0) = .int .i64 ((j:Int) + 1):=hF 0 (by kernel_rfl) w' (Mod.refl _ _);clear hF;generalize yv 0 = y0 at *;subst f0
       go_simp
       exact hK _ _ (fun _ _=>by first | trivial | rfl | simp [*]) (Mod.refl _ _)
      ·-- 2: t14:=move(t13)
       intro yv w' hR hF K hK;have f1:(yv 1) = .bool false:=hF 1 (by kernel_rfl) w' (Mod.refl _ _);clear hF;generalize yv 1 = y1 at *;subst f1
       go_simp
       exact hK _ _ (fun _ _=>by first | trivial | rfl | simp [*]) (Mod.refl _ _)
      ·-- 3: t15:=fieldAddr(32,t1,0)   [guard (2,false)]
       intro yv w' hR hF K hK;have f2:(yv 2) = .bool false:=hF 2 (by kernel_rfl) w' (Mod.refl _ _);clear hF;generalize yv 2 = y2 at *;subst f2
       go_simp
       exact hK _ _ (fun _ _=>by first | trivial | rfl | simp [*]) (Mod.refl _ _)
      ·-- 4: t16:=load(30,t15)   [guard (2,false)]
       intro yv w' hR hF K hK;have f3:(yv 3) = .pointer (some ⟨w.heap.size,0,none⟩):=hF 3 (by kernel_rfl) w' (Mod.refl _ _);have f2:(yv 2) = .bool false:=hF 2 (by kernel_rfl) w' (Mod.refl _ _);clear hF;generalize yv 3 = y3 at *;subst f3;generalize yv 2 = y2 at *;subst f2;have b2:=hbx.out w' (hm.out.trans ((Mod.refl Nowhere wr).drew.trans hR));have y0:=b2.cell 0;have yl:=b2.lt;simp only [gz0] at y0;clear b2
       go_simp
       exact hK _ _ (fun _ _=>rfl) (Mod.refl _ _)
      ·-- 5: t17:=move(t4)   [guard (2,false)]
       intro yv w' hR hF K hK;have f2:(yv 2) = .bool false:=hF 2 (by kernel_rfl) w' (Mod.refl _ _);clear hF;generalize yv 2 = y2 at *;subst f2
       go_simp
       exact hK _ _ (fun _ _=>by first | trivial | rfl | simp [*]) (Mod.refl _ _)
      ·-- 6: t18:=indexAddr(30,t16,t17)   [guard (2,false)]
       intro yv w' hR hF K hK;have f4:(yv 4) = .slice (some ⟨b,off,none⟩) n vc:=hF 4 (by kernel_rfl) w' (Mod.refl _ _);have f5:(yv 5) = .int .i64 ((j:Int) + 1):=hF 5 (by kernel_rfl) w' (Mod.refl _ _);have f2:(yv 2) = .bool false:=hF 2 (by kernel_rfl) w' (Mod.refl _ _);clear hF;generalize yv 4 = y4 at *;subst f4;generalize yv 5 = y5 at *;subst f5;generalize yv 2 = y2 at *;subst f2
       go_simp
       exact hK _ _ (fun _ _=>by first | trivial | rfl | simp [*]) (Mod.refl _ _)
      ·-- 7: t19:=fieldAddr(111,t18,0)   [guard (2,false)]
       intro yv w' hR hF K hK;have f6:(yv 6) = .pointer (some ⟨b,off + (j + 1) * 5,none⟩):=hF 6 (by kernel_rfl) w' (Mod.refl _ _);have f2:(yv 2) = .bool false:=hF 2 (by kernel_rfl) w' (Mod.refl _ _);clear hF;generalize yv 6 = y6 at *;subst f6;generalize yv 2 = y2 at *;subst f2
       go_simp
       exact hK _ _ (fun _ _=>by first | trivial | rfl | simp [*]) (Mod.refl _ _)
      ·-- 8: t20:=fieldAddr(39,t19,0)   [guard (2,false)]
       intro yv w' hR hF K hK;have f7:(yv 7) = .pointer (some ⟨b,off + (j + 1) * 5,none⟩):=hF 7 (by kernel_rfl) w' (Mod.refl _ _);have f2:(yv 2) = .bool false:=hF 2 (by kernel_rfl) w' (Mod.refl _ _);clear hF;generalize yv 7 = y7 at *;subst f7;generalize yv 2 = y2 at *;subst f2
       go_simp
       exact hK _ _ (fun _ _=>by first | trivial | rfl | simp [*]) (Mod.refl _ _)
      ·-- 9: t21:=load(3,t20)   [guard (2,false)]
       intro yv w' hR hF K hK;have f8:(yv 8) = .pointer (some ⟨b,off + (j + 1) * 5,none⟩):=hF 8 (by kernel_rfl) w' (Mod.refl _ _);have f2:(yv 2) = .bool false:=hF 2 (by kernel_rfl) w' (Mod.refl _ _);clear hF;generalize yv 8 = y8 at *;subst f8;generalize yv 2 = y2 at *;subst f2;obtain ⟨g0,g1,-⟩:=hat1.out w' (hm.out.trans ((Mod.refl Nowhere wr).drew.trans hR))
       go_simp
       exact hK _ _ (fun _ _=>rfl) (Mod.refl _ _)
      ·-- 10: t22:=fieldAddr(32,t1,0)   [guard (2,false)]
       intro yv w' hR hF K hK;have f2:(yv 2) = .bool false:=hF 2 (by kernel_rfl) w' (Mod.refl _ _);clear hF;generalize yv 2 = y2 at *;subst f2
       go_simp
       exact hK _ _ (fun _ _=>by first | trivial | rfl | simp [*]) (Mod.refl _ _)
      ·-- 11: t23:=load(30,t22)   [guard (2,false)]
       intro yv w' hR hF K hK;have f10:(yv 10) = .pointer (some ⟨w.heap.size,0,none⟩):=hF 10 (by kernel_rfl) w' (Mod.refl _ _);have f2:(yv 2) = .bool false:=hF 2 (by kernel_rfl) w' (Mod.refl _ _);clear hF;generalize yv 10 = y10 at *;subst f10;generalize yv 2 = y2 at *;subst f2;have b2:=hbx.out w' (hm.out.trans ((Mod.refl Nowhere wr).drew.trans hR));have y0:=b2.cell 0;have yl:=b2.lt;simp only [gz0] at y0;clear b2
       go_simp
       exact hK _ _ (fun _ _=>rfl) (Mod.refl _ _)
      ·-- 12: t24:=move(t4)   [guard (2,false)]
       intro yv w' hR hF K hK;have f2:(yv 2) = .bool false:=hF 2 (by kernel_rfl) w' (Mod.refl _ _);clear hF;generalize yv 2 = y2 at *;subst f2
       go_simp
       exact hK _ _ (fun _ _=>by first | trivial | rfl | simp [*]) (Mod.refl _ _)
      ·-- 13: t25:=binOp(sub,3,t24,1:i64,3)   [guard (2,false)]
       intro yv w' hR hF K hK;have f12:(yv 12) = .int .i64 ((j:Int) + 1):=hF 12 (by kernel_rfl) w' (Mod.refl _ _);have f2:(yv 2) = .bool false:=hF 2 (by kernel_rfl) w' (Mod.refl _ _);clear hF;generalize yv 12 = y12 at *;subst f12;generalize yv 2 = y2 at *;subst f2
       go_simp
       exact hK _ _ (fun _ _=>by first | trivial | rfl | simp [*]) (Mod.refl _ _)
      ·-- 14: t26:=indexAddr(30,t23,t25)   [guard (2,false)]
       intro yv w' hR hF K hK;have f11:(yv 11) = .slice (some ⟨b,off,none⟩) n vc:=hF 11 (by kernel_rfl) w' (Mod.refl _ _);have f13:(yv 13) = .int .i64 (j:Int):=hF 13 (by kernel_rfl) w' (Mod.refl _ _);have f2:(yv 2) = .bool false:=hF 2 (by kernel_rfl) w' (Mod.refl _ _);clear hF;generalize yv 11 = y11 at *;subst f11;generalize yv 13 = y13 at *;subst f13;generalize yv 2 = y2 at *;subst f2
       go_simp
       exact hK _ _ (fun _ _=>by first | trivial | rfl | simp [*]) (Mod.refl _ _)
      ·-- 15: t27:=fieldAddr(111,t26,0)   [guard (2,false)]
       intro yv w' hR hF K hK;have f14:(yv 14) = .pointer (some ⟨b,off + j * 5,none⟩):=hF 14 (by kernel_rfl) w' (Mod.refl _ _);have f2:(yv 2) = .bool false:=hF 2 (by kernel_rfl) w' (Mod.refl _ _);clear hF;generalize yv 14 = y14 at *;subst f14;generalize yv 2 = y2 at *;subst f2
       go_simp
       exact hK _ _ (fun _ _=>by first | trivial | rfl | simp [*]) (Mod.refl _ _)
      ·-- 16: t28:=fieldAddr(39,t27,0)   [guard (2,false)]
       intro yv w' hR hF K hK;have f15:(yv 15) = .pointer (some ⟨b,off + j * 5,none⟩):=hF 15 (by kernel_rfl) w' (Mod.refl _ _);have f2:(yv 2) = .bool false:=hF 2 (by kernel_rfl) w' (Mod.refl _ _);clear hF;generalize yv 15 = y15 at *;subst f15;generalize yv 2 = y2 at *;subst f2
       go_simp
       exact hK _ _ (fun _ _=>by first | trivial | rfl | simp [*]) (Mod.refl _ _)
      ·-- 17: t29:=load(3,t28)   [guard (2,false)]
       intro yv w' hR hF K hK;have f16:(yv 16) = .pointer (some ⟨b,off + j * 5,none⟩):=hF 16 (by kernel_rfl) w' (Mod.refl _ _);have f2:(yv 2) = .bool false:=hF 2 (by kernel_rfl) w' (Mod.refl _ _);clear hF;generalize yv 16 = y16 at *;subst f16;generalize yv 2 = y2 at *;subst f2;obtain ⟨g0,g1,-⟩:=hat0.out w' (hm.out.trans ((Mod.refl Nowhere wr).drew.trans hR))
       go_simp
       exact hK _ _ (fun _ _=>rfl) (Mod.refl _ _)
      ·-- 18: t30:=binOp(neq,3,t21,t29,3)   [guard (2,false)]
       intro yv w' hR hF K hK;have f9:(yv 9) = .int .i64 (es:Nat):=hF 9 (by kernel_rfl) w' (Mod.refl _ _);have f17:(yv 17) = .int .i64 (fs:Nat):=hF 17 (by kernel_rfl) w' (Mod.refl _ _);have f2:(yv 2) = .bool false:=hF 2 (by kernel_rfl) w' (Mod.refl _ _);clear hF;generalize yv 9 = y9 at *;subst f9;generalize yv 17 = y17 at *;subst f17;generalize yv 2 = y2 at *;subst f2
       go_simp
       exact hK _ _ (fun _ _=>by first | trivial | rfl | simp [*]) (Mod.refl _ _)
      ·-- 19: t31:=pick(t14,const(Value.bool(true)),t30)
       intro yv w' hR hF K hK;have f2:(yv 2) = .bool false:=hF 2 (by kernel_rfl) w' (Mod.refl _ _);have f18:(yv 18) = .bool true:=hF 18 (by kernel_rfl) w' (Mod.refl _ _);clear hF;generalize yv 2 = y2 at *;subst f2;generalize yv 18 = y18 at *;subst f18
       go_simp
       exact hK _ _ (fun _ _=>by first | trivial | rfl | simp [*]) (Mod.refl _ _)
     case hE_5_2 =>
      intro yv w' hR hF;have f0:(yv 0) = .int .i64 ((j:Int) + 1):=hF 0 (by simp) w' (Mod.refl _ _);have f1:(yv 1) = .bool false:=hF 1 (by simp) w' (Mod.refl _ _);have f2:(yv 2) = .bool false:=hF 2 (by simp) w' (Mod.refl _ _);have f3:(yv 3) = .pointer (some ⟨w.heap.size,0,none⟩):=hF 3 (by simp) w' (Mod.refl _ _);have f4:(yv 4) = .slice (some ⟨b,off,none⟩) n vc:=hF 4 (by simp) w' (Mod.refl _ _);have f5:(yv 5) = .int .i64 ((j:Int) + 1):=hF 5 (by simp) w' (Mod.refl _ _);have f6:(yv 6) = .pointer (some ⟨b,off + (j + 1) * 5,none⟩):=hF 6 (by simp) w' (Mod.refl _ _);have f7:(yv 7) = .pointer (some ⟨b,off + (j + 1) * 5,none⟩):=hF 7 (by simp) w' (Mod.refl _ _)
      have f8:(yv 8) = .pointer (some ⟨b,off + (j + 1) * 5,none⟩):=hF 8 (by simp) w' (Mod.refl _ _);have f9:(yv 9) = .int .i64 (es:Nat):=hF 9 (by simp) w' (Mod.refl _ _);have f10:(yv 10) = .pointer (some ⟨w.heap.size,0,none⟩):=hF 10 (by simp) w' (Mod.refl _ _);have f11:(yv 11) = .slice (some ⟨b,off,none⟩) n vc:=hF 11 (by simp) w' (Mod.refl _ _);have f12:(yv 12) = .int .i64 ((j:Int) + 1):=hF 12 (by simp) w' (Mod.refl _ _);have f13:(yv 13) = .int .i64 (j:Int):=hF 13 (by simp) w' (Mod.refl _ _);have f14:(yv 14) = .pointer (some ⟨b,off + j * 5,none⟩):=hF 14 (by simp) w' (Mod.refl _ _);have f15:(yv 15) = .pointer (some ⟨b,off + j * 5,none⟩):=hF 15 (by simp) w' (Mod.refl _ _)
      have f16:(yv 16) = .pointer (some ⟨b,off + j * 5,none⟩):=hF 16 (by simp) w' (Mod.refl _ _);have f17:(yv 17) = .int .i64 (fs:Nat):=hF 17 (by simp) w' (Mod.refl _ _);have f18:(yv 18) = .bool true:=hF 18 (by simp) w' (Mod.refl _ _);have f19:(yv 19) = .bool true:=hF 19 (by simp) w' (Mod.refl _ _);clear hF;generalize yv 0 = y0 at *;subst f0;generalize yv 1 = y1 at *;subst f1;generalize yv 2 = y2 at *;subst f2;generalize yv 3 = y3 at *;subst f3;generalize yv 4 = y4 at *;subst f4;generalize yv 5 = y5 at *;subst f5;generalize yv 6 = y6 at *;subst f6;generalize yv 7 = y7 at *;subst f7
      generalize yv 8 = y8 at *;subst f8;generalize yv 9 = y9 at *;subst f9;generalize yv 10 = y10 at *;subst f10;generalize yv 11 = y11 at *;subst f11;generalize yv 12 = y12 at *;subst f12;generalize yv 13 = y13 at *;subst f13;generalize yv 14 = y14 at *;subst f14;generalize yv 15 = y15 at *;subst f15;generalize yv 16 = y16 at *;subst f16;generalize yv 17 = y17 at *;subst f17;generalize yv 18 = y18 at *;subst f18;generalize yv 19 = y19 at *;subst f19;have hm2:=hm.out.trans ((Mod.refl Nowhere wr).drew.trans hR);have hown2:=Zb hown.out ((Mod.refl Nowhere wr).drew.trans hR) (fun _ _ e=>e);have b2:=hbx.out w' hm2;obtain ⟨g0,g1,-⟩:=hat1.out w' hm2
      obtain ⟨va2,vc2,W2,hrun,hown3,hmO⟩:=ZM Tryz.underlying59 Y5 rfl (by decide) hown2 (news:=[.int .i64 ((es:Nat):Int)]) rfl (by intro u hu;simp only [List.mem_cons,List.not_mem_nil,or_false] at hu;subst hu;rfl) (by omega) (by omega) hm2.size;have hab:=Own1.above hown2;have hm3:=hm2.step hmO fun i hi e=>by have:=(hab i e).1;omega
      have hll:acc.length + 1 = acc2.length:=by rw [hst.out,List.length_append];rfl
      have hln:ints acc ++ [.int .i64 ((es:Nat):Int)] = ints acc2:=by rw [hst.out];simp [ints]
      rw [hln,hll] at hown3;rw [hll] at hrun;have y0:=b2.cell 0;have yl:=b2.lt;simp only [gz0] at y0;clear b2 hR hm hown hown2 hmO hab hll hln;generalize hq1:acc.length = q1 at *;generalize hq2:acc2.length = q2 at *;refine hid5 ?_ hm2 hown3 hm3 hq1 hq2;clear hm2 hown3 hm3 hq1 hq2;intro hm2 hown3 hm3 hq1 hq2
      go_wp2_with (at_builtin;refine Lib.wpList_append_run _ rfl _ _ _ _ rfl _ _ (by rfl) (by rfl) _ _ hrun ?_;clear hrun)
      go_roundw
      case rel=>exact ⟨(j + 1) + 1,by omega,by go_num,by rw [hacc2.out,hq2.out];exact hown3.out,hm3.out⟩
      case measure=>simp [intOf];omega
  ·obtain rfl:k = n:=by omega
   rw [show L.take k = L from by rw [← hn.out,List.take_length]] at hown ⊢;have hf:=Sl.of_owns hown;have hmF:=hm0.out.trans hm;refine hid4 ?_ hf hmF hown hm;clear hf hmF hown hm;intro hf hmF hown hm;go_wp2;go_ret;exact ⟨_,rfl,hf.out,hmF.out⟩
end
end Go.Proofs.YtoehlaeaafalmaaGreat
namespace Go.Proofs.YtoehlaeaafalmaaGreat
open Go.RowKit
open Jn Vn Ky
attribute [local go_sem] Oper.semAt_some
namespace Ky
theorem Zhy {L:List KEn} {k:Nat} (hk:k < L.length) (st:Int):rInfo (L.take (k + 1)) st = rInfo (L.take k) st ++ (if inS st L[k] = true then [L[k]] else []):=by
 unfold rInfo;rw [List.take_add_one,List.getElem?_eq_getElem hk,List.filter_append]
 congr 1
 show List.filter _ [L[k]] = _
 rw [List.filter_cons]
 cases inS st L[k] <;> rfl
end Ky
structure IOwn22 (w:World) (B:Nat) (va:Option Addr) (n vcap:Nat) (ys:List IxV):Prop where
 len:n = ys.length
 own:w.ownsRow B 74 4 (.slice va n vcap) n (insCells ys)
 data:∀ y ∈ ys,DSl w y.1 (Cy.chk y.2.val)
theorem IOwn22.isl {w:World} {B:Nat} {va:Option Addr} {n vcap:Nat} {ys:List IxV} (h:IOwn22 w B va n vcap ys):ISl w (.slice va n vcap) ys:=by
 obtain ⟨h1,h2,h3⟩:=h;subst h1;exact ⟨Sl.of_owns h2,h3⟩
theorem IOwn22.fresh {w w':World} {B:Nat} {va:Option Addr} {n vcap:Nat} {ys:List IxV} (h:IOwn22 w B va n vcap ys) (hm:Mod Nowhere w w'):IOwn22 w' B va n vcap ys :=
 ⟨h.len,Zb h.own hm (fun _ _ e=>e),fun y hy=>(h.data y hy).fresh hm⟩
theorem IOwn22.nil (w:World) (B:Nat):IOwn22 w B none 0 0 []:=⟨rfl,World.ownsRow_nil _ _ _ _,fun y hy=>(List.not_mem_nil hy).elim⟩
theorem i_put {W:World} {B:Nat} {en:KEn} {ca:Option Addr} {cc:Nat} (hx:DSl W (.slice ca 3 cc) (Cy.chk en.val)) {va:Option Addr} {n vcap:Nat} {ys:List IxV} (ho:IOwn22 W B va n vcap ys) (hB:B≤W.heap.size) (hL:n≤100000) :
  ∃ va' vc' W2,(Builtin.append_ #[61,61] 61 #[.slice va n vcap,.slice (some ⟨W.heap.size,0,none⟩) 1 1]).run Tryz.prog (W.alloc (.cells #[.int .i64 (en.set:Int),.int .i64 (en.kind:Int),.int .i64 (en.tries:Int),.slice ca 3 cc] 74)) = .ok (.slice va' (n + 1) vc') W2 ∧
   IOwn22 W2 B va' (n + 1) vc' (ys ++ [(.slice ca 3 cc,en)])∧Mod (Own1 (.slice va n vcap)) W W2:=by
 obtain ⟨va',vc',W2,h1,h2,h3⟩:=ZM Tryz.underlying61 Zb9 rfl (by decide) ho.own (news:=[.int .i64 (en.set:Int),.int .i64 (en.kind:Int),.int .i64 (en.tries:Int),.slice ca 3 cc]) rfl (by intro u hu;simp only [List.mem_cons,List.not_mem_nil,or_false] at hu;rcases hu with rfl | rfl | rfl | rfl <;> rfl) (by omega) (by omega) hB;have hsh:=X9 ho.own (U:=5) (by decide);refine ⟨va',vc',W2,h1,⟨by rw [List.length_append,← ho.len];rfl,by rw [Zb7];exact h2,fun y hy=>?_⟩,h3⟩;rcases List.mem_append.1 hy with e | e
 ·exact DSl.mod (ho.data y e) h3 hsh
 ·rw [List.mem_singleton.1 e];exact DSl.mod hx h3 hsh
section
variable {w : World} {va : Option Addr} {vc : Nat} {L : List KEn}
theorem Zhz (h:RL w va vc L) (hK:KL L) (hlen:L.length≤1000) (st:Int) :
  Calls Tryz.prog 45 #[.agg #[.slice va L.length vc],.int .i64 st] w fun e w'=>∃ v xs,e = .returned v∧ISl w' v xs∧xs.map (·.2) = rInfo L st∧Mod Nowhere w w':=by
 obtain ⟨l1,l2⟩:=h.len0;unfold maxLen at l2;obtain ⟨n,hn⟩:∃ n,L.length = n:=⟨_,rfl⟩;rw [hn] at l1 hlen ⊢;have hm0:Mod Nowhere w (w.alloc (.cells #[.slice va n vc] 32)):=(Mod.refl _ w).alloc _;have hb0:=Blk.new w [.slice va n vc] 32;have h0:=h.fresh hm0;have y0:=hb0.cell 0;have yl:=hb0.lt;simp only [gz0] at y0;obtain ⟨w0,hw0⟩:∃ W,w.alloc (.cells #[.slice va n vc] 32) = W:=⟨_,rfl⟩;have hb0':Blk w0 w.heap.size [.slice va n vc] 32:=by rw [← hw0];exact hb0
 rw [hw0] at hm0 h0 y0 yl;have hbx:∀ W,Mod Nowhere w0 W→Blk W w.heap.size [.slice va n vc] 32:=fun W hm=>hb0'.mod hm id;clear h hb0 hb0';refine hid4 ?_ hm0 h0 hbx hn;clear hm0 h0 hbx hn;intro hm0 h0 hbx hn;go_enter Tryz.func45,Tryz.ntmps45;go_wp2
 try rw [hw0]
 clear hw0
 go_loopw [5,6] (fun v i wr=>∃ (k:Nat) (ys:List IxV) (a:Option Addr) (m c:Nat),k≤n∧i = .int .i64 k∧v = .slice a m c∧IOwn22 wr w0.heap.size a m c ys∧ys.map (·.2) = rInfo (L.take k) st∧Mod Nowhere w0 wr) (fun _ i _=>n - (intOf i).toNat)
 case atStart=>exact ⟨0,[],none,0,0,by omega,rfl,rfl,IOwn22.nil _ _,rfl,Mod.refl _ _⟩
 case round =>
  obtain ⟨k,ys,a,m,c,hk,rfl,rfl,hown,hke,hm⟩:=hrel;have b0:=hbx.out wr hm;clear y0 yl;have y0:=b0.cell 0;have yl:=b0.lt;simp only [gz0] at y0;by_cases hkn:k < n
  ·have hkl:k < L.length:=by rw [hn.out];exact hkn
   obtain ⟨b,off,a2,c2,rfl,hbl,hat⟩:=h0.out.at_ hkl;obtain ⟨g0,g1,g2,g3,g4,g5,g6⟩:=hat wr hm;have htk:=Zhy hkl st;have hok:=hK.ok _ (List.getElem_mem hkl);have hki:(k:Int) < (n:Int):=by omega
   generalize L[k] = en at *;have hma:Mod Nowhere wr (wr.alloc (.cells #[.int .i64 (en.set:Int),.int .i64 (en.kind:Int),.slice a2 en.val.length c2,.int .i64 (en.lim:Int),.int .i64 (en.tries:Int)] 111)):=(Mod.refl _ _).alloc _;have hm2:=hm.trans hma;have hown2:=hown.fresh hma;by_cases hs:((en.set:Nat):Int) = st
   ·rw [if_pos (by unfold inS;rw [decide_eq_true hs]),← hke] at htk;have hbe:=Blk.new wr [.int .i64 (en.set:Int),.int .i64 (en.kind:Int),.slice a2 en.val.length c2,.int .i64 (en.lim:Int),.int .i64 (en.tries:Int)] 111;have hC:=ZfM ((g6.src).fresh hma) hok.v16 hok.bv;have hcl:(Cy.chk en.val).length = 3:=rfl
    have hml:m≤1000:=by
     have e1:m = (rInfo (L.take k) st).length:=by rw [← hke,List.length_map,hown.len]
     have e2:(rInfo (L.take k) st).length≤(L.take k).length:=List.length_filter_le _ _;have e3:(L.take k).length≤k:=by rw [List.length_take];omega
     omega
    subst hs;generalize hst:(en.set:Int) = st at *;generalize en.val.length = vn at *;clear hat g6;refine hid12 ?_ hown hm htk b0 hke hok hma hm2 hown2 hbe hC hcl;clear hown hm htk b0 hke hok hma hm2 hown2 hbe hC hcl;intro hown hm htk b0 hke hok hma hm2 hown2 hbe hC hcl;replace hst:=Lib.hid hst;go_wp2_with fail;refine hC.out.mono ?_;rintro e w2 ⟨r,rfl,hd2,hmc⟩;obtain ⟨ra,rc,rfl,-⟩:=id hd2.src;rw [hcl.out] at hd2 ⊢;have hm3:=hm2.out.trans hmc;have hb2:=hbe.out.mod hmc id;have z0:=hb2.cell 0;have z1:=hb2.cell 1;have z4:=hb2.cell 4;have zl:=hb2.lt;simp only [gz0,gs0] at z0 z1 z4;obtain ⟨a3,c3,W2,hrun,hown3,hmO⟩:=i_put (en:=en) hd2 (hown2.out.fresh hmc) hm3.size (by omega)
    rw [hst.out] at hrun;have hab:=Own1.above (hown2.out.fresh hmc).own;have hm4:=hm3.step hmO fun j hj e=>by have:=(hab j e).1;omega
    have hke2:(ys ++ [((Value.slice ra 3 rc,en):IxV)]).map (·.2) = rInfo (L.take (k + 1)) st:=by rw [List.map_append,htk.out];rfl
    generalize ys ++ [((Value.slice ra 3 rc,en):IxV)] = zs at *;clear hb2 hd2 hab hmO hmc;refine hid4 ?_ hm3 hown3 hm4 hke2;clear hm3 hown3 hm4 hke2;intro hm3 hown3 hm4 hke2
    go_wp2_with (at_builtin;refine Lib.wpList_append_run _ rfl _ _ _ _ rfl _ _ (by rfl) (by rfl) _ _ hrun ?_;clear hrun)
    go_roundw
    case rel=>exact ⟨k + 1,zs,a3,m + 1,c3,by omega,by go_num,rfl,hown3.out,hke2.out,hm4.out⟩
    case measure=>simp [intOf];omega
   ·rw [if_neg (by unfold inS;rw [decide_eq_false hs];decide),List.append_nil,← hke] at htk;generalize en.val.length = vn at *;clear hat g6;refine hid9 ?_ hown hm htk b0 hke hok hma hm2 hown2;clear hown hm htk b0 hke hok hma hm2 hown2;intro hown hm htk b0 hke hok hma hm2 hown2;go_wp2;go_roundw
    case rel=>exact ⟨k + 1,ys,a,m,c,by omega,by go_num,rfl,hown2.out,htk.out.symm,hm2.out⟩
    case measure=>simp [intOf];omega
  ·obtain rfl:k = n:=by omega
   rw [← hn.out,List.take_length] at hke;have hf:=hown.isl;have hmF:=hm0.out.trans hm;clear b0;refine hid5 ?_ hf hmF hown hm hke;clear hf hmF hown hm hke;intro hf hmF hown hm hke;go_wp2;go_ret;exact ⟨_,ys,rfl,hf.out,hke.out,hmF.out⟩
end
end Go.Proofs.YtoehlaeaafalmaaGreat
