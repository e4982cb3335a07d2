/-
  Keys: the small functions.
-/
import Derived.Test.YtoehlaeaafalmaaGreatCK2
import Derived.Test.YtoehlaeaafalmaaGreatCK1
import Derived.Test.YtoehlaeaafalmaaGreatCG29
set_option linter.unusedVariables false
set_option linter.unusedSimpArgs false
set_option maxHeartbeats 4000000
set_option maxRecDepth 100000
namespace Go.Proofs.YtoehlaeaafalmaaGreat
open Go.RowKit
open Jn Vn Rg Ky
attribute [local go_sem] Oper.semAt_some
theorem Z0 (w:World) (s k:Nat) (hs:s≤100) (hk:k≤100):Calls Tryz.prog 42 #[.agg #[.int .i64 (s:Int),.int .i64 (k:Int)]] w fun e w'=>e = .returned (.int .i64 ((64 + (8 * s + k):Nat):Int))∧Mod Nowhere w w':=by
 go_enter Tryz.func42,Tryz.ntmps42;go_wp2;go_ret;exact ⟨Zg (by go_num),(Mod.refl _ w).alloc _⟩
def okP (s k:Int):Bool:=decide (1≤s) && decide (s≤8) && decide (1≤k) && decide (k≤6)
theorem Zb2 (w:World) (s k:Int):Calls Tryz.prog 49 #[.agg #[.int .i64 s,.int .i64 k]] w fun e w'=>e = .returned (.bool (okP s k))∧Mod Nowhere w w':=by
 have hq:okP s k = (decide (1≤s) && decide (s≤8) && decide (1≤k) && decide (k≤6)):=rfl;have hm:Mod Nowhere w (w.alloc (.cells #[.int .i64 s,.int .i64 k] 88)):=(Mod.refl _ w).alloc _;rw [hq];clear hq;by_cases h1:1≤s
 ·rw [decide_eq_true h1];by_cases h2:s≤8
  ·rw [decide_eq_true h2];by_cases h3:1≤k
   ·rw [decide_eq_true h3];by_cases h4:k≤6
    ·rw [decide_eq_true h4];go_enter Tryz.func49,Tryz.ntmps49;go_wp2;go_ret;exact ⟨rfl,hm⟩
    ·rw [decide_eq_false h4];go_enter Tryz.func49,Tryz.ntmps49;go_wp2;go_ret;exact ⟨rfl,hm⟩
   ·rw [decide_eq_false h3];go_enter Tryz.func49,Tryz.ntmps49;go_wp2;go_ret;exact ⟨rfl,hm⟩
  ·rw [decide_eq_false h2];go_enter Tryz.func49,Tryz.ntmps49;go_wp2;go_ret;exact ⟨rfl,hm⟩
 ·rw [decide_eq_false h1];go_enter Tryz.func49,Tryz.ntmps49;go_wp2;go_ret;exact ⟨rfl,hm⟩
def KAt (w:World) (kb vb mb:Nat):Prop:=Blk w kb [ptr vb,.map (some mb)] 55
theorem KAt.c {w:World} {kb vb mb:Nat} (h:KAt w kb vb mb):∀ W,Mod Nowhere w W→W.cell? ⟨kb,0,none⟩ = some (ptr vb)∧W.cell? ⟨kb,1,none⟩ = some (.map (some mb))∧kb < W.heap.size:=fun W hm=>by
 have h':Blk W kb [ptr vb,.map (some mb)] 55:=Blk.mod h hm id;exact ⟨h'.cell 0,h'.cell 1,h'.lt⟩
theorem Z1 {w:World} {kb mb:Nat} {A:VAt} {m:Mem} {s:VSt} (h:KAt w kb A.vb mb) (hv:VRep w A m s):Calls Tryz.prog 50 #[ptr kb] w fun e w'=>e = .returned (errno 0)∧Mod Nowhere w w':=by
 have hA:=Zb0 hv;obtain ⟨c0,c1,cl⟩:=h.c w (Mod.refl _ w);clear h hv;replace hA:=Lib.hid hA;go_enter Tryz.func50,Tryz.ntmps50;go_wp2_with fail;refine (hA.out).mono ?_;rintro e w1 ⟨rfl,hm⟩;replace hm:=Lib.hid hm;go_wp2;go_ret;exact ⟨rfl,hm.out⟩
def pcells (n:Nat):List Value:=(List.range n).flatMap fun i=>[.int .i64 ((i / 6 + 1:Nat):Int),.int .i64 ((i % 6 + 1:Nat):Int)]
theorem X0 (n:Nat):pcells (n + 1) = pcells n ++ [.int .i64 ((n / 6 + 1:Nat):Int),.int .i64 ((n % 6 + 1:Nat):Int)]:=by
 unfold pcells;rw [List.range_succ,List.flatMap_append]
 rfl
theorem Z2 (n:Nat):(pcells n).length = n * 2:=by
 induction n with
 | zero=>rfl
 | succ n ih=>rw [X0,List.length_append,ih];simp;omega
theorem Zb3:∀ (n i:Nat),i < n→(pcells n).getD (i * 2) default = .int .i64 ((i / 6 + 1:Nat):Int)∧(pcells n).getD (i * 2 + 1) default = .int .i64 ((i % 6 + 1:Nat):Int)
 | 0,_,h=>by omega
 | n + 1,i,h=>by
  rw [X0];by_cases e:i = n
  ·subst e
   constructor
   ·rw [gd0,List.getElem?_append_right (by rw [Z2];omega),Z2,Nat.sub_self];rfl
   ·rw [gd0,List.getElem?_append_right (by rw [Z2];omega),Z2,Nat.add_sub_cancel_left];rfl
  ·obtain ⟨h1,h2⟩:=Zb3 n i (by omega)
   constructor
   ·rw [gd0,List.getElem?_append_left (by rw [Z2];omega),← gd0,h1]
   ·rw [gd0,List.getElem?_append_left (by rw [Z2];omega),← gd0,h2]
theorem ZgE:(Tryz.prog.info? 88).map (fun i=>(i.zero,i.size,i.bytes)) = some (some (.agg #[.int .i64 0,.int .i64 0]),2,16):=by kernel_rfl
def PlPost (w:World) (e:Ending) (w':World):Prop:=∃ b cap,e = .returned (.slice (some ⟨b,0,none⟩) 48 cap)∧48≤cap∧cap≤maxLen∧(∀ W,Mod Nowhere w' W→∀ i,i < 48→W.cell? ⟨b,i * 2,none⟩ = some (.int .i64 ((i / 6 + 1:Nat):Int))∧W.cell? ⟨b,i * 2 + 1,none⟩ = some (.int .i64 ((i % 6 + 1:Nat):Int))∧b < W.heap.size)∧w.heap.size≤b∧Mod Nowhere w w'∧∃ cs,Blk w' b cs 88
theorem Zb4 (w:World):Calls Tryz.prog 40 #[] w (PlPost w):=by
 go_enter Tryz.func40,Tryz.ntmps40;go_wp2
 go_loopw [1,2] (fun v s wr=>∃ k:Nat,k≤8∧s = .int .i64 ((k:Int) + 1)∧wr.ownsRow w.heap.size 88 2 v (6 * k) (pcells (6 * k))∧Mod Nowhere w wr) (fun _ s _=>9 - (intOf s).toNat)
 case atStart=>exact ⟨0,by omega,rfl,World.ownsRow_nil _ _ _ _,Mod.refl _ _⟩
 case round =>
  obtain ⟨k,hk,rfl,hown,hm⟩:=hrel;by_cases hlt:k < 8
  ·have hc:decide ((k:Int) + 1≤8) = true:=decide_eq_true (by omega);refine hid2 ?_ hown hm;clear hown hm;intro hown hm;go_wp2_with fail
   go_loopw [1,3] (fun v s wr=>∃ j:Nat,j≤6∧s = .int .i64 ((j:Int) + 1)∧wr.ownsRow w.heap.size 88 2 v (6 * k + j) (pcells (6 * k + j))∧Mod Nowhere w wr) (fun _ s _=>7 - (intOf s).toNat)
   case atStart=>exact ⟨0,by omega,rfl,hown.out,hm.out⟩
   case round =>
    obtain ⟨j,hj,rfl,hown2,hm2⟩:=hrel;by_cases hlt2:j < 6
    ·have hc2:decide ((j:Int) + 1≤6) = true:=decide_eq_true (by omega);obtain ⟨va,vc,rfl,-⟩:=Zf hown2;have hsz:=hm2.size;obtain ⟨va2,vc2,w3,hrun,hown3,hmA⟩:=ZM Tryz.underlying85 ZgE rfl (by decide) hown2 (news:=[.int .i64 ((k:Int) + 1),.int .i64 ((j:Int) + 1)]) rfl (by intro u hu;simp only [List.mem_cons,List.not_mem_nil,or_false] at hu;rcases hu with rfl | rfl <;> rfl) (by omega) (by omega) hsz
     have hp:pcells (6 * k + j) ++ [.int .i64 ((k:Int) + 1),.int .i64 ((j:Int) + 1)] = pcells (6 * k + (j + 1)):=by
      have:=X0 (6 * k + j);rw [show (6 * k + j) / 6 = k by omega,show (6 * k + j) % 6 = j by omega] at this;exact this.symm
     rw [hp,show 6 * k + j + 1 = 6 * k + (j + 1) by omega] at hown3;rw [show 6 * k + j + 1 = 6 * k + (j + 1) by omega] at hrun;have hm3:Mod Nowhere w w3:=hm2.step hmA fun i hi e=>by have:=Own1.above hown2 i e;omega
     clear hp hsz hmA;refine hid4 ?_ hown2 hm2 hown3 hm3;clear hown2 hm2 hown3 hm3;intro hown2 hm2 hown3 hm3
     go_wp2_with (at_builtin;refine Lib.wpList_append_run _ rfl _ _ _ _ rfl _ _ (by rfl) (by rfl) _ _ hrun ?_;clear hrun)
     go_roundw
     case rel=>exact ⟨j + 1,by omega,by go_num,hown3.out,hm3.out⟩
     case measure=>simp [intOf];omega
    ·obtain rfl:j = 6:=by omega
     refine hid2 ?_ hown2 hm2;clear hown2 hm2;intro hown2 hm2;go_wp2;go_roundw
     case rel=>exact ⟨k + 1,by omega,by go_num,hown2.out,hm2.out⟩
     case measure=>simp [intOf];omega
  ·obtain rfl:k = 8:=by omega
   obtain ⟨g,cap,cs,rfl,hg,hb,h1,h2,h3,h4⟩:=Zq hown (by omega);have hsl:=Sl.of_owns hown;refine hid4 ?_ hown hm hb hsl;clear hown hm hb hsl;intro hown hm hb hsl;go_wp2;go_ret;refine ⟨g,cap,rfl,h1,h2,fun W hW i hi=>?_,hg,hm.out,cs,hb.out⟩;have hsl':=hsl.out.mod hW (fun _ _ e=>e);obtain ⟨b',off',cap',e,hbl,-,-,hc,-⟩:=hsl'.open (by omega);simp at e;obtain ⟨⟨rfl,rfl⟩,-,-⟩:=e;obtain ⟨g1,g2⟩:=Zb3 48 i hi;have c1:=hc (i * 2) (by omega);have c2:=hc (i * 2 + 1) (by omega);rw [Nat.zero_add] at c1 c2;exact ⟨c1.trans (congrArg some g1),c2.trans (congrArg some g2),hbl⟩
theorem ZgF {fn:Func} {p u:Tmp} (h:fn.results = #[.cell p 93,.tmp u]) (tmps:Array Value) (w:World) (b:Nat) (c0 c1 c2:Value) (hp:tmps.getD p undef = ptr b) (hb:Blk w b [c0,c1,c2] 93) :
  (results fn tmps).run Tryz.prog w = .ok (.tuple #[.agg #[c0,c1,c2],tmps.getD u undef]) w:=by
 rw [results_cell_tmp h,hp];have k0:=hb.cell 0;have k1:=hb.cell 1;have k2:=hb.cell 2;simp only [gz0,gs0] at k0 k1 k2
 go_simp
theorem setw3' {w2:World} {B:Nat} {T:TypeId} {c0 c1 c2:Value} (hb:Blk w2 B [c0,c1,c2] T) (v0 v1 v2:Value) :
  Blk (((w2.setCell ⟨B,0,none⟩ v0).setCell ⟨B,1,none⟩ v1).setCell ⟨B,2,none⟩ v2) B [v0,v1,v2] T ∧
  Mod (fun j=>j = B) w2 (((w2.setCell ⟨B,0,none⟩ v0).setCell ⟨B,1,none⟩ v1).setCell ⟨B,2,none⟩ v2) :=
 ⟨((hb.setCell 0 v0).setCell 1 v1).setCell 2 v2,(((Mod.refl (fun j=>j = B) w2).setCell (p:=⟨B,0,none⟩) (fun _=>rfl) v0).setCell (p:=⟨B,1,none⟩) (fun _=>rfl) v1).setCell (p:=⟨B,2,none⟩) (fun _=>rfl) v2⟩
theorem Zb5 {w:World} {v:Value} {e:KEn} (h:DSl w v (kB e)) (he:KOk e) :
  Calls Tryz.prog 43 #[v] w fun r w'=>∃ u,r = .returned (.tuple #[.agg #[.int .i64 (e.tries:Int),.int .i64 (e.lim:Int),u],.bool true])∧DSl w' u e.val∧Mod Nowhere w w':=by
 have hlen:=he.len;have hm1:Mod Nowhere w (w.alloc (.cells #[.int .i64 0,.int .i64 0,.slice none 0 0] 93)):=(Mod.refl _ w).alloc _;have hB:=Blk.new w [.int .i64 0,.int .i64 0,.slice none 0 0] 93;obtain ⟨b,off,cap,rfl,c1,c2,hL⟩:=h.src.form (by omega);rw [hlen] at c1 h ⊢;have hd:=h.from (k:=2) (by rw [hlen];decide);rw [hlen,show (kB e).drop 2 = e.val from rfl] at hd;have hk0:(kB e).getD 0 0 = e.tries:=rfl;have hk1:(kB e).getD 1 0 = e.lim:=rfl
 have hcl:∀ W,Mod Nowhere w W→W.cell? ⟨b,off,none⟩ = some (.int .u8 (e.tries:Int))∧W.cell? ⟨b,off + 1,none⟩ = some (.int .u8 (e.lim:Int))∧b < W.heap.size:=fun W hm=>by
  have q0:=hL W hm 0 (by omega);have q1:=hL W hm 1 (by omega);rw [hk0] at q0;rw [hk1] at q1
  have hbl:b < w.heap.size:=by
   obtain ⟨a,c,e1,-,-,h3⟩:=h.src;simp at e1;obtain ⟨b',off',e2,hb',-⟩:=h3 (by omega);obtain ⟨rfl,-,-⟩:=e1;simp at e2;obtain ⟨rfl,rfl⟩:=e2;exact hb'
  exact ⟨q0,q1,Nat.lt_of_lt_of_le hbl hm.size⟩
 have t1:¬ (e.lim:Int) < (e.tries:Int):=by have:=he.tl;omega
 have t2:¬ (e.lim:Int) < 1:=by have:=he.l1;omega
 have t3:¬ (15:Int) < (e.lim:Int):=by have:=he.l15;omega
 have t4:=he.tl;have t5:IntKind.i64.wrap (e.tries:Int) = (e.tries:Int):=by have:=he.tl;have:=he.l15;rw [IntKind.wrap_i64];omega
 have t6:IntKind.i64.wrap (e.lim:Int) = (e.lim:Int):=by have:=he.l15;rw [IntKind.wrap_i64];omega
 clear hL h hlen hk0 hk1 he;generalize e.tries = t at *;generalize e.lim = l at *;generalize e.val = vl at *;obtain ⟨z0,z1,zl⟩:=hcl _ hm1;unfold maxLen at c2;refine hid4 ?_ hm1 hB hd hcl;clear hm1 hB hd hcl;intro hm1 hB hd hcl;go_enter Tryz.func43,Tryz.ntmps43;go_wp2_with fail;refine Zo (fun i v w'=>match i with | 0=>(v = .slice (some ⟨b,off,none⟩) 18 cap) | 1=>(v = .int .i64 18) | 2=>(v = .bool false) | 3=>(v = .bool false) | 4=>(v = .slice (some ⟨b,off,none⟩) 18 cap) | 5=>(v = .pointer (some ⟨b,off,none⟩)) | 6=>(v = .int .u8 (t:Int)) | 7=>(v = .slice (some ⟨b,off,none⟩) 18 cap) | 8=>(v = .pointer (some ⟨b,off + 1,none⟩)) | 9=>(v = .int .u8 (l:Int)) | 10=>(v = .bool false) | 11=>(v = .bool false) | 12=>(v = .bool false) | 13=>(v = .slice (some ⟨b,off,none⟩) 18 cap) | 14=>(v = .pointer (some ⟨b,off + 1,none⟩)) | 15=>(v = .int .u8 (l:Int)) | 16=>(v = .bool false) | 17=>(v = .bool false) | 18=>(v = .bool false) | 19=>(v = .slice (some ⟨b,off,none⟩) 18 cap) | 20=>(v = .pointer (some ⟨b,off + 1,none⟩)) | 21=>(v = .int .u8 (l:Int)) | 22=>(v = .bool false) | 23=>(v = .bool false) | _=>True) ?A_ (by first | assumption | kernel_rfl) (by kernel_rfl) (by kernel_rfl) ?hA_ ?hS_ ?hE_
 case hA_=>intro xs;simp [putAll,List.range,List.range.loop,Act.put] <;> rfl
 case hS_ =>
  refine ⟨?_,?_,?_,?_,?_,?_,?_,?_,?_,?_,?_,?_,?_,?_,?_,?_,?_,?_,?_,?_,?_,?_,?_,?_,trivial⟩
  ·-- 0: t4:=move(t0)
   intro yv w' hR hF K hK;clear hF
   go_simp
   exact hK _ _ (fun _ _=>by first | trivial | rfl | simp [*]) (Mod.refl _ _)
  ·-- 1: t5:=CALL builtin(Builtin.len)(t4)
   intro yv w' hR hF K hK;have f0:(yv 0) = .slice (some ⟨b,off,none⟩) 18 cap:=hF 0 (by kernel_rfl) w' (Mod.refl _ _);clear hF;generalize yv 0 = y0 at *;subst f0
   go_simp
   exact hK _ _ (fun _ _=>by first | trivial | rfl | simp [*]) (Mod.refl _ _)
  ·-- 2: t6:=binOp(neq,3,t5,18:i64,3)
   intro yv w' hR hF K hK;have f1:(yv 1) = .int .i64 18:=hF 1 (by kernel_rfl) w' (Mod.refl _ _);clear hF;generalize yv 1 = y1 at *;subst f1
   go_simp
   exact hK _ _ (fun _ _=>by first | trivial | rfl | simp [*]) (Mod.refl _ _)
  ·-- 3: t7:=move(t6)
   intro yv w' hR hF K hK;have f2:(yv 2) = .bool false:=hF 2 (by kernel_rfl) w' (Mod.refl _ _);clear hF;generalize yv 2 = y2 at *;subst f2
   go_simp
   exact hK _ _ (fun _ _=>by first | trivial | rfl | simp [*]) (Mod.refl _ _)
  ·-- 4: t8:=move(t0)   [guard (3,false)]
   intro yv w' hR hF K hK;have f3:(yv 3) = .bool false:=hF 3 (by kernel_rfl) w' (Mod.refl _ _);clear hF;generalize yv 3 = y3 at *;subst f3
   go_simp
   exact hK _ _ (fun _ _=>by first | trivial | rfl | simp [*]) (Mod.refl _ _)
  ·-- 5: t9:=indexAddr(37,t8,0:i64)   [guard (3,false)]
   intro yv w' hR hF K hK;have f4:(yv 4) = .slice (some ⟨b,off,none⟩) 18 cap:=hF 4 (by kernel_rfl) w' (Mod.refl _ _);have f3:(yv 3) = .bool false:=hF 3 (by kernel_rfl) w' (Mod.refl _ _);clear hF;generalize yv 4 = y4 at *;subst f4;generalize yv 3 = y3 at *;subst f3
   go_simp
   exact hK _ _ (fun _ _=>by first | trivial | rfl | simp [*]) (Mod.refl _ _)
  ·-- 6: t10:=load(5,t9)   [guard (3,false)]
   intro yv w' hR hF K hK;have f5:(yv 5) = .pointer (some ⟨b,off,none⟩):=hF 5 (by kernel_rfl) w' (Mod.refl _ _);have f3:(yv 3) = .bool false:=hF 3 (by kernel_rfl) w' (Mod.refl _ _);clear hF;generalize yv 5 = y5 at *;subst f5;generalize yv 3 = y3 at *;subst f3;obtain ⟨z0,z1,zl⟩:=hcl.out w' (hm1.out.drew.trans hR)
   go_simp
   exact hK _ _ (fun _ _=>rfl) (Mod.refl _ _)
  ·-- 7: t11:=move(t0)   [guard (3,false)]
   intro yv w' hR hF K hK;have f3:(yv 3) = .bool false:=hF 3 (by kernel_rfl) w' (Mod.refl _ _);clear hF;generalize yv 3 = y3 at *;subst f3
   go_simp
   exact hK _ _ (fun _ _=>by first | trivial | rfl | simp [*]) (Mod.refl _ _)
  ·-- 8: t12:=indexAddr(37,t11,1:i64)   [guard (3,false)]
   intro yv w' hR hF K hK;have f7:(yv 7) = .slice (some ⟨b,off,none⟩) 18 cap:=hF 7 (by kernel_rfl) w' (Mod.refl _ _);have f3:(yv 3) = .bool false:=hF 3 (by kernel_rfl) w' (Mod.refl _ _);clear hF;generalize yv 7 = y7 at *;subst f7;generalize yv 3 = y3 at *;subst f3
   go_simp
   exact hK _ _ (fun _ _=>by first | trivial | rfl | simp [*]) (Mod.refl _ _)
  ·-- 9: t13:=load(5,t12)   [guard (3,false)]
   intro yv w' hR hF K hK;have f8:(yv 8) = .pointer (some ⟨b,off + 1,none⟩):=hF 8 (by kernel_rfl) w' (Mod.refl _ _);have f3:(yv 3) = .bool false:=hF 3 (by kernel_rfl) w' (Mod.refl _ _);clear hF;generalize yv 8 = y8 at *;subst f8;generalize yv 3 = y3 at *;subst f3;obtain ⟨z0,z1,zl⟩:=hcl.out w' (hm1.out.drew.trans hR)
   go_simp
   exact hK _ _ (fun _ _=>rfl) (Mod.refl _ _)
  ·-- 10: t14:=binOp(gtr,5,t10,t13,5)   [guard (3,false)]
   intro yv w' hR hF K hK;have f6:(yv 6) = .int .u8 (t:Int):=hF 6 (by kernel_rfl) w' (Mod.refl _ _);have f9:(yv 9) = .int .u8 (l:Int):=hF 9 (by kernel_rfl) w' (Mod.refl _ _);have f3:(yv 3) = .bool false:=hF 3 (by kernel_rfl) w' (Mod.refl _ _);clear hF;generalize yv 6 = y6 at *;subst f6;generalize yv 9 = y9 at *;subst f9;generalize yv 3 = y3 at *;subst f3
   go_simp
   exact hK _ _ (fun _ _=>by first | trivial | rfl | simp [*]) (Mod.refl _ _)
  ·-- 11: t15:=pick(t7,const(Value.bool(true)),t14)
   intro yv w' hR hF K hK;have f3:(yv 3) = .bool false:=hF 3 (by kernel_rfl) w' (Mod.refl _ _);have f10:(yv 10) = .bool false:=hF 10 (by kernel_rfl) w' (Mod.refl _ _);clear hF;generalize yv 3 = y3 at *;subst f3;generalize yv 10 = y10 at *;subst f10
   go_simp
   exact hK _ _ (fun _ _=>by first | trivial | rfl | simp [*]) (Mod.refl _ _)
  ·-- 12: t16:=move(t15)
   intro yv w' hR hF K hK;have f11:(yv 11) = .bool false:=hF 11 (by kernel_rfl) w' (Mod.refl _ _);have f3:(yv 3) = .bool false:=hF 3 (by kernel_rfl) w' (Mod.refl _ _);clear hF;generalize yv 11 = y11 at *;subst f11;generalize yv 3 = y3 at *;subst f3
   go_simp
   exact hK _ _ (fun _ _=>by first | trivial | rfl | simp [*]) (Mod.refl _ _)
  ·-- 13: t17:=move(t0)   [guard (12,false)]
   intro yv w' hR hF K hK;have f12:(yv 12) = .bool false:=hF 12 (by kernel_rfl) w' (Mod.refl _ _);clear hF;generalize yv 12 = y12 at *;subst f12
   go_simp
   exact hK _ _ (fun _ _=>by first | trivial | rfl | simp [*]) (Mod.refl _ _)
  ·-- 14: t18:=indexAddr(37,t17,1:i64)   [guard (12,false)]
   intro yv w' hR hF K hK;have f13:(yv 13) = .slice (some ⟨b,off,none⟩) 18 cap:=hF 13 (by kernel_rfl) w' (Mod.refl _ _);have f12:(yv 12) = .bool false:=hF 12 (by kernel_rfl) w' (Mod.refl _ _);clear hF;generalize yv 13 = y13 at *;subst f13;generalize yv 12 = y12 at *;subst f12
   go_simp
   exact hK _ _ (fun _ _=>by first | trivial | rfl | simp [*]) (Mod.refl _ _)
  ·-- 15: t19:=load(5,t18)   [guard (12,false)]
   intro yv w' hR hF K hK;have f14:(yv 14) = .pointer (some ⟨b,off + 1,none⟩):=hF 14 (by kernel_rfl) w' (Mod.refl _ _);have f12:(yv 12) = .bool false:=hF 12 (by kernel_rfl) w' (Mod.refl _ _);clear hF;generalize yv 14 = y14 at *;subst f14;generalize yv 12 = y12 at *;subst f12;obtain ⟨z0,z1,zl⟩:=hcl.out w' (hm1.out.drew.trans hR)
   go_simp
   exact hK _ _ (fun _ _=>rfl) (Mod.refl _ _)
  ·-- 16: t20:=binOp(lss,5,t19,1:u8,5)   [guard (12,false)]
   intro yv w' hR hF K hK;have f15:(yv 15) = .int .u8 (l:Int):=hF 15 (by kernel_rfl) w' (Mod.refl _ _);have f12:(yv 12) = .bool false:=hF 12 (by kernel_rfl) w' (Mod.refl _ _);clear hF;generalize yv 15 = y15 at *;subst f15;generalize yv 12 = y12 at *;subst f12
   go_simp
   exact hK _ _ (fun _ _=>by first | trivial | rfl | simp [*]) (Mod.refl _ _)
  ·-- 17: t21:=pick(t16,const(Value.bool(true)),t20)
   intro yv w' hR hF K hK;have f12:(yv 12) = .bool false:=hF 12 (by kernel_rfl) w' (Mod.refl _ _);have f16:(yv 16) = .bool false:=hF 16 (by kernel_rfl) w' (Mod.refl _ _);clear hF;generalize yv 12 = y12 at *;subst f12;generalize yv 16 = y16 at *;subst f16
   go_simp
   exact hK _ _ (fun _ _=>by first | trivial | rfl | simp [*]) (Mod.refl _ _)
  ·-- 18: t22:=move(t21)
   intro yv w' hR hF K hK;have f17:(yv 17) = .bool false:=hF 17 (by kernel_rfl) w' (Mod.refl _ _);have f12:(yv 12) = .bool false:=hF 12 (by kernel_rfl) w' (Mod.refl _ _);clear hF;generalize yv 17 = y17 at *;subst f17;generalize yv 12 = y12 at *;subst f12
   go_simp
   exact hK _ _ (fun _ _=>by first | trivial | rfl | simp [*]) (Mod.refl _ _)
  ·-- 19: t23:=move(t0)   [guard (18,false)]
   intro yv w' hR hF K hK;have f18:(yv 18) = .bool false:=hF 18 (by kernel_rfl) w' (Mod.refl _ _);clear hF;generalize yv 18 = y18 at *;subst f18
   go_simp
   exact hK _ _ (fun _ _=>by first | trivial | rfl | simp [*]) (Mod.refl _ _)
  ·-- 20: t24:=indexAddr(37,t23,1:i64)   [guard (18,false)]
   intro yv w' hR hF K hK;have f19:(yv 19) = .slice (some ⟨b,off,none⟩) 18 cap:=hF 19 (by kernel_rfl) w' (Mod.refl _ _);have f18:(yv 18) = .bool false:=hF 18 (by kernel_rfl) w' (Mod.refl _ _);clear hF;generalize yv 19 = y19 at *;subst f19;generalize yv 18 = y18 at *;subst f18
   go_simp
   exact hK _ _ (fun _ _=>by first | trivial | rfl | simp [*]) (Mod.refl _ _)
  ·-- 21: t25:=load(5,t24)   [guard (18,false)]
   intro yv w' hR hF K hK;have f20:(yv 20) = .pointer (some ⟨b,off + 1,none⟩):=hF 20 (by kernel_rfl) w' (Mod.refl _ _);have f18:(yv 18) = .bool false:=hF 18 (by kernel_rfl) w' (Mod.refl _ _);clear hF;generalize yv 20 = y20 at *;subst f20;generalize yv 18 = y18 at *;subst f18;obtain ⟨z0,z1,zl⟩:=hcl.out w' (hm1.out.drew.trans hR)
   go_simp
   exact hK _ _ (fun _ _=>rfl) (Mod.refl _ _)
  ·-- 22: t26:=binOp(gtr,5,t25,15:u8,5)   [guard (18,false)]
   intro yv w' hR hF K hK;have f21:(yv 21) = .int .u8 (l:Int):=hF 21 (by kernel_rfl) w' (Mod.refl _ _);have f18:(yv 18) = .bool false:=hF 18 (by kernel_rfl) w' (Mod.refl _ _);clear hF;generalize yv 21 = y21 at *;subst f21;generalize yv 18 = y18 at *;subst f18
   go_simp
   exact hK _ _ (fun _ _=>by first | trivial | rfl | simp [*]) (Mod.refl _ _)
  ·-- 23: t27:=pick(t22,const(Value.bool(true)),t26)
   intro yv w' hR hF K hK;have f18:(yv 18) = .bool false:=hF 18 (by kernel_rfl) w' (Mod.refl _ _);have f22:(yv 22) = .bool false:=hF 22 (by kernel_rfl) w' (Mod.refl _ _);clear hF;generalize yv 18 = y18 at *;subst f18;generalize yv 22 = y22 at *;subst f22
   go_simp
   exact hK _ _ (fun _ _=>by first | trivial | rfl | simp [*]) (Mod.refl _ _)
 case hE_ =>
  intro yv w' hR hF;have f0:(yv 0) = .slice (some ⟨b,off,none⟩) 18 cap:=hF 0 (by simp) w' (Mod.refl _ _);have f1:(yv 1) = .int .i64 18:=hF 1 (by simp) w' (Mod.refl _ _);have f2:(yv 2) = .bool false:=hF 2 (by simp) w' (Mod.refl _ _);have f3:(yv 3) = .bool false:=hF 3 (by simp) w' (Mod.refl _ _);have f4:(yv 4) = .slice (some ⟨b,off,none⟩) 18 cap:=hF 4 (by simp) w' (Mod.refl _ _);have f5:(yv 5) = .pointer (some ⟨b,off,none⟩):=hF 5 (by simp) w' (Mod.refl _ _);have f6:(yv 6) = .int .u8 (t:Int):=hF 6 (by simp) w' (Mod.refl _ _);have f7:(yv 7) = .slice (some ⟨b,off,none⟩) 18 cap:=hF 7 (by simp) w' (Mod.refl _ _);have f8:(yv 8) = .pointer (some ⟨b,off + 1,none⟩):=hF 8 (by simp) w' (Mod.refl _ _)
  have f9:(yv 9) = .int .u8 (l:Int):=hF 9 (by simp) w' (Mod.refl _ _);have f10:(yv 10) = .bool false:=hF 10 (by simp) w' (Mod.refl _ _);have f11:(yv 11) = .bool false:=hF 11 (by simp) w' (Mod.refl _ _);have f12:(yv 12) = .bool false:=hF 12 (by simp) w' (Mod.refl _ _);have f13:(yv 13) = .slice (some ⟨b,off,none⟩) 18 cap:=hF 13 (by simp) w' (Mod.refl _ _);have f14:(yv 14) = .pointer (some ⟨b,off + 1,none⟩):=hF 14 (by simp) w' (Mod.refl _ _);have f15:(yv 15) = .int .u8 (l:Int):=hF 15 (by simp) w' (Mod.refl _ _);have f16:(yv 16) = .bool false:=hF 16 (by simp) w' (Mod.refl _ _);have f17:(yv 17) = .bool false:=hF 17 (by simp) w' (Mod.refl _ _)
  have f18:(yv 18) = .bool false:=hF 18 (by simp) w' (Mod.refl _ _);have f19:(yv 19) = .slice (some ⟨b,off,none⟩) 18 cap:=hF 19 (by simp) w' (Mod.refl _ _);have f20:(yv 20) = .pointer (some ⟨b,off + 1,none⟩):=hF 20 (by simp) w' (Mod.refl _ _);have f21:(yv 21) = .int .u8 (l:Int):=hF 21 (by simp) w' (Mod.refl _ _);have f22:(yv 22) = .bool false:=hF 22 (by simp) w' (Mod.refl _ _);have f23:(yv 23) = .bool false:=hF 23 (by simp) w' (Mod.refl _ _);clear hF;generalize yv 0 = y0 at *;subst f0;generalize yv 1 = y1 at *;subst f1;generalize yv 2 = y2 at *;subst f2;generalize yv 3 = y3 at *
  subst f3;generalize yv 4 = y4 at *;subst f4;generalize yv 5 = y5 at *;subst f5;generalize yv 6 = y6 at *;subst f6;generalize yv 7 = y7 at *;subst f7;generalize yv 8 = y8 at *;subst f8;generalize yv 9 = y9 at *;subst f9;generalize yv 10 = y10 at *;subst f10;generalize yv 11 = y11 at *;subst f11;generalize yv 12 = y12 at *;subst f12;generalize yv 13 = y13 at *;subst f13;generalize yv 14 = y14 at *;subst f14;generalize yv 15 = y15 at *;subst f15;generalize yv 16 = y16 at *;subst f16;generalize yv 17 = y17 at *;subst f17;generalize yv 18 = y18 at *;subst f18;generalize yv 19 = y19 at *;subst f19
  generalize yv 20 = y20 at *;subst f20;generalize yv 21 = y21 at *;subst f21;generalize yv 22 = y22 at *;subst f22;generalize yv 23 = y23 at *;subst f23;have hm2:=hm1.out.drew.trans hR;have hB2:=hB.out.mod ((Mod.refl Nowhere _).drew.trans hR) (fun e=>e);clear hm1 hB hR z0 z1 zl;refine hid2 ?_ hm2 hB2;clear hm2 hB2;intro hm2 hB2;go_wp2_with fail;refine ZD 11 (fun i v w'=>match i with | 0=>(v = .slice (some ⟨b,off,none⟩) 18 cap) | 1=>(v = .pointer (some ⟨b,off,none⟩)) | 2=>(v = .int .u8 (t:Int)) | 3=>(v = .int .i64 (t:Int)) | 4=>(v = .slice (some ⟨b,off,none⟩) 18 cap) | 5=>(v = .pointer (some ⟨b,off + 1,none⟩)) | 6=>(v = .int .u8 (l:Int)) | 7=>(v = .int .i64 (l:Int)) | 8=>(v = .slice (some ⟨b,off,none⟩) 18 cap) | 9=>(v = .slice (some ⟨b,off + 2,none⟩) 16 (cap - 2)) | 10=>(v = .agg #[.int .i64 (t:Int),.int .i64 (l:Int),.slice (some ⟨b,off + 2,none⟩) 16 (cap - 2)]) | _=>True) ?A_3_1 (by first | assumption | kernel_rfl) (by kernel_rfl) (by kernel_rfl) (by kernel_rfl) (by decide) ?hA_3_1 ?hS_3_1 ?hE_3_1
  case hA_3_1=>intro xs;simp [putAll,List.range,List.range.loop,Act.put] <;> rfl
  case hS_3_1 =>
   refine ⟨?_,?_,?_,?_,?_,?_,?_,?_,?_,?_,?_,trivial⟩
   ·-- 0: t29:=move(t0)
    intro yv w' hR hF K hK;clear hF
    go_simp
    exact hK _ _ (fun _ _=>by first | trivial | rfl | simp [*]) (Mod.refl _ _)
   ·-- 1: t30:=indexAddr(37,t29,0:i64)
    intro yv w' hR hF K hK;have f0:(yv 0) = .slice (some ⟨b,off,none⟩) 18 cap:=hF 0 (by kernel_rfl) w' (Mod.refl _ _);clear hF;generalize yv 0 = y0 at *;subst f0
    go_simp
    exact hK _ _ (fun _ _=>by first | trivial | rfl | simp [*]) (Mod.refl _ _)
   ·-- 2: t31:=load(5,t30)
    intro yv w' hR hF K hK;have f1:(yv 1) = .pointer (some ⟨b,off,none⟩):=hF 1 (by kernel_rfl) w' (Mod.refl _ _);clear hF;generalize yv 1 = y1 at *;subst f1;obtain ⟨z0,z1,zl⟩:=hcl.out w' (hm2.out.drew.trans hR)
    go_simp
    exact hK _ _ (fun _ _=>rfl) (Mod.refl _ _)
   ·-- 3: t32:=convert(5,3,t31)
    intro yv w' hR hF K hK;have f2:(yv 2) = .int .u8 (t:Int):=hF 2 (by kernel_rfl) w' (Mod.refl _ _);clear hF;generalize yv 2 = y2 at *;subst f2
    go_simp
    exact hK _ _ (fun _ _=>by first | trivial | rfl | simp [*]) (Mod.refl _ _)
   ·-- 4: t33:=move(t0)
    intro yv w' hR hF K hK;clear hF
    go_simp
    exact hK _ _ (fun _ _=>by first | trivial | rfl | simp [*]) (Mod.refl _ _)
   ·-- 5: t34:=indexAddr(37,t33,1:i64)
    intro yv w' hR hF K hK;have f4:(yv 4) = .slice (some ⟨b,off,none⟩) 18 cap:=hF 4 (by kernel_rfl) w' (Mod.refl _ _);clear hF;generalize yv 4 = y4 at *;subst f4
    go_simp
    exact hK _ _ (fun _ _=>by first | trivial | rfl | simp [*]) (Mod.refl _ _)
   ·-- 6: t35:=load(5,t34)
    intro yv w' hR hF K hK;have f5:(yv 5) = .pointer (some ⟨b,off + 1,none⟩):=hF 5 (by kernel_rfl) w' (Mod.refl _ _);clear hF;generalize yv 5 = y5 at *;subst f5;obtain ⟨z0,z1,zl⟩:=hcl.out w' (hm2.out.drew.trans hR)
    go_simp
    exact hK _ _ (fun _ _=>rfl) (Mod.refl _ _)
   ·-- 7: t36:=convert(5,3,t35)
    intro yv w' hR hF K hK;have f6:(yv 6) = .int .u8 (l:Int):=hF 6 (by kernel_rfl) w' (Mod.refl _ _);clear hF;generalize yv 6 = y6 at *;subst f6
    go_simp
    exact hK _ _ (fun _ _=>by first | trivial | rfl | simp [*]) (Mod.refl _ _)
   ·-- 8: t37:=move(t0)
    intro yv w' hR hF K hK;clear hF
    go_simp
    exact hK _ _ (fun _ _=>by first | trivial | rfl | simp [*]) (Mod.refl _ _)
   ·-- 9: t38:=slice(37,t37,2:i64,none,none)
    intro yv w' hR hF K hK;have f8:(yv 8) = .slice (some ⟨b,off,none⟩) 18 cap:=hF 8 (by kernel_rfl) w' (Mod.refl _ _);clear hF;generalize yv 8 = y8 at *;subst f8;have hx:(2:Int)≤18:=by omega
    go_simp
    exact hK _ _ (fun _ _=>by simp;omega) (Mod.refl _ _)
   ·-- 10: t39:=build(93,[(0,t32),(1,t36),(2,t38)])
    intro yv w' hR hF K hK;have f3:(yv 3) = .int .i64 (t:Int):=hF 3 (by kernel_rfl) w' (Mod.refl _ _);have f7:(yv 7) = .int .i64 (l:Int):=hF 7 (by kernel_rfl) w' (Mod.refl _ _);have f9:(yv 9) = .slice (some ⟨b,off + 2,none⟩) 16 (cap - 2):=hF 9 (by kernel_rfl) w' (Mod.refl _ _);clear hF;generalize yv 3 = y3 at *;subst f3;generalize yv 7 = y7 at *;subst f7;generalize yv 9 = y9 at *;subst f9
    go_simp
    exact hK _ _ (fun _ _=>by first | trivial | rfl | simp [*]) (Mod.refl _ _)
  case hE_3_1 =>
   intro yv w' hR hF;have f0:(yv 0) = .slice (some ⟨b,off,none⟩) 18 cap:=hF 0 (by simp) w' (Mod.refl _ _);have f1:(yv 1) = .pointer (some ⟨b,off,none⟩):=hF 1 (by simp) w' (Mod.refl _ _);have f2:(yv 2) = .int .u8 (t:Int):=hF 2 (by simp) w' (Mod.refl _ _);have f3:(yv 3) = .int .i64 (t:Int):=hF 3 (by simp) w' (Mod.refl _ _);have f4:(yv 4) = .slice (some ⟨b,off,none⟩) 18 cap:=hF 4 (by simp) w' (Mod.refl _ _);have f5:(yv 5) = .pointer (some ⟨b,off + 1,none⟩):=hF 5 (by simp) w' (Mod.refl _ _);have f6:(yv 6) = .int .u8 (l:Int):=hF 6 (by simp) w' (Mod.refl _ _);have f7:(yv 7) = .int .i64 (l:Int):=hF 7 (by simp) w' (Mod.refl _ _)
   have f8:(yv 8) = .slice (some ⟨b,off,none⟩) 18 cap:=hF 8 (by simp) w' (Mod.refl _ _);have f9:(yv 9) = .slice (some ⟨b,off + 2,none⟩) 16 (cap - 2):=hF 9 (by simp) w' (Mod.refl _ _);have f10:(yv 10) = .agg #[.int .i64 (t:Int),.int .i64 (l:Int),.slice (some ⟨b,off + 2,none⟩) 16 (cap - 2)]:=hF 10 (by simp) w' (Mod.refl _ _);clear hF;generalize yv 0 = y0 at *;subst f0;generalize yv 1 = y1 at *;subst f1;generalize yv 2 = y2 at *;subst f2;generalize yv 3 = y3 at *;subst f3;generalize yv 4 = y4 at *;subst f4;generalize yv 5 = y5 at *;subst f5;generalize yv 6 = y6 at *;subst f6
   generalize yv 7 = y7 at *;subst f7;generalize yv 8 = y8 at *;subst f8;generalize yv 9 = y9 at *;subst f9;generalize yv 10 = y10 at *;subst f10;simp only [List.drop_succ_cons,List.drop_zero];have hm3:=hm2.out.drew.trans hR;have hB3:=hB2.out.mod ((Mod.refl Nowhere _).drew.trans hR) (fun e=>e);have zl:=hB3.lt;have zf:=hB3.frozen;have z0:=hB3.cell 0;have z1:=hB3.cell 1;have z2:=hB3.cell 2;simp only [gz0,gs0] at z0 z1 z2;have hd3:=hd.out.fresh hm3;obtain ⟨hB4,hm4⟩:=setw3' hB3 (.int .i64 (t:Int)) (.int .i64 (l:Int)) (.slice (some ⟨b,off + 2,none⟩) 16 (cap - 2));have hd4:=DSl.mod hd3 hm4 (fun k hk cs hb=>by rw [hk] at hb;exact absurd (hb.inj hB3).2 (by decide));have hm5:Mod Nowhere w _:=hm3.step hm4 fun i hi e=>absurd e (by omega)
   clear hm2 hB2 hR hcl hd hm4;refine hid6 ?_ hm3 hd3 hB3 hB4 hd4 hm5;clear hm3 hd3 hB3 hB4 hd4 hm5;intro hm3 hd3 hB3 hB4 hd4 hm5;go_wp2;refine bodyPost_ret (ZgF rfl _ _ w.heap.size _ _ _ rfl hB4.out) rfl ?_;exact ⟨_,rfl,hd4.out,hm5.out⟩
theorem X1 {w:World} {v:Value} {e:KEn} (h:Src w v e.val) (he:KOk e) :
  Calls Tryz.prog 52 #[.agg #[.int .i64 (e.tries:Int),.int .i64 (e.lim:Int),v]] w fun r w'=>∃ u,r = .returned u∧DSl w' u (kB e)∧Mod Nowhere w w':=by
 have hv:=he.v16;have h1:=he.l15;have h2:=he.tl;have hkb:kB e = [e.tries,e.lim] ++ e.val:=rfl;rw [hkb];clear he hkb;obtain ⟨a,c,rfl,-⟩:=id h;rw [hv] at h ⊢;generalize e.tries = t at *;generalize e.lim = l at *;generalize e.val = vl at *;have hb1:IntKind.u8.wrap (t:Int) = (t:Int):=by rw [IntKind.wrap_u8];omega
 have hb2:IntKind.u8.wrap (l:Int) = (l:Int):=by rw [IntKind.wrap_u8];omega
 have hm0:Mod Nowhere w (w.alloc (.cells #[.int .i64 (t:Int),.int .i64 (l:Int),.slice a 16 c] 93)):=(Mod.refl _ w).alloc _;have hm1:Mod Nowhere w ((w.alloc (.cells #[.int .i64 (t:Int),.int .i64 (l:Int),.slice a 16 c] 93)).alloc (.cells #[.int .u8 (t:Int),.int .u8 (l:Int)] 5)):=hm0.alloc _;have ho:=Yx (w.alloc (.cells #[.int .i64 (t:Int),.int .i64 (l:Int),.slice a 16 c] 93)) (u8s [t,l]) 5 (w.heap.size + 1) 2 (by simp) rfl (by decide);obtain ⟨va,vc,w3,hrun,hown,hmA⟩:=Zbm (l:=[t,l]) (n:=2) rfl ho (h.fresh hm1) (by omega) (by simp) 37;rw [hv] at hrun hown;simp only [World.size_alloc,show (u8s [t,l]).toArray = #[.int .u8 (t:Int),.int .u8 (l:Int)] from rfl] at hrun
 have hm2:Mod Nowhere w w3:=hm1.step hmA fun i hi e=>by have e:w.heap.size + 1≤i:=e;omega
 have hfin:DSl w3 (.slice va 18 vc) ([t,l] ++ vl):=by
  have hl:([t,l] ++ vl).length = 18:=by rw [List.length_append,hv];rfl
  unfold DSl;rw [hl];exact Sl.of_owns hown
 clear hm0 hm1 ho hown hmA h hv;refine hid2 ?_ hm2 hfin;clear hm2 hfin;intro hm2 hfin;go_enter Tryz.func52,Tryz.ntmps52
 go_wp2_with (at_builtin;refine Lib.wpList_append_run _ rfl _ _ _ _ rfl _ _ (by rfl) (by rfl) _ _ hrun ?_;clear hrun)
 go_ret;exact ⟨_,rfl,hfin.out,hm2.out⟩
namespace Ky
theorem X2 {f:Items} (h:KIt f) {s k:Nat} (s1:1≤s) (s8:s≤8) (k1:1≤k) (k6:k≤6):f (64 + (8 * s + k)) = (kfind (kl f) s k).map kB:=by
 have hL:=kl_KL h
 cases hf:f (64 + (8 * s + k)) with
 | some b =>
  obtain ⟨e,he,e1,rfl⟩:=h _ b hf
  have hp:e.set = s∧e.kind = k:=by
   obtain ⟨a1,a2,a3,a4,-⟩:=he;unfold pl at e1;omega
  obtain ⟨rfl,rfl⟩:=hp;have hm:e ∈ kl f:=(Zx h).2 ⟨he,hf⟩;rw [hL.find hm]
  rfl
 | none =>
  cases hk:kfind (kl f) s k with
  | none=>rfl
  | some e =>
   exfalso
   obtain ⟨h1,h2,h3⟩:=Zt hk;have h4:=((Zx h).1 h1).2;have:64 + pl e = 64 + (8 * s + k):=by unfold pl;omega
   rw [this,hf] at h4
   cases h4
theorem Zp {l:List KEn} (h:KL l) {s k:Int} {e:KEn} (hf:kfind l s k = some e):okP s k = true∧KOk e∧s = (e.set:Int)∧k = (e.kind:Int):=by
 obtain ⟨h1,h2,h3⟩:=Zt hf;have ho:=h.ok e h1;obtain ⟨a1,a2,a3,a4,-⟩:=id ho;refine ⟨?_,ho,h2.symm,h3.symm⟩;unfold okP;rw [decide_eq_true (by omega),decide_eq_true (by omega),decide_eq_true (by omega),decide_eq_true (by omega)]
 rfl
def pix (s k:Int):Nat:=(6 * (s - 1) + (k - 1)).toNat
end Ky
def entV (e:KEn) (v:Value):Value:=.agg #[.int .i64 (e.tries:Int),.int .i64 (e.lim:Int),v]
def KLi (W:World) (mb n:Nat) (L:List KEn) (i:Nat):Prop:=∃ g:KEn→Value,KMap W mb n (fun s k=>if pix s k < i then (kfind L s k).map fun e=>entV e (g e) else none)∧∀ e ∈ L,pix e.set e.kind < i→DSl W (g e) e.val
def KLk (W:World) (mb:Nat) (L:List KEn):Prop:=∃ (n:Nat) (g:KEn→Value),n≤48∧KMap W mb n (fun s k=>(kfind L s k).map fun e=>entV e (g e))∧∀ e ∈ L,DSl W (g e) e.val
theorem KLk.fresh {W W':World} {mb:Nat} {L:List KEn} (h:KLk W mb L) (hm:Mod Nowhere W W'):KLk W' mb L:=by
 obtain ⟨n,g,h0,h1,h2⟩:=h;exact ⟨n,g,h0,h1.fresh hm,fun e he=>(h2 e he).fresh hm⟩
theorem Yv {L:List KEn} (hL:KL L) {k S K:Nat} (hk:k < 48) (hS:k / 6 + 1 = S) (hK:k % 6 + 1 = K) {s j:Int} (h:(kfind L s j).isSome = true):pix s j < k + 1 ↔ pix s j < k ∨ (s = (S:Int)∧j = (K:Int)):=by
 obtain ⟨e,he⟩:=Option.isSome_iff_exists.1 h;obtain ⟨h1,ho,rfl,rfl⟩:=Zp hL he;obtain ⟨a1,a2,a3,a4,-⟩:=ho;unfold pix;omega
theorem KLi.skip {W:World} {mb n:Nat} {L:List KEn} (hL:KL L) {k S K:Nat} (hk:k < 48) (hS:k / 6 + 1 = S) (hK:k % 6 + 1 = K) (h:KLi W mb n L k) (hf:kfind L (S:Int) (K:Int) = none):KLi W mb n L (k + 1):=by
 obtain ⟨g,h1,h2⟩:=h;refine ⟨g,h1.congr fun s j=>?_,fun e he hp=>h2 e he ?_⟩
 ·cases hq:(kfind L s j).isSome with
  | false =>
   have:kfind L s j = none:=by simpa using hq
   rw [this]
   split <;> split <;> rfl
  | true =>
   have h3:=Yv hL hk hS hK hq;by_cases h4:pix s j < k
   ·rw [if_pos h4,if_pos (h3.2 (.inl h4))]
   ·rw [if_neg h4,if_neg (fun h5=>by
     rcases h3.1 h5 with h6 | ⟨rfl,rfl⟩
     ·exact h4 h6
     ·rw [hf] at hq;cases hq)]
 ·have hq:(kfind L (e.set:Int) (e.kind:Int)).isSome = true:=by rw [hL.find he];rfl
  rcases (Yv hL hk hS hK hq).1 hp with h6 | ⟨e1,e2⟩
  ·exact h6
  ·rw [← e1,← e2,hL.find he] at hf;cases hf
theorem KLi.put {W':World} {mb n:Nat} {L:List KEn} (hL:KL L) {k S K:Nat} (hk:k < 48) (hS:k / 6 + 1 = S) (hK:k % 6 + 1 = K) {e:KEn} (hf:kfind L (S:Int) (K:Int) = some e) {g:KEn→Value} {u:Value}
  (h1:KMap W' mb n (fun i j=>if i = (S:Int)∧j = (K:Int) then some (entV e u) else if pix i j < k then (kfind L i j).map fun e=>entV e (g e) else none)) (h2:∀ e ∈ L,pix e.set e.kind < k→DSl W' (g e) e.val) (hu:DSl W' u e.val):KLi W' mb n L (k + 1):=by
 obtain ⟨-,ho,e1,e2⟩:=Zp hL hf;have hem:=(Zt hf).1;refine ⟨fun x=>if x = e then u else g x,h1.congr fun s j=>?_,fun x hx hp=>?_⟩
 ·by_cases h3:s = (S:Int)∧j = (K:Int)
  ·rw [if_pos h3];obtain ⟨rfl,rfl⟩:=h3;rw [if_pos ((Yv hL hk hS hK (by rw [hf];rfl)).2 (.inr ⟨rfl,rfl⟩)),hf]
   show some (entV e u) = some (entV e (if e = e then u else g e))
   rw [if_pos rfl]
  ·rw [if_neg h3]
   cases hq:kfind L s j with
   | none=>split <;> split <;> rfl
   | some x =>
    have hq':(kfind L s j).isSome = true:=by rw [hq];rfl
    have h4:=Yv hL hk hS hK hq'
    have hxe:x ≠ e:=fun q=>by
     subst q;obtain ⟨-,-,e3,e4⟩:=Zp hL hq;exact h3 ⟨e3.trans e1.symm,e4.trans e2.symm⟩
    by_cases h5:pix s j < k
    ·rw [if_pos h5,if_pos (h4.2 (.inl h5))]
     show some (entV x (g x)) = some (entV x (if x = e then u else g x))
     rw [if_neg hxe]
    ·rw [if_neg h5,if_neg (fun h6=>by
      rcases h4.1 h6 with h7 | h7
      ·exact h5 h7
      ·exact h3 h7)]
 ·show DSl W' (if x = e then u else g x) x.val
  by_cases q:x = e
  ·rw [if_pos q,q];exact hu
  ·rw [if_neg q];refine h2 x hx ?_;have hq:(kfind L (x.set:Int) (x.kind:Int)).isSome = true:=by rw [hL.find hx];rfl
   rcases (Yv hL hk hS hK hq).1 hp with h6 | ⟨e3,e4⟩
   ·exact h6
   ·exact absurd (hL.uniq hx hem (by omega) (by omega)) q
theorem KLi.fresh {W W':World} {mb n:Nat} {L:List KEn} {k:Nat} (h:KLi W mb n L k) (hm:Mod Nowhere W W'):KLi W' mb n L k:=by
 obtain ⟨g,h1,h2⟩:=h;exact ⟨g,h1.fresh hm,fun e he hp=>(h2 e he hp).fresh hm⟩
def zeroE3:Value:=.agg #[.int .i64 0,.int .i64 0,.slice none 0 0]
theorem KLk.look {W:World} {mb:Nat} {L:List KEn} (h:KLk W mb L) (hL:KL L) {s k:Int} (hs:I64 s) (hk:I64 k) :
  ∃ u,(∀ W',Mod Nowhere W W'→(Instr.lookup 53 (.map (some mb)) (.agg #[.int .i64 s,.int .i64 k]) true).run Tryz.prog W' = .ok (.tuple #[.agg #[.int .i64 (((kfind L s k).map (·.tries)).getD 0:Nat),.int .i64 (((kfind L s k).map (·.lim)).getD 0:Nat),u],.bool (kfind L s k).isSome]) W')∧DSl W u (((kfind L s k).map (·.val)).getD []):=by
 obtain ⟨n,g,h0,h1,h2⟩:=h;have hz:∀ W',(zeroValue 93).run Tryz.prog W' = .ok zeroE3 W':=fun W'=>by kernel_rfl
 cases hf:kfind L s k with
 | none =>
  refine ⟨.slice none 0 0,fun W' hm=>?_,Sl.nil _ _ _⟩;have:=(h1.fresh hm).look_ok (hz W') hs hk;rw [hf] at this;exact this
 | some e =>
  refine ⟨g e,fun W' hm=>?_,h2 e (Zt hf).1⟩;have:=(h1.fresh hm).look_ok (hz W') hs hk;rw [hf] at this;exact this
structure KyR (w:World) (kb mb:Nat) (A:VAt) (m:Mem) (s:VSt):Prop where
 at_:KAt w kb A.vb mb
 rep:VRep w A m s
 x:A.X mb
 map:∃ n f,KMap w mb n f
 len:s.l.length≤900000
 it:KIt (view s)
def OneB (b:Nat):Nat→Prop:=fun k=>k = b
section
variable {w w' : World} {kb mb : Nat} {A : VAt} {m : Mem} {s : VSt}
theorem KyR.fresh (h:KyR w kb mb A m s) (hm:Mod Nowhere w w'):KyR w' kb mb A m s:=by
 obtain ⟨n,f,hf⟩:=h.map;exact ⟨Blk.mod h.at_ hm id,h.rep.fresh hm,h.x,⟨n,f,hf.fresh hm⟩,h.len,h.it⟩
theorem KyR.only (h:KyR w kb mb A m s) (hm:Mod (OneB mb) w w') (hmap:∃ n f,KMap w' mb n f):KyR w' kb mb A m s:=by
 obtain ⟨n,f,hf⟩:=h.map;refine ⟨Blk.mod h.at_ hm (fun e=>?_),h.rep.keepX hm h.x hf.map,h.x,hmap,h.len,h.it⟩;have e:kb = mb:=e;have hb:=h.at_;rw [e] at hb;exact Ze hf.map hb
end
def AllPost (w:World) (mb:Nat) (L:List KEn) (e:Ending) (w':World):Prop:=e = .returned (.map (some mb))∧KLk w' mb L∧Mod (OneB mb) w w'
theorem Yw {w:World} {kb mb:Nat} {A:VAt} {m:Mem} {s:VSt} (h:KyR w kb mb A m s):Calls Tryz.prog 53 #[ptr kb] w (AllPost w mb (kl (view s))):=by
 have hR:=Z1 h.at_ h.rep;have hL:=kl_KL h.it;have hP:=fun W=>Zb4 W;have hI:=fun W (s k:Nat) (hs:s≤100) (hk:k≤100)=>Z0 W s k hs hk
 have hKb:∀ W,Mod (OneB mb) w W→W.cell? ⟨kb,0,none⟩ = some (ptr A.vb)∧W.cell? ⟨kb,1,none⟩ = some (.map (some mb))∧kb < W.heap.size:=fun W hm=>by
  obtain ⟨n,f,hf⟩:=h.map
  have h':Blk W kb [ptr A.vb,.map (some mb)] 55:=Blk.mod h.at_ hm (fun e=>by
   have e:kb = mb:=e;have hb:=h.at_;rw [e] at hb
   exact Ze hf.map hb)
  exact ⟨h'.cell 0,h'.cell 1,h'.lt⟩
 have hG:∀ W,Mod (OneB mb) w W→∀ i:Nat,i < 48→Calls Tryz.prog 41 #[ptr A.vb,.int .i64 ((64 + (8 * (i / 6 + 1) + (i % 6 + 1)):Nat):Int)] W (GetPost W ((kfind (kl (view s)) (i / 6 + 1:Nat) (i % 6 + 1:Nat)).map kB)):=fun W hm i hi=>by
  obtain ⟨n,f,hf⟩:=h.map;have h1:=Zb1 (h.rep.keepX hm h.x hf.map) (by have:=h.len;omega) ((64 + (8 * (i / 6 + 1) + (i % 6 + 1)):Nat):Int) (by omega) (by omega);rw [← X2 h.it (by omega) (by omega) (by omega) (by omega)]
  have h2:at_ (sets s.f s.l) ((64 + (8 * (i / 6 + 1) + (i % 6 + 1)):Nat):Int) = view s (64 + (8 * (i / 6 + 1) + (i % 6 + 1))):=by
   unfold at_ view;rw [if_pos (by omega),Int.toNat_natCast]
  rw [h2] at h1;exact h1
 obtain ⟨n0,f0,hmap⟩:=h.map;generalize kl (view s) = L at *;generalize A.vb = vb at *;clear h;refine hid7 ?_ hR hP hI hKb hG hL hmap;clear hR hP hI hKb hG hL hmap;intro hR hP hI hKb hG hL hmap;go_enter Tryz.func53,Tryz.ntmps53;go_wp2_with fail;refine (hR.out).mono ?_;rintro e w1 ⟨rfl,hm1⟩;obtain ⟨k0,k1,kbl⟩:=hKb.out w1 (hm1.nowhere);obtain ⟨w2,hcl,hmap2,hm2⟩:=(hmap.out.fresh hm1).clear 0;have hm12:Mod (OneB mb) w w2:=(hm1.nowhere (S:=OneB mb)).trans hm2;refine hid4 ?_ hm1 hmap2 hm2 hm12;clear hm1 hmap2 hm2 hm12;intro hm1 hmap2 hm2 hm12;go_wp2_with fail;refine (hP.out w2).mono ?_;rintro e w3 ⟨b,cap,rfl,c1,c2,hcells,hge,hm3,cs,hbp⟩
 have hm13:Mod (OneB mb) w w3:=hm12.out.trans hm3.nowhere
 have hcel:∀ W,Mod (OneB mb) w3 W→∀ i,i < 48→W.cell? ⟨b,i * 2,none⟩ = some (.int .i64 ((i / 6 + 1:Nat):Int))∧W.cell? ⟨b,i * 2 + 1,none⟩ = some (.int .i64 ((i % 6 + 1:Nat):Int))∧b < W.heap.size:=fun W hm i hi=>by
  obtain ⟨q1,q2,q3⟩:=hcells w3 (Mod.refl _ _) i hi
  have hne:¬ OneB mb b:=fun e=>by
   have e:b = mb:=e;rw [e] at hbp;exact Ze (hmap2.out.fresh hm3).map hbp
  exact ⟨(hm.cell (p:=⟨b,i * 2,none⟩) q3 hne).trans q1,(hm.cell (p:=⟨b,i * 2 + 1,none⟩) q3 hne).trans q2,Nat.lt_of_lt_of_le q3 hm.size⟩
 have hst:KLi w3 mb 0 L 0:=⟨fun _=>.slice none 0 0,(hmap2.out.fresh hm3).congr fun s k=>(if_neg (by omega)).symm,fun e he h=>by omega⟩;clear hcells hbp hge k0 k1 kbl hm3 hcl;unfold maxLen at c2;refine hid3 ?_ hm13 hcel hst;clear hm13 hcel hst;intro hm13 hcel hst;clear hmap2 hm2 hm1 hm12 hP hR hmap;go_wp2_with fail
 go_loopw [18] (fun i wr=>∃ k:Nat,k≤48∧i = .int .i64 k∧(∃ n,n≤k∧KLi wr mb n L k)∧Mod (OneB mb) w wr∧Mod (OneB mb) w3 wr) (fun i _=>48 - (intOf i).toNat)
 case atStart=>exact ⟨0,by omega,rfl,⟨0,by omega,hst.out⟩,hm13.out,Mod.refl _ _⟩
 case round =>
  obtain ⟨k,hk,rfl,⟨n,hn,hKL⟩,hm,hm'⟩:=hrel;by_cases hlt:k < 48
  ·have hki:(k:Int) < 48:=by omega
   obtain ⟨q1,q2,q3⟩:=hcel.out wr hm' k hlt;have hGk:=fun W hm=>hG.out W hm k hlt;obtain ⟨S,hS⟩:∃ S,k / 6 + 1 = S:=⟨_,rfl⟩;obtain ⟨T,hT⟩:∃ T,k % 6 + 1 = T:=⟨_,rfl⟩;rw [hS] at q1 hGk;rw [hT] at q2 hGk;obtain ⟨o,ho⟩:∃ o,(kfind L (S:Int) (T:Int)).map kB = o:=⟨_,rfl⟩;rw [ho] at hGk;have hIk:=fun W=>hI.out W S T (by omega) (by omega);obtain ⟨num,hnum⟩:∃ x:Nat,64 + (8 * S + T) = x:=⟨_,rfl⟩;rw [hnum] at hGk hIk;have hbp:=Blk.new wr [.int .i64 (S:Int),.int .i64 (T:Int)] 88;have hmA:Mod Nowhere wr (wr.alloc (.cells #[.int .i64 (S:Int),.int .i64 (T:Int)] 88)):=(Mod.refl _ wr).alloc _;have hmw:=hm.trans (hmA.nowhere (S:=OneB mb))
   have hmw':=hm'.trans (hmA.nowhere (S:=OneB mb));have hKA:=hKL.fresh hmA;refine hid12 ?_ hKL hm hm' hGk hIk hS hT hnum ho hbp hmA hmw;clear hKL hm hm' hGk hIk hS hT hnum ho hbp hmA hmw;intro hKL hm hm' hGk hIk hS hT hnum ho hbp hmA hmw;refine hid2 ?_ hmw' hKA;clear hmw' hKA;intro hmw' hKA;go_wp2_with fail;refine Zo (fun i v w'=>match i with | 0=>(v = ptr kb) | 1=>(v = ptr kb) | 2=>(v = .pointer (some ⟨kb,0,none⟩)) | 3=>(v = ptr vb) | 4=>(v = .agg #[.int .i64 (S:Int),.int .i64 (T:Int)]) | 5=>(v = .int .i64 (num:Int)) | 6=>(∃ (a:Option Addr) (c:Nat),v = .tuple #[.slice a (o.getD []).length c,.bool o.isSome]∧DSl w' (.slice a (o.getD []).length c) (o.getD [])) | 7=>(∃ (a:Option Addr) (c:Nat),v = .tuple #[.slice a (o.getD []).length c,.bool o.isSome]∧DSl w' (.slice a (o.getD []).length c) (o.getD [])) | 8=>(∃ (a:Option Addr) (c:Nat),v = .slice a (o.getD []).length c∧DSl w' (.slice a (o.getD []).length c) (o.getD [])) | 9=>(v = .bool o.isSome) | 10=>(∃ (a:Option Addr) (c:Nat),v = .slice a (o.getD []).length c∧DSl w' (.slice a (o.getD []).length c) (o.getD [])) | 11=>(v = .bool o.isSome) | _=>True) ?A_ (by first | assumption | kernel_rfl) (by kernel_rfl) (by kernel_rfl) ?hA_ ?hS_ ?hE_
   case hA_=>intro xs;simp [putAll,List.range,List.range.loop,Act.put] <;> rfl
   case hS_ =>
    refine ⟨?_,?_,?_,?_,?_,?_,?_,?_,?_,?_,?_,?_,trivial⟩
    ·-- 0: t23:=move(t0)
     intro yv w' hR hF K hK;clear hF
     go_simp
     exact hK _ _ (fun _ _=>by first | trivial | rfl | simp [*]) (Mod.refl _ _)
    ·-- 1: t24:=nilCheck(t23)
     intro yv w' hR hF K hK;have f0:(yv 0) = ptr kb:=hF 0 (by kernel_rfl) w' (Mod.refl _ _);clear hF;generalize yv 0 = y0 at *;subst f0
     go_simp
     exact hK _ _ (fun _ _=>by first | trivial | rfl | simp [*]) (Mod.refl _ _)
    ·-- 2: t25:=fieldAddr(55,t24,0)
     intro yv w' hR hF K hK;have f1:(yv 1) = ptr kb:=hF 1 (by kernel_rfl) w' (Mod.refl _ _);clear hF;generalize yv 1 = y1 at *;subst f1
     go_simp
     exact hK _ _ (fun _ _=>by first | trivial | rfl | simp [*]) (Mod.refl _ _)
    ·-- 3: t26:=load(26,t25)
     intro yv w' hR hF K hK;have f2:(yv 2) = .pointer (some ⟨kb,0,none⟩):=hF 2 (by kernel_rfl) w' (Mod.refl _ _);clear hF;generalize yv 2 = y2 at *;subst f2;obtain ⟨z0,z1,zl⟩:=hKb.out w' (hmw.out.trans ((Mod.refl Nowhere _).drew.trans hR).nowhere)
     go_simp
     exact hK _ _ (fun _ _=>rfl) (Mod.refl _ _)
    ·-- 4: t27:=load(88,t4)
     intro yv w' hR hF K hK;clear hF;have b2:=hbp.out.mod ((Mod.refl Nowhere _).drew.trans hR) (fun e=>e);have z0:=b2.cell 0;have z1:=b2.cell 1;have zl:=b2.lt;simp only [gz0,gs0] at z0 z1;clear b2
     go_simp
     exact hK _ _ (fun _ _=>rfl) (Mod.refl _ _)
    ·-- 5: t28:=CALL F42 (t27)
     intro yv w' hR hF K hK;have f4:(yv 4) = .agg #[.int .i64 (S:Int),.int .i64 (T:Int)]:=hF 4 (by kernel_rfl) w' (Mod.refl _ _);clear hF;generalize yv 4 = y4 at *;subst f4;have hc:=hIk.out w';replace hc:=Lib.hid hc
     go_simp
     go_at_call 42
     refine hc.out.mono ?_;rintro e w9 ⟨rfl,hm9⟩;exact hK _ _ (fun _ _=>rfl) hm9
    ·-- 6: t29:=CALL F41 (t26,t28)
     intro yv w' hR hF K hK;have f3:(yv 3) = ptr vb:=hF 3 (by kernel_rfl) w' (Mod.refl _ _);have f5:(yv 5) = .int .i64 (num:Int):=hF 5 (by kernel_rfl) w' (Mod.refl _ _);clear hF;generalize yv 3 = y3 at *;subst f3;generalize yv 5 = y5 at *;subst f5;have hc:=hGk.out w' (hmw.out.trans ((Mod.refl Nowhere _).drew.trans hR).nowhere);replace hc:=Lib.hid hc
     go_simp
     go_at_call 41
     refine hc.out.mono ?_;rintro e w9 ⟨u,rfl,hown,hm9⟩;obtain ⟨a,c,rfl,-⟩:=Zf hown;exact hK _ _ (fun W hW=>⟨a,c,rfl,DSl.fresh (Sl.of_owns hown) hW⟩) hm9
    ·-- 7: t22:=move(t29)
     intro yv w' hR hF K hK;have f6:∃ (a:Option Addr) (c:Nat),(yv 6) = .tuple #[.slice a (o.getD []).length c,.bool o.isSome]∧DSl w' (.slice a (o.getD []).length c) (o.getD []):=hF 6 (by kernel_rfl) w' (Mod.refl _ _);clear hF;generalize yv 6 = y6 at *;obtain ⟨a,c,rfl,hd⟩:=f6
     go_simp
     exact hK _ _ (fun W hW=>⟨a,c,rfl,hd.fresh hW⟩) (Mod.refl _ _)
    ·-- 8: t30:=extract(t22,0)
     intro yv w' hR hF K hK;have f7:∃ (a:Option Addr) (c:Nat),(yv 7) = .tuple #[.slice a (o.getD []).length c,.bool o.isSome]∧DSl w' (.slice a (o.getD []).length c) (o.getD []):=hF 7 (by kernel_rfl) w' (Mod.refl _ _);clear hF;generalize yv 7 = y7 at *;obtain ⟨a,c,rfl,hd⟩:=f7
     go_simp
     exact hK _ _ (fun W hW=>⟨a,c,rfl,hd.fresh hW⟩) (Mod.refl _ _)
    ·-- 9: t31:=extract(t22,1)
     intro yv w' hR hF K hK;have f7:∃ (a:Option Addr) (c:Nat),(yv 7) = .tuple #[.slice a (o.getD []).length c,.bool o.isSome]∧DSl w' (.slice a (o.getD []).length c) (o.getD []):=hF 7 (by kernel_rfl) w' (Mod.refl _ _);clear hF;generalize yv 7 = y7 at *;obtain ⟨a,c,rfl,hd⟩:=f7
     go_simp
     exact hK _ _ (fun _ _=>by simp) (Mod.refl _ _)
    ·-- 10: t5:=assign(t30)
     intro yv w' hR hF K hK;have f8:∃ (a:Option Addr) (c:Nat),(yv 8) = .slice a (o.getD []).length c∧DSl w' (.slice a (o.getD []).length c) (o.getD []):=hF 8 (by kernel_rfl) w' (Mod.refl _ _);have f6:∃ (a:Option Addr) (c:Nat),(yv 6) = .tuple #[.slice a (o.getD []).length c,.bool o.isSome]∧DSl w' (.slice a (o.getD []).length c) (o.getD []):=hF 6 (by kernel_rfl) w' (Mod.refl _ _);have f0:(yv 0) = ptr kb:=hF 0 (by kernel_rfl) w' (Mod.refl _ _);have f1:(yv 1) = ptr kb:=hF 1 (by kernel_rfl) w' (Mod.refl _ _);have f2:(yv 2) = .pointer (some ⟨kb,0,none⟩):=hF 2 (by kernel_rfl) w' (Mod.refl _ _);have f3:(yv 3) = ptr vb:=hF 3 (by kernel_rfl) w' (Mod.refl _ _)
     have f4:(yv 4) = .agg #[.int .i64 (S:Int),.int .i64 (T:Int)]:=hF 4 (by kernel_rfl) w' (Mod.refl _ _);have f5:(yv 5) = .int .i64 (num:Int):=hF 5 (by kernel_rfl) w' (Mod.refl _ _);have f7:∃ (a:Option Addr) (c:Nat),(yv 7) = .tuple #[.slice a (o.getD []).length c,.bool o.isSome]∧DSl w' (.slice a (o.getD []).length c) (o.getD []):=hF 7 (by kernel_rfl) w' (Mod.refl _ _);clear hF;generalize yv 8 = y8 at *;generalize yv 6 = y6 at *;generalize yv 0 = y0 at *;subst f0;generalize yv 1 = y1 at *;subst f1;generalize yv 2 = y2 at *;subst f2;generalize yv 3 = y3 at *;subst f3;generalize yv 4 = y4 at *
     subst f4;generalize yv 5 = y5 at *;subst f5;generalize yv 7 = y7 at *;obtain ⟨a,c,rfl,hd⟩:=f8
     go_simp
     exact hK _ _ (fun W hW=>⟨a,c,rfl,hd.fresh hW⟩) (Mod.refl _ _)
    ·-- 11: t6:=assign(t31)
     intro yv w' hR hF K hK;have f9:(yv 9) = .bool o.isSome:=hF 9 (by kernel_rfl) w' (Mod.refl _ _);have f10:∃ (a:Option Addr) (c:Nat),(yv 10) = .slice a (o.getD []).length c∧DSl w' (.slice a (o.getD []).length c) (o.getD []):=hF 10 (by kernel_rfl) w' (Mod.refl _ _);have f0:(yv 0) = ptr kb:=hF 0 (by kernel_rfl) w' (Mod.refl _ _);have f1:(yv 1) = ptr kb:=hF 1 (by kernel_rfl) w' (Mod.refl _ _);have f2:(yv 2) = .pointer (some ⟨kb,0,none⟩):=hF 2 (by kernel_rfl) w' (Mod.refl _ _);have f3:(yv 3) = ptr vb:=hF 3 (by kernel_rfl) w' (Mod.refl _ _);have f4:(yv 4) = .agg #[.int .i64 (S:Int),.int .i64 (T:Int)]:=hF 4 (by kernel_rfl) w' (Mod.refl _ _);have f5:(yv 5) = .int .i64 (num:Int):=hF 5 (by kernel_rfl) w' (Mod.refl _ _)
     have f6:∃ (a:Option Addr) (c:Nat),(yv 6) = .tuple #[.slice a (o.getD []).length c,.bool o.isSome]∧DSl w' (.slice a (o.getD []).length c) (o.getD []):=hF 6 (by kernel_rfl) w' (Mod.refl _ _);have f7:∃ (a:Option Addr) (c:Nat),(yv 7) = .tuple #[.slice a (o.getD []).length c,.bool o.isSome]∧DSl w' (.slice a (o.getD []).length c) (o.getD []):=hF 7 (by kernel_rfl) w' (Mod.refl _ _);have f8:∃ (a:Option Addr) (c:Nat),(yv 8) = .slice a (o.getD []).length c∧DSl w' (.slice a (o.getD []).length c) (o.getD []):=hF 8 (by kernel_rfl) w' (Mod.refl _ _);clear hF;generalize yv 9 = y9 at *
     subst f9;generalize yv 10 = y10 at *;generalize yv 0 = y0 at *;subst f0;generalize yv 1 = y1 at *;subst f1;generalize yv 2 = y2 at *;subst f2;generalize yv 3 = y3 at *;subst f3;generalize yv 4 = y4 at *;subst f4;generalize yv 5 = y5 at *;subst f5;generalize yv 6 = y6 at *;generalize yv 7 = y7 at *;generalize yv 8 = y8 at *
     go_simp
     exact hK _ _ (fun _ _=>by first | trivial | rfl | simp [*]) (Mod.refl _ _)
   case hE_ =>
    intro yv w' hR hF;have f0:(yv 0) = ptr kb:=hF 0 (by simp) w' (Mod.refl _ _);have f1:(yv 1) = ptr kb:=hF 1 (by simp) w' (Mod.refl _ _);have f2:(yv 2) = .pointer (some ⟨kb,0,none⟩):=hF 2 (by simp) w' (Mod.refl _ _);have f3:(yv 3) = ptr vb:=hF 3 (by simp) w' (Mod.refl _ _);have f4:(yv 4) = .agg #[.int .i64 (S:Int),.int .i64 (T:Int)]:=hF 4 (by simp) w' (Mod.refl _ _);have f5:(yv 5) = .int .i64 (num:Int):=hF 5 (by simp) w' (Mod.refl _ _);have f6:∃ (a:Option Addr) (c:Nat),(yv 6) = .tuple #[.slice a (o.getD []).length c,.bool o.isSome]∧DSl w' (.slice a (o.getD []).length c) (o.getD []):=hF 6 (by simp) w' (Mod.refl _ _);have f7:∃ (a:Option Addr) (c:Nat),(yv 7) = .tuple #[.slice a (o.getD []).length c,.bool o.isSome]∧DSl w' (.slice a (o.getD []).length c) (o.getD []):=hF 7 (by simp) w' (Mod.refl _ _)
    have f8:∃ (a:Option Addr) (c:Nat),(yv 8) = .slice a (o.getD []).length c∧DSl w' (.slice a (o.getD []).length c) (o.getD []):=hF 8 (by simp) w' (Mod.refl _ _);have f9:(yv 9) = .bool o.isSome:=hF 9 (by simp) w' (Mod.refl _ _);have f10:∃ (a:Option Addr) (c:Nat),(yv 10) = .slice a (o.getD []).length c∧DSl w' (.slice a (o.getD []).length c) (o.getD []):=hF 10 (by simp) w' (Mod.refl _ _);have f11:(yv 11) = .bool o.isSome:=hF 11 (by simp) w' (Mod.refl _ _);clear hF;generalize yv 0 = y0 at *;subst f0;generalize yv 1 = y1 at *;subst f1;generalize yv 2 = y2 at *;subst f2
    generalize yv 3 = y3 at *;subst f3;generalize yv 4 = y4 at *;subst f4;generalize yv 5 = y5 at *;subst f5;generalize yv 6 = y6 at *;generalize yv 7 = y7 at *;generalize yv 8 = y8 at *;generalize yv 9 = y9 at *;subst f9;generalize yv 10 = y10 at *;generalize yv 11 = y11 at *;subst f11;obtain ⟨a,c,rfl,hd⟩:=f10;clear f6 f7 f8;have hm7:=(Mod.refl Nowhere _).drew.trans hR;have hmx:=hmw.out.trans (hm7.nowhere (S:=OneB mb));have hmx':=hmw'.out.trans (hm7.nowhere (S:=OneB mb));have hKx:=hKA.out.fresh hm7;have hbx:=hbp.out.mod hm7 (fun e=>e);clear hR hmw hmw' hKA hbp hGk hIk hmA hm hm' hKL q1 q2 q3
    clear hm7;generalize wr.heap.size = pb at *
    cases hf:kfind L (S:Int) (T:Int) with
    | none =>
     obtain rfl:none = o:=by have:=ho.out;rw [hf] at this;exact this
     have hfin:=hKx.skip hL.out hlt hS.out hT.out hf;refine hid6 ?_ hmx hmx' hfin hKx hbx hd;clear hmx hmx' hfin hKx hbx hd;intro hmx hmx' hfin hKx hbx hd;go_wp2;go_roundw
     case rel=>exact ⟨k + 1,by omega,by go_num,⟨n,by omega,hfin.out⟩,hmx.out,hmx'.out⟩
     case measure=>simp [intOf];omega
    | some e =>
     obtain rfl:some (kB e) = o:=by have:=ho.out;rw [hf] at this;exact this
     have he:KOk e:=(Zp hL.out hf).2.1;have hlen:((some (kB e)).getD []).length = 18:=he.len;have hD:=Zb5 (v:=.slice a ((some (kB e)).getD []).length c) hd he;rw [hlen] at hD ⊢;have hev:=he.v16;clear hlen;refine hid9 ?_ hmx hmx' hKx hbx hd hD hev he hf;clear hmx hmx' hKx hbx hd hD hev he hf;intro hmx hmx' hKx hbx hd hD hev he hf;go_wp2_with fail;refine hD.out.mono ?_;rintro r w4 ⟨u,rfl,hdu,hm4⟩;obtain ⟨ua,uc,rfl,-⟩:=Sl.len hdu;rw [hev.out] at hdu ⊢;have hmA:=hm4.alloc (.cells #[.int .i64 (e.tries:Int),.int .i64 (e.lim:Int),.slice ua 16 uc] 93);have hb3:=Blk.new w4 [.int .i64 (e.tries:Int),.int .i64 (e.lim:Int),.slice ua 16 uc] 93;have hb2:=hbx.out.mod hmA (fun e=>e)
     have hmy:=hmx.out.trans (hmA.nowhere (S:=OneB mb));have hmy':=hmx'.out.trans (hmA.nowhere (S:=OneB mb));have hKy:=hKx.out.fresh hmA;have hdy:=hdu.fresh ((Mod.refl Nowhere w4).alloc (.cells #[.int .i64 (e.tries:Int),.int .i64 (e.lim:Int),.slice ua 16 uc] 93));clear hmA hbx hmx hmx' hKx hd hdu hm4 hD;have het:∃ t:Nat,e.tries = t:=⟨_,rfl⟩;have hel:∃ l:Nat,e.lim = l:=⟨_,rfl⟩;obtain ⟨et,het⟩:=het;obtain ⟨el,hel⟩:=hel;rw [het,hel] at hb3 hb2 hmy hmy' hKy hdy ⊢;refine hid8 ?_ hb3 hb2 hmy hmy' hKy hdy het hel;clear hb3 hb2 hmy hmy' hKy hdy het hel;intro hb3 hb2 hmy hmy' hKy hdy het hel
     go_wp2_with fail;refine ZD 6 (fun i v w'=>match i with | 0=>(v = ptr kb) | 1=>(v = ptr kb) | 2=>(v = .pointer (some ⟨kb,1,none⟩)) | 3=>(v = .map (some mb)) | 4=>(v = .agg #[.int .i64 (S:Int),.int .i64 (T:Int)]) | 5=>(v = .agg #[.int .i64 (et:Int),.int .i64 (el:Int),.slice ua 16 uc]) | _=>True) ?A_11_1 (by first | assumption | kernel_rfl) (by kernel_rfl) (by kernel_rfl) (by kernel_rfl) (by decide) ?hA_11_1 ?hS_11_1 ?hE_11_1
     case hA_11_1=>intro xs;simp [putAll,List.range,List.range.loop,Act.put] <;> rfl
     case hS_11_1 =>
      refine ⟨?_,?_,?_,?_,?_,?_,trivial⟩
      ·-- 0: t39:=move(t0)
       intro yv w' hR hF K hK;clear hF
       go_simp
       exact hK _ _ (fun _ _=>by first | trivial | rfl | simp [*]) (Mod.refl _ _)
      ·-- 1: t40:=nilCheck(t39)
       intro yv w' hR hF K hK;have f0:(yv 0) = ptr kb:=hF 0 (by kernel_rfl) w' (Mod.refl _ _);clear hF;generalize yv 0 = y0 at *;subst f0
       go_simp
       exact hK _ _ (fun _ _=>by first | trivial | rfl | simp [*]) (Mod.refl _ _)
      ·-- 2: t41:=fieldAddr(55,t40,1)
       intro yv w' hR hF K hK;have f1:(yv 1) = ptr kb:=hF 1 (by kernel_rfl) w' (Mod.refl _ _);clear hF;generalize yv 1 = y1 at *;subst f1
       go_simp
       exact hK _ _ (fun _ _=>by first | trivial | rfl | simp [*]) (Mod.refl _ _)
      ·-- 3: t42:=load(53,t41)
       intro yv w' hR hF K hK;have f2:(yv 2) = .pointer (some ⟨kb,1,none⟩):=hF 2 (by kernel_rfl) w' (Mod.refl _ _);clear hF;generalize yv 2 = y2 at *;subst f2;obtain ⟨z0,z1,zl⟩:=hKb.out w' (hmy.out.trans ((Mod.refl Nowhere _).drew.trans hR).nowhere)
       go_simp
       exact hK _ _ (fun _ _=>rfl) (Mod.refl _ _)
      ·-- 4: t43:=load(88,t4)
       intro yv w' hR hF K hK;clear hF;have b2:=hb2.out.mod ((Mod.refl Nowhere _).drew.trans hR) (fun e=>e);have z0:=b2.cell 0;have z1:=b2.cell 1;have zl:=b2.lt;simp only [gz0,gs0] at z0 z1;clear b2
       go_simp
       exact hK _ _ (fun _ _=>rfl) (Mod.refl _ _)
      ·-- 5: t44:=load(93,t7)
       intro yv w' hR hF K hK;clear hF;have b2:=hb3.out.mod ((Mod.refl Nowhere _).drew.trans hR) (fun e=>e);have z0:=b2.cell 0;have z1:=b2.cell 1;have z2:=b2.cell 2;have zl:=b2.lt;simp only [gz0,gs0] at z0 z1 z2;clear b2
       go_simp
       exact hK _ _ (fun _ _=>rfl) (Mod.refl _ _)
     case hE_11_1 =>
      intro yv w' hR hF;have f0:(yv 0) = ptr kb:=hF 0 (by simp) w' (Mod.refl _ _);have f1:(yv 1) = ptr kb:=hF 1 (by simp) w' (Mod.refl _ _);have f2:(yv 2) = .pointer (some ⟨kb,1,none⟩):=hF 2 (by simp) w' (Mod.refl _ _);have f3:(yv 3) = .map (some mb):=hF 3 (by simp) w' (Mod.refl _ _);have f4:(yv 4) = .agg #[.int .i64 (S:Int),.int .i64 (T:Int)]:=hF 4 (by simp) w' (Mod.refl _ _);have f5:(yv 5) = .agg #[.int .i64 (et:Int),.int .i64 (el:Int),.slice ua 16 uc]:=hF 5 (by simp) w' (Mod.refl _ _);clear hF;generalize yv 0 = y0 at *;subst f0;generalize yv 1 = y1 at *;subst f1
      generalize yv 2 = y2 at *;subst f2;generalize yv 3 = y3 at *;subst f3;generalize yv 4 = y4 at *;subst f4;generalize yv 5 = y5 at *;subst f5;simp only [List.drop_succ_cons,List.drop_zero];have hm7:=(Mod.refl Nowhere _).drew.trans hR;have hmz:=hmy.out.trans (hm7.nowhere (S:=OneB mb));have hmz':=hmy'.out.trans (hm7.nowhere (S:=OneB mb));obtain ⟨g,hK1,hK2⟩:=hKy.out.fresh hm7;have hdz:=hdy.out.fresh hm7;have hnum:e = ⟨e.set,e.kind,el,et,e.val⟩:=by rw [← het.out,← hel.out]
      clear hR hm7 hb3 hb2 hmy hmy' hKy hdy;refine Zfn rfl _ _ _ _ rfl _ Tryz.underlying53 mb n (S:Int) (T:Int) _ (.agg #[.int .i64 (et:Int),.int .i64 (el:Int),.slice ua 16 uc]) (by rfl) hK1 (by unfold maxLen;omega) (by rfl) (by rfl) (by have:=hS.out;unfold I64;omega) (by have:=hT.out;unfold I64;omega) ?_;intro w8 hK3 hm8;have hsh:Shun (fun j=>j = mb) w' 5:=fun k hk cs hb=>by rw [hk] at hb;exact Ze hK1.map hb
      have hev2:entV e (.slice ua 16 uc) = .agg #[.int .i64 (et:Int),.int .i64 (el:Int),.slice ua 16 uc]:=by unfold entV;rw [het.out,hel.out]
      rw [← hev2] at hK3;have hfin:=KLi.put hL.out hlt hS.out hT.out hf.out hK3 (fun x hx hp=>(hK2 x hx hp).mod hm8 hsh) (hdz.mod hm8 hsh);have hmq:=hmz.trans hm8;have hmq':=hmz'.trans hm8;clear hK1 hK2 hK3 hm8 hmz hmz' hdz hev2 hnum hsh;refine hid3 ?_ hfin hmq hmq';clear hfin hmq hmq';intro hfin hmq hmq';go_wp2;go_roundw
      case rel=>exact ⟨k + 1,by omega,by go_num,⟨n + 1,by omega,hfin.out⟩,hmq.out,hmq'.out⟩
      case measure=>simp [intOf];omega
  ·obtain rfl:k = 48:=by omega
   obtain ⟨g,hK1,hK2⟩:=hKL
   have hfin:KLk wr mb L:=by
    have hp:∀ {s j:Int} {e:KEn},kfind L s j = some e→pix s j < 48:=fun h=>by
     obtain ⟨-,ho,rfl,rfl⟩:=Zp hL.out h;obtain ⟨a1,a2,a3,a4,-⟩:=ho;unfold pix;omega
    refine ⟨n,g,hn,hK1.congr fun s j=>?_,fun e he=>hK2 e he ?_⟩
    ·cases hq:kfind L s j with
     | none=>split <;> rfl
     | some e=>rw [if_pos (hp hq)]
    ·exact hp (hL.out.find he)
   obtain ⟨q0,q1,q3⟩:=hKb.out wr hm;clear hK1 hK2;refine hid3 ?_ hfin hm hm';clear hfin hm hm';intro hfin hm hm';go_wp2;go_ret;exact ⟨rfl,hfin.out,hm.out⟩
end Go.Proofs.YtoehlaeaafalmaaGreat
