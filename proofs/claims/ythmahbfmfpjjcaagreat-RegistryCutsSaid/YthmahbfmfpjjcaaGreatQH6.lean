/-
  The registry: changing the state, moving.
-/
import Derived.Test.YthmahbfmfpjjcaaGreatQG73
import Derived.Test.YthmahbfmfpjjcaaGreatQIno
set_option linter.unusedVariables false
set_option linter.unusedSimpArgs false
set_option maxHeartbeats 8000000
set_option maxRecDepth 100000
namespace Go.Proofs.YthmahbfmfpjjcaaGreat
open Go.RowKit
open Jn Vn
attribute [local go_sem] Oper.semAt_some
theorem Zi1 (k f:Nat) (t:Int):appB k f t = Rg.appB k f t.toNat:=by
 unfold appB Rg.appB;by_cases hk:k = 1 ∨ k = 2
 ·have hh:∀ n:Int,hasB k n = (decide (2≤n) && decide (n≤5)):=by
   intro n;unfold hasB rws;rw [if_neg (by omega),if_neg (by omega),if_pos (by omega)];rw [Bool.eq_iff_iff];simp;omega
  rw [hh,hh,Bool.eq_iff_iff];simp [trs];omega
 ·have h1:decide ((k:Int) = 2) = false:=by simp;omega
  have h2:decide ((k:Int) = 1) = false:=by simp;omega
  have h3:decide (k = 2) = false:=by simp;omega
  have h4:decide (k = 1) = false:=by simp;omega
  rw [h1,h2,h3,h4]
  rfl
open Rg
theorem cStateW {W:World} {N B:Nat} {a1 a2:Option Addr} {n1 n2 c1 c2:Nat} {k st bf pr pk ob t:Int} {q:Bool} {R:Ending→World→Prop}
  (hq:∀ X,Calls Tryz.prog 64 #[.int .i64 k,.int .i64 st,.int .i64 t] X fun e w'=>e = .returned (.bool q)∧Mod Nowhere X w')
  (hno:(st = 5 ∨ t = 5 ∨ q = false)→∀ X,Mod Nowhere W X→R (.returned (errno 14)) X)
  (hyes:st ≠ 5→t ≠ 5→q = true→∀ w1 w',Mod Nowhere W w1→Mod (fun j=>j = N) w1 w'→Blk w' N [.slice a1 n1 c1,.int .i64 k,.int .i64 t,.int .i64 bf,.int .i64 pr,.slice a2 n2 c2,.int .i64 pk,.int .i64 ob] 24→R (.returned (errno 0)) w')
  (hb:Blk W N [.slice a1 n1 c1,.int .i64 k,.int .i64 st,.int .i64 bf,.int .i64 pr,.slice a2 n2 c2,.int .i64 pk,.int .i64 ob] 24) (hcl:∀ X,Mod Nowhere W X→X.cell? ⟨N,0,none⟩ = some (.slice a1 n1 c1)∧X.cell? ⟨N,1,none⟩ = some (.int .i64 k)∧X.cell? ⟨N,2,none⟩ = some (.int .i64 st)∧X.cell? ⟨N,3,none⟩ = some (.int .i64 bf)∧X.cell? ⟨N,4,none⟩ = some (.int .i64 pr)∧X.cell? ⟨N,5,none⟩ = some (.slice a2 n2 c2)∧X.cell? ⟨N,6,none⟩ = some (.int .i64 pk)∧X.cell? ⟨N,7,none⟩ = some (.int .i64 ob)∧N < X.heap.size∧X.cell? ⟨B,0,none⟩ = some (.int .i64 t)∧B < X.heap.size) :
  Calls Tryz.prog 63 #[ptr N,.pointer (some ⟨B,0,none⟩)] W R:=by
 have hd0:=(Mod.refl Nowhere W).drew;obtain ⟨z0,z1,z2,z3,z4,z5,z6,z7,zl,t0,tl⟩:=hcl W (Mod.refl _ _);by_cases s5:st = 5
 ·have hsb:(st == 5) = true:=by simpa using s5
  refine hid7 ?_ hq hno hyes hb hcl hd0 s5;clear hq hno hyes hb hcl hd0 s5;intro hq hno hyes hb hcl hd0 s5;go_enter Tryz.func63,Tryz.ntmps63;go_wp2_with fail;refine ZC (fun i v w'=>match i with | 0=>(v = .pointer (some ⟨N,0,none⟩)) | 1=>(v = .pointer (some ⟨N,0,none⟩)) | 2=>(v = .pointer (some ⟨N,2,none⟩)) | 3=>(v = .int .i64 st) | 4=>(v = .bool true) | 5=>(v = .bool true) | 8=>(v = .bool true) | 9=>(v = .bool true) | 21=>(v = .bool true) | _=>True) ?A_ (by first | assumption | kernel_rfl) (by kernel_rfl) (by kernel_rfl) ?hA_ ?hS_ ?hE_
  case hA_=>intro xs;simp [putAll,List.range,List.range.loop,Act.put] <;> rfl
  case hS_ =>
   refine ⟨?_,?_,?_,?_,?_,?_,?_,?_,?_,?_,?_,?_,?_,?_,?_,?_,?_,?_,?_,?_,?_,?_,trivial⟩
   ·-- 0: t4:=move(t0)
    intro yv w' hR hF K hK;clear hF
    go_simp
    exact hK _ _ (fun _ _=>by first | trivial | rfl | simp [*]) (Mod.refl _ _)
   ·-- 1: t5:=nilCheck(t4)
    intro yv w' hR hF K hK;have f0:(yv 0) = .pointer (some ⟨N,0,none⟩):=hF 0 (by kernel_rfl) w' (Mod.refl _ _);clear hF;generalize yv 0 = y0 at *;subst f0
    go_simp
    exact hK _ _ (fun _ _=>by first | trivial | rfl | simp [*]) (Mod.refl _ _)
   ·-- 2: t6:=fieldAddr(24,t5,2)
    intro yv w' hR hF K hK;have f1:(yv 1) = .pointer (some ⟨N,0,none⟩):=hF 1 (by kernel_rfl) w' (Mod.refl _ _);clear hF;generalize yv 1 = y1 at *;subst f1
    go_simp
    exact hK _ _ (fun _ _=>by first | trivial | rfl | simp [*]) (Mod.refl _ _)
   ·-- 3: t7:=load(3,t6)
    intro yv w' hR hF K hK;have f2:(yv 2) = .pointer (some ⟨N,2,none⟩):=hF 2 (by kernel_rfl) w' (Mod.refl _ _);clear hF;generalize yv 2 = y2 at *;subst f2;have hm1:=(Mod.refl Nowhere W).drew.trans hR;obtain ⟨x0,x1,x2,x3,x4,x5,x6,x7,xl,u0,ul⟩:=hcl.out w' hm1
    go_simp
    exact hK _ _ (fun _ _=>rfl) (Mod.refl _ _)
   ·-- 4: t8:=binOp(eql,3,t7,5:i64,3)
    intro yv w' hR hF K hK;have f3:(yv 3) = .int .i64 st:=hF 3 (by kernel_rfl) w' (Mod.refl _ _);clear hF;generalize yv 3 = y3 at *;subst f3
    go_simp
    exact hK _ _ (fun _ _=>by first | trivial | rfl | simp [*]) (Mod.refl _ _)
   ·-- 5: t9:=move(t8)
    intro yv w' hR hF K hK;have f4:(yv 4) = .bool true:=hF 4 (by kernel_rfl) w' (Mod.refl _ _);clear hF;generalize yv 4 = y4 at *;subst f4
    go_simp
    exact hK _ _ (fun _ _=>by first | trivial | rfl | simp [*]) (Mod.refl _ _)
   ·-- 6: t10:=load(3,t1)   [guard (5,false)]
    intro yv w' hR hF K hK;have f5:(yv 5) = .bool true:=hF 5 (by kernel_rfl) w' (Mod.refl _ _);clear hF;generalize yv 5 = y5 at *;subst f5
    go_simp
    exact hK _ _ (fun _ _=>by first | trivial | rfl | simp [*]) (Mod.refl _ _)
   ·-- 7: t11:=binOp(eql,3,t10,5:i64,3)   [guard (5,false)]
    intro yv w' hR hF K hK;have f5:(yv 5) = .bool true:=hF 5 (by kernel_rfl) w' (Mod.refl _ _);clear hF;generalize yv 5 = y5 at *;subst f5
    go_simp
    exact hK _ _ (fun _ _=>by first | trivial | rfl | simp [*]) (Mod.refl _ _)
   ·-- 8: t12:=pick(t9,const(Value.bool(true)),t11)
    intro yv w' hR hF K hK;have f5:(yv 5) = .bool true:=hF 5 (by kernel_rfl) w' (Mod.refl _ _);clear hF;generalize yv 5 = y5 at *;subst f5
    go_simp
    exact hK _ _ (fun _ _=>by first | trivial | rfl | simp [*]) (Mod.refl _ _)
   ·-- 9: t13:=move(t12)
    intro yv w' hR hF K hK;have f8:(yv 8) = .bool true:=hF 8 (by kernel_rfl) w' (Mod.refl _ _);have f5:(yv 5) = .bool true:=hF 5 (by kernel_rfl) w' (Mod.refl _ _);clear hF;generalize yv 8 = y8 at *;subst f8;generalize yv 5 = y5 at *;subst f5
    go_simp
    exact hK _ _ (fun _ _=>by first | trivial | rfl | simp [*]) (Mod.refl _ _)
   ·-- 10: t14:=move(t0)   [guard (9,false)]
    intro yv w' hR hF K hK;have f9:(yv 9) = .bool true:=hF 9 (by kernel_rfl) w' (Mod.refl _ _);clear hF;generalize yv 9 = y9 at *;subst f9
    go_simp
    exact hK _ _ (fun _ _=>by first | trivial | rfl | simp [*]) (Mod.refl _ _)
   ·-- 11: t15:=nilCheck(t14)   [guard (9,false)]
    intro yv w' hR hF K hK;have f9:(yv 9) = .bool true:=hF 9 (by kernel_rfl) w' (Mod.refl _ _);clear hF;generalize yv 9 = y9 at *;subst f9
    go_simp
    exact hK _ _ (fun _ _=>by first | trivial | rfl | simp [*]) (Mod.refl _ _)
   ·-- 12: t16:=fieldAddr(24,t15,1)   [guard (9,false)]
    intro yv w' hR hF K hK;have f9:(yv 9) = .bool true:=hF 9 (by kernel_rfl) w' (Mod.refl _ _);clear hF;generalize yv 9 = y9 at *;subst f9
    go_simp
    exact hK _ _ (fun _ _=>by first | trivial | rfl | simp [*]) (Mod.refl _ _)
   ·-- 13: t17:=load(3,t16)   [guard (9,false)]
    intro yv w' hR hF K hK;have f9:(yv 9) = .bool true:=hF 9 (by kernel_rfl) w' (Mod.refl _ _);clear hF;generalize yv 9 = y9 at *;subst f9
    go_simp
    exact hK _ _ (fun _ _=>by first | trivial | rfl | simp [*]) (Mod.refl _ _)
   ·-- 14: t18:=move(t0)   [guard (9,false)]
    intro yv w' hR hF K hK;have f9:(yv 9) = .bool true:=hF 9 (by kernel_rfl) w' (Mod.refl _ _);clear hF;generalize yv 9 = y9 at *;subst f9
    go_simp
    exact hK _ _ (fun _ _=>by first | trivial | rfl | simp [*]) (Mod.refl _ _)
   ·-- 15: t19:=nilCheck(t18)   [guard (9,false)]
    intro yv w' hR hF K hK;have f9:(yv 9) = .bool true:=hF 9 (by kernel_rfl) w' (Mod.refl _ _);clear hF;generalize yv 9 = y9 at *;subst f9
    go_simp
    exact hK _ _ (fun _ _=>by first | trivial | rfl | simp [*]) (Mod.refl _ _)
   ·-- 16: t20:=fieldAddr(24,t19,2)   [guard (9,false)]
    intro yv w' hR hF K hK;have f9:(yv 9) = .bool true:=hF 9 (by kernel_rfl) w' (Mod.refl _ _);clear hF;generalize yv 9 = y9 at *;subst f9
    go_simp
    exact hK _ _ (fun _ _=>by first | trivial | rfl | simp [*]) (Mod.refl _ _)
   ·-- 17: t21:=load(3,t20)   [guard (9,false)]
    intro yv w' hR hF K hK;have f9:(yv 9) = .bool true:=hF 9 (by kernel_rfl) w' (Mod.refl _ _);clear hF;generalize yv 9 = y9 at *;subst f9
    go_simp
    exact hK _ _ (fun _ _=>by first | trivial | rfl | simp [*]) (Mod.refl _ _)
   ·-- 18: t22:=load(3,t1)   [guard (9,false)]
    intro yv w' hR hF K hK;have f9:(yv 9) = .bool true:=hF 9 (by kernel_rfl) w' (Mod.refl _ _);clear hF;generalize yv 9 = y9 at *;subst f9
    go_simp
    exact hK _ _ (fun _ _=>by first | trivial | rfl | simp [*]) (Mod.refl _ _)
   ·-- 19: t23:=CALL F64 (t17,t21,t22)   [guard (9,false)]
    intro yv w' hR hF K hK;have f9:(yv 9) = .bool true:=hF 9 (by kernel_rfl) w' (Mod.refl _ _);clear hF;generalize yv 9 = y9 at *;subst f9
    go_simp
    exact hK _ _ (fun _ _=>by first | trivial | rfl | simp [*]) (Mod.refl _ _)
   ·-- 20: t24:=unOp(not,4,t23)   [guard (9,false)]
    intro yv w' hR hF K hK;have f9:(yv 9) = .bool true:=hF 9 (by kernel_rfl) w' (Mod.refl _ _);clear hF;generalize yv 9 = y9 at *;subst f9
    go_simp
    exact hK _ _ (fun _ _=>by first | trivial | rfl | simp [*]) (Mod.refl _ _)
   ·-- 21: t25:=pick(t13,const(Value.bool(true)),t24)
    intro yv w' hR hF K hK;have f9:(yv 9) = .bool true:=hF 9 (by kernel_rfl) w' (Mod.refl _ _);clear hF;generalize yv 9 = y9 at *;subst f9
    go_simp
    exact hK _ _ (fun _ _=>by first | trivial | rfl | simp [*]) (Mod.refl _ _)
  case hE_ =>
   intro yv w' hR hF;have f0:(yv 0) = .pointer (some ⟨N,0,none⟩):=hF 0 (by simp) w' (Mod.refl _ _);have f1:(yv 1) = .pointer (some ⟨N,0,none⟩):=hF 1 (by simp) w' (Mod.refl _ _);have f2:(yv 2) = .pointer (some ⟨N,2,none⟩):=hF 2 (by simp) w' (Mod.refl _ _);have f3:(yv 3) = .int .i64 st:=hF 3 (by simp) w' (Mod.refl _ _);have f4:(yv 4) = .bool true:=hF 4 (by simp) w' (Mod.refl _ _);have f5:(yv 5) = .bool true:=hF 5 (by simp) w' (Mod.refl _ _);have f8:(yv 8) = .bool true:=hF 8 (by simp) w' (Mod.refl _ _);have f9:(yv 9) = .bool true:=hF 9 (by simp) w' (Mod.refl _ _);have f21:(yv 21) = .bool true:=hF 21 (by simp) w' (Mod.refl _ _)
   clear hF;generalize yv 0 = y0 at *;subst f0;generalize yv 1 = y1 at *;subst f1;generalize yv 2 = y2 at *;subst f2;generalize yv 3 = y3 at *;subst f3;generalize yv 4 = y4 at *;subst f4;generalize yv 5 = y5 at *;subst f5;generalize yv 8 = y8 at *;subst f8;generalize yv 9 = y9 at *;subst f9;generalize yv 21 = y21 at *;subst f21;have hfin:=hno.out (.inl s5.out) _ ((Mod.refl Nowhere W).drew.trans hR);replace hfin:=Lib.hid hfin;go_wp2;exact hfin.out
 have hsb:(st == 5) = false:=by simpa using s5
 by_cases t5:t = 5
 ·have htb:(t == 5) = true:=by simpa using t5
  refine hid8 ?_ hq hno hyes hb hcl hd0 s5 t5;clear hq hno hyes hb hcl hd0 s5 t5;intro hq hno hyes hb hcl hd0 s5 t5;go_enter Tryz.func63,Tryz.ntmps63;go_wp2_with fail;refine ZC (fun i v w'=>match i with | 0=>(v = .pointer (some ⟨N,0,none⟩)) | 1=>(v = .pointer (some ⟨N,0,none⟩)) | 2=>(v = .pointer (some ⟨N,2,none⟩)) | 3=>(v = .int .i64 st) | 4=>(v = .bool false) | 5=>(v = .bool false) | 6=>(v = .int .i64 t) | 7=>(v = .bool true) | 8=>(v = .bool true) | 9=>(v = .bool true) | 21=>(v = .bool true) | _=>True) ?A_ (by first | assumption | kernel_rfl) (by kernel_rfl) (by kernel_rfl) ?hA_ ?hS_ ?hE_
  case hA_=>intro xs;simp [putAll,List.range,List.range.loop,Act.put] <;> rfl
  case hS_ =>
   refine ⟨?_,?_,?_,?_,?_,?_,?_,?_,?_,?_,?_,?_,?_,?_,?_,?_,?_,?_,?_,?_,?_,?_,trivial⟩
   ·-- 0: t4:=move(t0)
    intro yv w' hR hF K hK;clear hF
    go_simp
    exact hK _ _ (fun _ _=>by first | trivial | rfl | simp [*]) (Mod.refl _ _)
   ·-- 1: t5:=nilCheck(t4)
    intro yv w' hR hF K hK;have f0:(yv 0) = .pointer (some ⟨N,0,none⟩):=hF 0 (by kernel_rfl) w' (Mod.refl _ _);clear hF;generalize yv 0 = y0 at *;subst f0
    go_simp
    exact hK _ _ (fun _ _=>by first | trivial | rfl | simp [*]) (Mod.refl _ _)
   ·-- 2: t6:=fieldAddr(24,t5,2)
    intro yv w' hR hF K hK;have f1:(yv 1) = .pointer (some ⟨N,0,none⟩):=hF 1 (by kernel_rfl) w' (Mod.refl _ _);clear hF;generalize yv 1 = y1 at *;subst f1
    go_simp
    exact hK _ _ (fun _ _=>by first | trivial | rfl | simp [*]) (Mod.refl _ _)
   ·-- 3: t7:=load(3,t6)
    intro yv w' hR hF K hK;have f2:(yv 2) = .pointer (some ⟨N,2,none⟩):=hF 2 (by kernel_rfl) w' (Mod.refl _ _);clear hF;generalize yv 2 = y2 at *;subst f2;have hm1:=(Mod.refl Nowhere W).drew.trans hR;obtain ⟨x0,x1,x2,x3,x4,x5,x6,x7,xl,u0,ul⟩:=hcl.out w' hm1
    go_simp
    exact hK _ _ (fun _ _=>rfl) (Mod.refl _ _)
   ·-- 4: t8:=binOp(eql,3,t7,5:i64,3)
    intro yv w' hR hF K hK;have f3:(yv 3) = .int .i64 st:=hF 3 (by kernel_rfl) w' (Mod.refl _ _);clear hF;generalize yv 3 = y3 at *;subst f3
    go_simp
    exact hK _ _ (fun _ _=>by first | trivial | rfl | simp [*]) (Mod.refl _ _)
   ·-- 5: t9:=move(t8)
    intro yv w' hR hF K hK;have f4:(yv 4) = .bool false:=hF 4 (by kernel_rfl) w' (Mod.refl _ _);clear hF;generalize yv 4 = y4 at *;subst f4
    go_simp
    exact hK _ _ (fun _ _=>by first | trivial | rfl | simp [*]) (Mod.refl _ _)
   ·-- 6: t10:=load(3,t1)   [guard (5,false)]
    intro yv w' hR hF K hK;have f5:(yv 5) = .bool false:=hF 5 (by kernel_rfl) w' (Mod.refl _ _);clear hF;generalize yv 5 = y5 at *;subst f5;have hm1:=(Mod.refl Nowhere W).drew.trans hR;obtain ⟨x0,x1,x2,x3,x4,x5,x6,x7,xl,u0,ul⟩:=hcl.out w' hm1
    go_simp
    exact hK _ _ (fun _ _=>rfl) (Mod.refl _ _)
   ·-- 7: t11:=binOp(eql,3,t10,5:i64,3)   [guard (5,false)]
    intro yv w' hR hF K hK;have f6:(yv 6) = .int .i64 t:=hF 6 (by kernel_rfl) w' (Mod.refl _ _);have f5:(yv 5) = .bool false:=hF 5 (by kernel_rfl) w' (Mod.refl _ _);clear hF;generalize yv 6 = y6 at *;subst f6;generalize yv 5 = y5 at *;subst f5
    go_simp
    exact hK _ _ (fun _ _=>by first | trivial | rfl | simp [*]) (Mod.refl _ _)
   ·-- 8: t12:=pick(t9,const(Value.bool(true)),t11)
    intro yv w' hR hF K hK;have f5:(yv 5) = .bool false:=hF 5 (by kernel_rfl) w' (Mod.refl _ _);have f7:(yv 7) = .bool true:=hF 7 (by kernel_rfl) w' (Mod.refl _ _);clear hF;generalize yv 5 = y5 at *;subst f5;generalize yv 7 = y7 at *;subst f7
    go_simp
    exact hK _ _ (fun _ _=>by first | trivial | rfl | simp [*]) (Mod.refl _ _)
   ·-- 9: t13:=move(t12)
    intro yv w' hR hF K hK;have f8:(yv 8) = .bool true:=hF 8 (by kernel_rfl) w' (Mod.refl _ _);have f5:(yv 5) = .bool false:=hF 5 (by kernel_rfl) w' (Mod.refl _ _);clear hF;generalize yv 8 = y8 at *;subst f8;generalize yv 5 = y5 at *;subst f5
    go_simp
    exact hK _ _ (fun _ _=>by first | trivial | rfl | simp [*]) (Mod.refl _ _)
   ·-- 10: t14:=move(t0)   [guard (9,false)]
    intro yv w' hR hF K hK;have f9:(yv 9) = .bool true:=hF 9 (by kernel_rfl) w' (Mod.refl _ _);clear hF;generalize yv 9 = y9 at *;subst f9
    go_simp
    exact hK _ _ (fun _ _=>by first | trivial | rfl | simp [*]) (Mod.refl _ _)
   ·-- 11: t15:=nilCheck(t14)   [guard (9,false)]
    intro yv w' hR hF K hK;have f9:(yv 9) = .bool true:=hF 9 (by kernel_rfl) w' (Mod.refl _ _);clear hF;generalize yv 9 = y9 at *;subst f9
    go_simp
    exact hK _ _ (fun _ _=>by first | trivial | rfl | simp [*]) (Mod.refl _ _)
   ·-- 12: t16:=fieldAddr(24,t15,1)   [guard (9,false)]
    intro yv w' hR hF K hK;have f9:(yv 9) = .bool true:=hF 9 (by kernel_rfl) w' (Mod.refl _ _);clear hF;generalize yv 9 = y9 at *;subst f9
    go_simp
    exact hK _ _ (fun _ _=>by first | trivial | rfl | simp [*]) (Mod.refl _ _)
   ·-- 13: t17:=load(3,t16)   [guard (9,false)]
    intro yv w' hR hF K hK;have f9:(yv 9) = .bool true:=hF 9 (by kernel_rfl) w' (Mod.refl _ _);clear hF;generalize yv 9 = y9 at *;subst f9
    go_simp
    exact hK _ _ (fun _ _=>by first | trivial | rfl | simp [*]) (Mod.refl _ _)
   ·-- 14: t18:=move(t0)   [guard (9,false)]
    intro yv w' hR hF K hK;have f9:(yv 9) = .bool true:=hF 9 (by kernel_rfl) w' (Mod.refl _ _);clear hF;generalize yv 9 = y9 at *;subst f9
    go_simp
    exact hK _ _ (fun _ _=>by first | trivial | rfl | simp [*]) (Mod.refl _ _)
   ·-- 15: t19:=nilCheck(t18)   [guard (9,false)]
    intro yv w' hR hF K hK;have f9:(yv 9) = .bool true:=hF 9 (by kernel_rfl) w' (Mod.refl _ _);clear hF;generalize yv 9 = y9 at *;subst f9
    go_simp
    exact hK _ _ (fun _ _=>by first | trivial | rfl | simp [*]) (Mod.refl _ _)
   ·-- 16: t20:=fieldAddr(24,t19,2)   [guard (9,false)]
    intro yv w' hR hF K hK;have f9:(yv 9) = .bool true:=hF 9 (by kernel_rfl) w' (Mod.refl _ _);clear hF;generalize yv 9 = y9 at *;subst f9
    go_simp
    exact hK _ _ (fun _ _=>by first | trivial | rfl | simp [*]) (Mod.refl _ _)
   ·-- 17: t21:=load(3,t20)   [guard (9,false)]
    intro yv w' hR hF K hK;have f9:(yv 9) = .bool true:=hF 9 (by kernel_rfl) w' (Mod.refl _ _);clear hF;generalize yv 9 = y9 at *;subst f9
    go_simp
    exact hK _ _ (fun _ _=>by first | trivial | rfl | simp [*]) (Mod.refl _ _)
   ·-- 18: t22:=load(3,t1)   [guard (9,false)]
    intro yv w' hR hF K hK;have f9:(yv 9) = .bool true:=hF 9 (by kernel_rfl) w' (Mod.refl _ _);clear hF;generalize yv 9 = y9 at *;subst f9
    go_simp
    exact hK _ _ (fun _ _=>by first | trivial | rfl | simp [*]) (Mod.refl _ _)
   ·-- 19: t23:=CALL F64 (t17,t21,t22)   [guard (9,false)]
    intro yv w' hR hF K hK;have f9:(yv 9) = .bool true:=hF 9 (by kernel_rfl) w' (Mod.refl _ _);clear hF;generalize yv 9 = y9 at *;subst f9
    go_simp
    exact hK _ _ (fun _ _=>by first | trivial | rfl | simp [*]) (Mod.refl _ _)
   ·-- 20: t24:=unOp(not,4,t23)   [guard (9,false)]
    intro yv w' hR hF K hK;have f9:(yv 9) = .bool true:=hF 9 (by kernel_rfl) w' (Mod.refl _ _);clear hF;generalize yv 9 = y9 at *;subst f9
    go_simp
    exact hK _ _ (fun _ _=>by first | trivial | rfl | simp [*]) (Mod.refl _ _)
   ·-- 21: t25:=pick(t13,const(Value.bool(true)),t24)
    intro yv w' hR hF K hK;have f9:(yv 9) = .bool true:=hF 9 (by kernel_rfl) w' (Mod.refl _ _);clear hF;generalize yv 9 = y9 at *;subst f9
    go_simp
    exact hK _ _ (fun _ _=>by first | trivial | rfl | simp [*]) (Mod.refl _ _)
  case hE_ =>
   intro yv w' hR hF;have f0:(yv 0) = .pointer (some ⟨N,0,none⟩):=hF 0 (by simp) w' (Mod.refl _ _);have f1:(yv 1) = .pointer (some ⟨N,0,none⟩):=hF 1 (by simp) w' (Mod.refl _ _);have f2:(yv 2) = .pointer (some ⟨N,2,none⟩):=hF 2 (by simp) w' (Mod.refl _ _);have f3:(yv 3) = .int .i64 st:=hF 3 (by simp) w' (Mod.refl _ _);have f4:(yv 4) = .bool false:=hF 4 (by simp) w' (Mod.refl _ _);have f5:(yv 5) = .bool false:=hF 5 (by simp) w' (Mod.refl _ _);have f6:(yv 6) = .int .i64 t:=hF 6 (by simp) w' (Mod.refl _ _);have f7:(yv 7) = .bool true:=hF 7 (by simp) w' (Mod.refl _ _);have f8:(yv 8) = .bool true:=hF 8 (by simp) w' (Mod.refl _ _)
   have f9:(yv 9) = .bool true:=hF 9 (by simp) w' (Mod.refl _ _);have f21:(yv 21) = .bool true:=hF 21 (by simp) w' (Mod.refl _ _);clear hF;generalize yv 0 = y0 at *;subst f0;generalize yv 1 = y1 at *;subst f1;generalize yv 2 = y2 at *;subst f2;generalize yv 3 = y3 at *;subst f3;generalize yv 4 = y4 at *;subst f4;generalize yv 5 = y5 at *;subst f5;generalize yv 6 = y6 at *;subst f6;generalize yv 7 = y7 at *;subst f7;generalize yv 8 = y8 at *;subst f8;generalize yv 9 = y9 at *;subst f9;generalize yv 21 = y21 at *;subst f21;have hfin:=hno.out (.inr (.inl t5.out)) _ ((Mod.refl Nowhere W).drew.trans hR);replace hfin:=Lib.hid hfin
   go_wp2;exact hfin.out
 have htb:(t == 5) = false:=by simpa using t5
 cases q
 ·refine hid8 ?_ hq hno hyes hb hcl hd0 s5 t5;clear hq hno hyes hb hcl hd0 s5 t5;intro hq hno hyes hb hcl hd0 s5 t5;go_enter Tryz.func63,Tryz.ntmps63;go_wp2_with fail
  go_region_held3 (fun W=>W.cell? ⟨N,0,none⟩ = some (.slice a1 n1 c1)∧W.cell? ⟨N,1,none⟩ = some (.int .i64 k)∧W.cell? ⟨N,2,none⟩ = some (.int .i64 st)∧W.cell? ⟨N,3,none⟩ = some (.int .i64 bf)∧W.cell? ⟨N,4,none⟩ = some (.int .i64 pr)∧W.cell? ⟨N,5,none⟩ = some (.slice a2 n2 c2)∧W.cell? ⟨N,6,none⟩ = some (.int .i64 pk)∧W.cell? ⟨N,7,none⟩ = some (.int .i64 ob)∧W.cell? ⟨B,0,none⟩ = some (.int .i64 t)) (simp [*,World.cell?_alloc_some,World.cell?_setCell_far,World.cell?_setCell_other])
   (first | (go_at_call 64;(with_reducible refine (hq.out _).mono ?_);rintro e v1 ⟨rfl,hmA⟩;have hp1:=hd0.out.trans hmA;obtain ⟨y0,y1,y2,y3,y4,y5,y6,y7,y8,y9,y10⟩:=hcl.out v1 hp1;replace hp1:=Lib.hid hp1;replace hmA:=Lib.hid hmA) | fail)
  have hfin:=hno.out (.inr (.inr (by first | rfl | trivial))) _ hp1.out;replace hfin:=Lib.hid hfin;go_wp2;exact hfin.out
 ·refine hid8 ?_ hq hno hyes hb hcl hd0 s5 t5;clear hq hno hyes hb hcl hd0 s5 t5;intro hq hno hyes hb hcl hd0 s5 t5;go_enter Tryz.func63,Tryz.ntmps63;go_wp2_with fail
  go_region_held3 (fun W=>W.cell? ⟨N,0,none⟩ = some (.slice a1 n1 c1)∧W.cell? ⟨N,1,none⟩ = some (.int .i64 k)∧W.cell? ⟨N,2,none⟩ = some (.int .i64 st)∧W.cell? ⟨N,3,none⟩ = some (.int .i64 bf)∧W.cell? ⟨N,4,none⟩ = some (.int .i64 pr)∧W.cell? ⟨N,5,none⟩ = some (.slice a2 n2 c2)∧W.cell? ⟨N,6,none⟩ = some (.int .i64 pk)∧W.cell? ⟨N,7,none⟩ = some (.int .i64 ob)∧W.cell? ⟨B,0,none⟩ = some (.int .i64 t)) (simp [*,World.cell?_alloc_some,World.cell?_setCell_far,World.cell?_setCell_other])
   (first | (go_at_call 64;(with_reducible refine (hq.out _).mono ?_);rintro e v1 ⟨rfl,hmA⟩;have hp1:=hd0.out.trans hmA;obtain ⟨y0,y1,y2,y3,y4,y5,y6,y7,y8,y9,y10⟩:=hcl.out v1 hp1;replace hp1:=Lib.hid hp1;replace hmA:=Lib.hid hmA) | fail)
  have bT:=hb.out.mod hp1.out id;have f2:=bT.frozen 2;have hb2:=bT.setCell 2 (.int .i64 t);have hm2:Mod (fun j=>j = N) v1 (v1.setCell ⟨N,2,none⟩ (.int .i64 t)):=(Mod.refl (fun j=>j = N) v1).setCell (p:=⟨N,2,none⟩) (fun _=>rfl) _;have hfin:=hyes.out s5.out t5.out (by first | rfl | trivial) _ _ hp1.out hm2 hb2;clear hb2 hm2;refine hid2 ?_ hfin bT;clear hfin bT;intro hfin bT;go_wp2;exact hfin.out
theorem Zi2 {W:World} {N:Nat} {u v:Value} {en:En} (hb:Blk W N (eCells u v en.raw) 24) (hx:CE W u v en) {B:Nat} {t:Int} (hc:W.cell? ⟨B,0,none⟩ = some (.int .i64 t)) (hB:B < W.heap.size) :
  Calls Tryz.prog 63 #[ptr N,.pointer (some ⟨B,0,none⟩)] W (ChPost W N (fState t.toNat en)):=by
 have hq:=fun X=>Zi0 (w:=X) en.kind en.st t;rw [Zi1] at hq;have hno:(en.st = 5 ∨ t.toNat = 5 ∨ Rg.appB en.kind en.st t.toNat = false)→∀ X,Mod Nowhere W X→ChPost W N (fState t.toNat en) (.returned (errno 14)) X:=fun h X hm=>by rw [ZaZ h];exact ChPost.no (by decide) hm
 have hyes:en.st ≠ 5→t.toNat ≠ 5→Rg.appB en.kind en.st t.toNat = true→∀ w1 w',Mod Nowhere W w1→Mod (fun j=>j = N) w1 w'→Blk w' N (eCells u v ({ en with st:=t.toNat }:En).raw) 24→ChPost W N (fState t.toNat en) (.returned (errno 0)) w':=fun h1 h2 h3 w1 w' m1 m2 hb'=>by
  rw [Za0 h1 h2 h3];exact ChPost.yes hx hb rfl rfl m1 m2 hb'
 have hnn:Rg.appB en.kind en.st t.toNat = true→((t.toNat:Nat):Int) = t:=fun h=>by
  unfold Rg.appB at h;simp only [Bool.and_eq_true,Bool.or_eq_true,decide_eq_true_eq] at h;omega
 have hcl:∀ X,Mod Nowhere W X→X.cell? ⟨N,0,none⟩ = some u∧X.cell? ⟨N,1,none⟩ = some (.int .i64 en.kind)∧X.cell? ⟨N,2,none⟩ = some (.int .i64 en.st)∧X.cell? ⟨N,3,none⟩ = some (.int .i64 en.bf)∧X.cell? ⟨N,4,none⟩ = some (.int .i64 en.pr)∧X.cell? ⟨N,5,none⟩ = some v∧X.cell? ⟨N,6,none⟩ = some (.int .i64 en.pk)∧X.cell? ⟨N,7,none⟩ = some (.int .i64 en.ob)∧N < X.heap.size∧X.cell? ⟨B,0,none⟩ = some (.int .i64 t)∧B < X.heap.size:=fun X hm=>by
  have Y:=hb.mod hm id;exact ⟨Y.cell 0,Y.cell 1,Y.cell 2,Y.cell 3,Y.cell 4,Y.cell 5,Y.cell 6,Y.cell 7,Y.lt,(hm.cell (p:=⟨B,0,none⟩) hB id).trans hc,Nat.lt_of_lt_of_le hB hm.size⟩
 obtain ⟨a1,c1,rfl,-⟩:=hx.inE.sa;obtain ⟨a2,c2,rfl,-⟩:=hx.inE.sd;refine cStateW hq (fun h=>hno ?_) (fun h1 h2 h3 w1 w' m1 m2 hb'=>hyes (by omega) (by have:=hnn h3;omega) h3 w1 w' m1 m2 ?_) hb hcl
 ·rcases h with h | h | h
  ·exact .inl (by omega)
  ·exact .inr (.inl (by omega))
  ·exact .inr (.inr h)
 ·have:=hnn h3;unfold eCells En.raw;dsimp only;rw [this];exact hb'
theorem Zi3 {w:World} {rb:Nat} {A:VAt} {m:Mem} {s:VSt} {M:Md} (h:RgM w rb A m s M) {t:Value} {a:List Nat} (ht:Src w t a) (ba:Bytes a) (hrm:Room m (vcost A)) (x:Int) :
  Calls Tryz.prog 21 #[ptr rb,t,.int .i64 x] w (RCall w A m s { M with now:=(rChange M.now a (fState x.toNat)).1 } (rChange M.now a (fState x.toNat)).2):=by
 have hm1:=m1 w [.int .i64 x] 3;have hB:=blk_a (w:=w) [.int .i64 x] 3
 have hC:=Js (h.fresh hm1) (ht.fresh hm1) ba hrm (fState x.toNat) 63 #[.pointer (some ⟨w.heap.size,0,none⟩)] (enters_of Tryz.func63 (by kernel_rfl) rfl) (ZaW _) (ZaU h.inv a _)
  fun en hen W N u v hm hN hb hx=>Zi2 hb hx (by have:=(hB W hm).cell 0;simpa using this) (hB W hm).lt
 have hfr:∀ e w',RCall (w.alloc (.cells #[.int .i64 x] 3)) A m s { M with now:=(rChange M.now a (fState x.toNat)).1 } (rChange M.now a (fState x.toNat)).2 e w'→(∃ n:Nat,e = .returned (errno n))∧RCall w A m s { M with now:=(rChange M.now a (fState x.toNat)).1 } (rChange M.now a (fState x.toNat)).2 e w':=fun e w' hc=>⟨hc.errno,hc.from hm1⟩;obtain ⟨ta,tc,rfl,-⟩:=ht;generalize RCall w A m s { M with now:=(rChange M.now a (fState x.toNat)).1 } (rChange M.now a (fState x.toNat)).2 = R at *;generalize a.length = n at *;clear h hB;refine hid3 ?_ hC hfr hm1;clear hC hfr hm1;intro hC hfr hm1
 go_enter Tryz.func21,Tryz.ntmps21;go_wp2_with fail;refine (hC.out).mono ?_;rintro e w1 hc;obtain ⟨⟨ne,rfl⟩,hfin⟩:=hfr.out _ _ hc;refine hid2 ?_ hfin hc;clear hfin hc;intro hfin hc;go_wp2;exact hfin.out
end Go.Proofs.YthmahbfmfpjjcaaGreat
namespace Go.Proofs.YthmahbfmfpjjcaaGreat
open Go.RowKit
open Jn Vn Rg
attribute [local go_sem] Oper.semAt_some
theorem cMoveW {W:World} {N B D rb:Nat} {a1 a2 a3:Option Addr} {n1 n2 n3 c1 c2 c3:Nat} {k st bf pr pk ob:Int} {q:Bool} {R:Ending→World→Prop}
  (hq:∀ X,Mod Nowhere W X→Calls Tryz.prog 54 #[ptr rb,.slice a3 n3 c3] X fun e w'=>e = .returned (.bool q)∧Mod Nowhere X w')
  (h22:k = 1→∀ X,Mod Nowhere W X→R (.returned (errno 22)) X)
  (h12:k ≠ 1→q = false→∀ X,Mod Nowhere W X→R (.returned (errno 12)) X)
  (hyes:k ≠ 1→q = true→∀ w1 w',Mod Nowhere W w1→Mod (fun j=>j = N) w1 w'→Blk w' N [.slice a1 n1 c1,.int .i64 k,.int .i64 st,.int .i64 bf,.int .i64 pr,.slice a3 n3 c3,.int .i64 pk,.int .i64 ob] 24→R (.returned (errno 0)) w')
  (hb:Blk W N [.slice a1 n1 c1,.int .i64 k,.int .i64 st,.int .i64 bf,.int .i64 pr,.slice a2 n2 c2,.int .i64 pk,.int .i64 ob] 24) (hcl:∀ X,Mod Nowhere W X→X.cell? ⟨N,0,none⟩ = some (.slice a1 n1 c1)∧X.cell? ⟨N,1,none⟩ = some (.int .i64 k)∧X.cell? ⟨N,2,none⟩ = some (.int .i64 st)∧X.cell? ⟨N,3,none⟩ = some (.int .i64 bf)∧X.cell? ⟨N,4,none⟩ = some (.int .i64 pr)∧X.cell? ⟨N,5,none⟩ = some (.slice a2 n2 c2)∧X.cell? ⟨N,6,none⟩ = some (.int .i64 pk)∧X.cell? ⟨N,7,none⟩ = some (.int .i64 ob)∧N < X.heap.size∧X.cell? ⟨B,0,none⟩ = some (ptr rb)∧B < X.heap.size∧X.cell? ⟨D,0,none⟩ = some (.slice a3 n3 c3)∧D < X.heap.size) :
  Calls Tryz.prog 66 #[ptr N,.pointer (some ⟨B,0,none⟩),.pointer (some ⟨D,0,none⟩)] W R:=by
 obtain ⟨z0,z1,z2,z3,z4,z5,z6,z7,zl,t0,tl,u0,ul⟩:=hcl W (Mod.refl _ _);by_cases k1:k = 1
 ·have kb:(k == 1) = true:=by simpa using k1
  have hfin:=h22 k1 _ (Mod.refl _ _);refine hid8 ?_ hq h22 h12 hyes hb hcl hfin k1;clear hq h22 h12 hyes hb hcl hfin k1;intro hq h22 h12 hyes hb hcl hfin k1;go_enter Tryz.func66,Tryz.ntmps66;go_wp2;exact hfin.out
 have kb:(k == 1) = false:=by simpa using k1
 refine hid7 ?_ hq h22 h12 hyes hb hcl k1;clear hq h22 h12 hyes hb hcl k1;intro hq h22 h12 hyes hb hcl k1;go_enter Tryz.func66,Tryz.ntmps66;go_wp2_with fail;refine (hq.out _ (Mod.refl _ _)).mono ?_;rintro e v1 ⟨rfl,hm1⟩;obtain ⟨y0,y1,y2,y3,y4,y5,y6,y7,yl,s0,sl,x0,xl⟩:=hcl.out v1 hm1
 cases q
 ·have hfin:=h12.out k1.out rfl _ hm1;refine hid2 ?_ hfin hm1;clear hfin hm1;intro hfin hm1;go_wp2;exact hfin.out
 ·have bT:=hb.out.mod hm1 id;have f5:=bT.frozen 5;have hb2:=bT.setCell 5 (.slice a3 n3 c3);have hm2:Mod (fun j=>j = N) v1 (v1.setCell ⟨N,5,none⟩ (.slice a3 n3 c3)):=(Mod.refl (fun j=>j = N) v1).setCell (p:=⟨N,5,none⟩) (fun _=>rfl) _;have hfin:=hyes.out k1.out rfl _ _ hm1 hm2 hb2;clear hb2 hm2;refine hid3 ?_ hfin bT hm1;clear hfin bT hm1;intro hfin bT hm1;go_wp2;exact hfin.out
theorem Zi4 {l:List En} {g:List Nat} {en:En} (h:en.kind = 1):fMove l g en = (en,22):=by unfold fMove;rw [if_pos h]
theorem Zi5 {l:List En} {g:List Nat} {en:En} (h:en.kind ≠ 1) (h2:l.any (isDom g) = false):fMove l g en = (en,12):=by unfold fMove;rw [if_neg h,if_pos h2]
theorem Zi6 {l:List En} {g:List Nat} {en:En} (h:en.kind ≠ 1) (h2:l.any (isDom g) = true):fMove l g en = ({ en with dom:=g },0):=by unfold fMove;rw [if_neg h,if_neg (by rw [h2];decide)]
theorem Zi7 {w W:World} {N rb:Nat} {A:VAt} {m:Mem} {s:VSt} {l:List En} (h:Reg W rb A m s l) (hm:Mod Nowhere w W) (hN:w.heap.size≤N) {u v d:Value} {g:List Nat} {en:En} (hd:Src w d g) (bg:Bytes g) (hb:Blk W N (eCells u v en.raw) 24) (hx:CE W u v en) {B D:Nat}
  (hcB:W.cell? ⟨B,0,none⟩ = some (ptr rb)) (hB:B < W.heap.size) (hcD:W.cell? ⟨D,0,none⟩ = some d) (hD:D < W.heap.size) :
  Calls Tryz.prog 66 #[ptr N,.pointer (some ⟨B,0,none⟩),.pointer (some ⟨D,0,none⟩)] W (ChPost W N (fMove l g en)):=by
 have hq:∀ X,Mod Nowhere W X→Calls Tryz.prog 54 #[ptr rb,d] X fun e w'=>e = .returned (.bool (l.any (isDom g)))∧Mod Nowhere X w':=fun X hx=>ZcX (h.fresh hx) (hd.fresh (hm.trans hx)) bg;have h22:en.kind = 1→∀ X,Mod Nowhere W X→ChPost W N (fMove l g en) (.returned (errno 22)) X:=fun h X hm=>by rw [Zi4 h];exact ChPost.no (by decide) hm
 have h12:en.kind ≠ 1→l.any (isDom g) = false→∀ X,Mod Nowhere W X→ChPost W N (fMove l g en) (.returned (errno 12)) X:=fun h h2 X hm=>by rw [Zi5 h h2];exact ChPost.no (by decide) hm
 have hyes:en.kind ≠ 1→l.any (isDom g) = true→∀ w1 w',Mod Nowhere W w1→Mod (fun j=>j = N) w1 w'→Blk w' N (eCells u d ({ en with dom:=g }:En).raw) 24→ChPost W N (fMove l g en) (.returned (errno 0)) w':=fun h1 h2 w1 w' hm1 hm2 hb'=>by
  rw [Zi6 h1 h2];have hs:=shun1 (U:=5) (hb.mod hm1 id) (by decide);have d1:=DSl.mod (hx.d1.fresh hm1) hm2 hs;exact ⟨rfl,fun _=>⟨u,d,hb',⟨d1.src,hd.fresh ((hm.trans hm1).own hm2 hN),hx.ok.ba,bg⟩⟩,(hm1.nowhere (S:=fun j=>j = N)).trans hm2⟩
 have hcl:∀ X,Mod Nowhere W X→X.cell? ⟨N,0,none⟩ = some u∧X.cell? ⟨N,1,none⟩ = some (.int .i64 en.kind)∧X.cell? ⟨N,2,none⟩ = some (.int .i64 en.st)∧X.cell? ⟨N,3,none⟩ = some (.int .i64 en.bf)∧X.cell? ⟨N,4,none⟩ = some (.int .i64 en.pr)∧X.cell? ⟨N,5,none⟩ = some v∧X.cell? ⟨N,6,none⟩ = some (.int .i64 en.pk)∧X.cell? ⟨N,7,none⟩ = some (.int .i64 en.ob)∧N < X.heap.size∧X.cell? ⟨B,0,none⟩ = some (ptr rb)∧B < X.heap.size∧X.cell? ⟨D,0,none⟩ = some d∧D < X.heap.size:=fun X hm=>by
  have Y:=hb.mod hm id;exact ⟨Y.cell 0,Y.cell 1,Y.cell 2,Y.cell 3,Y.cell 4,Y.cell 5,Y.cell 6,Y.cell 7,Y.lt,(hm.cell (p:=⟨B,0,none⟩) hB id).trans hcB,Nat.lt_of_lt_of_le hB hm.size,(hm.cell (p:=⟨D,0,none⟩) hD id).trans hcD,Nat.lt_of_lt_of_le hD hm.size⟩
 obtain ⟨a1,c1,rfl,-⟩:=hx.inE.sa;obtain ⟨a2,c2,rfl,-⟩:=hx.inE.sd;obtain ⟨a3,c3,rfl,-⟩:=hd;refine cMoveW (k:=(en.kind:Int)) (st:=(en.st:Int)) (bf:=(en.bf:Int)) (pr:=(en.pr:Int)) (pk:=(en.pk:Int)) (ob:=(en.ob:Int)) hq (fun h=>h22 (by omega)) (fun h1 h2=>h12 (by omega) h2) (fun h1 h2 w1 w' mm1 mm2 hb'=>hyes (by omega) h2 w1 w' mm1 mm2 hb') hb hcl
theorem Zi8 {w:World} {rb:Nat} {A:VAt} {m:Mem} {s:VSt} {M:Md} (h:RgM w rb A m s M) {t d:Value} {a g:List Nat} (ht:Src w t a) (ba:Bytes a) (hd:Src w d g) (bg:Bytes g) (hrm:Room m (vcost A)) :
  Calls Tryz.prog 23 #[ptr rb,t,d] w (RCall w A m s { M with now:=(rChange M.now a (fMove M.now g)).1 } (rChange M.now a (fMove M.now g)).2):=by
 have hm1:=m2z w [ptr rb] [d] 29 22;have hB:=blk_b (w:=w) [ptr rb] [d] 29 22
 have hC:=Js (h.fresh hm1) (ht.fresh hm1) ba hrm (fMove M.now g) 66 #[.pointer (some ⟨w.heap.size,0,none⟩),.pointer (some ⟨w.heap.size + 1,0,none⟩)] (enters_of Tryz.func66 (by kernel_rfl) rfl) (ZaY _ _) (ZaV h.inv a g)
  fun en hen W N u v hm hN hb hx=>Zi7 ((h.fresh hm1).reg.fresh hm) hm hN (hd.fresh hm1) bg hb hx (by have:=(hB W hm).1.cell 0;simpa using this) (hB W hm).1.lt (by have:=(hB W hm).2.cell 0;simpa using this) (hB W hm).2.lt
 have hfr:∀ e w',RCall ((w.alloc (.cells [ptr rb].toArray 29)).alloc (.cells [d].toArray 22)) A m s { M with now:=(rChange M.now a (fMove M.now g)).1 } (rChange M.now a (fMove M.now g)).2 e w'→(∃ n:Nat,e = .returned (errno n))∧RCall w A m s { M with now:=(rChange M.now a (fMove M.now g)).1 } (rChange M.now a (fMove M.now g)).2 e w':=fun e w' hc=>⟨hc.errno,hc.from hm1⟩;obtain ⟨ta,tc,rfl,-⟩:=ht;obtain ⟨da,dc,rfl,-⟩:=hd;generalize RCall w A m s { M with now:=(rChange M.now a (fMove M.now g)).1 } (rChange M.now a (fMove M.now g)).2 = R at *;generalize a.length = n at *
 generalize g.length = n2 at *;clear h hB;refine hid3 ?_ hC hfr hm1;clear hC hfr hm1;intro hC hfr hm1;go_enter Tryz.func23,Tryz.ntmps23;go_wp2_with fail;refine (hC.out).mono ?_;rintro e w1 hc;obtain ⟨⟨ne,rfl⟩,hfin⟩:=hfr.out _ _ hc;refine hid2 ?_ hfin hc;clear hfin hc;intro hfin hc;go_wp2;exact hfin.out
theorem doW0 {w:World} {mb vb rb:Nat} {a1 a2 a3 a4:Option Addr} {n1 n2 n3 n4 c1 c2 c3 c4:Nat} {k st bf pr pk ob sx:Int} {R:Ending→World→Prop} (hC:Calls Tryz.prog 19 #[ptr rb,.agg #[.slice a1 n1 c1,.int .i64 k,.int .i64 st,.int .i64 bf,.int .i64 pr,.slice a2 n2 c2,.int .i64 pk,.int .i64 ob]] ((w.alloc (.cells #[ptr mb,ptr vb,ptr rb] 48)).alloc (.cells #[.int .i64 0,.slice a1 n1 c1,.int .i64 k,.int .i64 st,.int .i64 bf,.int .i64 pr,.slice a2 n2 c2,.int .i64 pk,.int .i64 ob,.slice a3 n3 c3,.slice a4 n4 c4,.int .i64 sx] 57)) R) (he:∀ e w',R e w'→∃ n:Nat,e = .returned (errno n)) :
  Calls Tryz.prog 27 #[.agg #[ptr mb,ptr vb,ptr rb],.agg #[.int .i64 0,.slice a1 n1 c1,.int .i64 k,.int .i64 st,.int .i64 bf,.int .i64 pr,.slice a2 n2 c2,.int .i64 pk,.int .i64 ob,.slice a3 n3 c3,.slice a4 n4 c4,.int .i64 sx]] w R:=by
 refine hid2 ?_ hC he;clear hC he;intro hC he;go_enter Tryz.func27,Tryz.ntmps27;go_wp2_with fail;refine (hC.out).mono ?_;rintro e w1 hc;obtain ⟨ne,rfl⟩:=he.out _ _ hc;replace hc:=Lib.hid hc;go_wp2;exact hc.out
theorem doW1 {w:World} {mb vb rb:Nat} {a1 a2 a3 a4:Option Addr} {n1 n2 n3 n4 c1 c2 c3 c4:Nat} {k st bf pr pk ob sx:Int} {R:Ending→World→Prop} (hC:Calls Tryz.prog 20 #[ptr rb,.slice a3 n3 c3] ((w.alloc (.cells #[ptr mb,ptr vb,ptr rb] 48)).alloc (.cells #[.int .i64 1,.slice a1 n1 c1,.int .i64 k,.int .i64 st,.int .i64 bf,.int .i64 pr,.slice a2 n2 c2,.int .i64 pk,.int .i64 ob,.slice a3 n3 c3,.slice a4 n4 c4,.int .i64 sx] 57)) R) (he:∀ e w',R e w'→∃ n:Nat,e = .returned (errno n)) :
  Calls Tryz.prog 27 #[.agg #[ptr mb,ptr vb,ptr rb],.agg #[.int .i64 1,.slice a1 n1 c1,.int .i64 k,.int .i64 st,.int .i64 bf,.int .i64 pr,.slice a2 n2 c2,.int .i64 pk,.int .i64 ob,.slice a3 n3 c3,.slice a4 n4 c4,.int .i64 sx]] w R:=by
 refine hid2 ?_ hC he;clear hC he;intro hC he;go_enter Tryz.func27,Tryz.ntmps27;go_wp2_with fail;refine (hC.out).mono ?_;rintro e w1 hc;obtain ⟨ne,rfl⟩:=he.out _ _ hc;replace hc:=Lib.hid hc;go_wp2;exact hc.out
theorem doW2 {w:World} {mb vb rb:Nat} {a1 a2 a3 a4:Option Addr} {n1 n2 n3 n4 c1 c2 c3 c4:Nat} {k st bf pr pk ob sx:Int} {R:Ending→World→Prop} (hC:Calls Tryz.prog 21 #[ptr rb,.slice a3 n3 c3,.int .i64 sx] ((w.alloc (.cells #[ptr mb,ptr vb,ptr rb] 48)).alloc (.cells #[.int .i64 2,.slice a1 n1 c1,.int .i64 k,.int .i64 st,.int .i64 bf,.int .i64 pr,.slice a2 n2 c2,.int .i64 pk,.int .i64 ob,.slice a3 n3 c3,.slice a4 n4 c4,.int .i64 sx] 57)) R) (he:∀ e w',R e w'→∃ n:Nat,e = .returned (errno n)) :
  Calls Tryz.prog 27 #[.agg #[ptr mb,ptr vb,ptr rb],.agg #[.int .i64 2,.slice a1 n1 c1,.int .i64 k,.int .i64 st,.int .i64 bf,.int .i64 pr,.slice a2 n2 c2,.int .i64 pk,.int .i64 ob,.slice a3 n3 c3,.slice a4 n4 c4,.int .i64 sx]] w R:=by
 refine hid2 ?_ hC he;clear hC he;intro hC he;go_enter Tryz.func27,Tryz.ntmps27;go_wp2_with fail;refine (hC.out).mono ?_;rintro e w1 hc;obtain ⟨ne,rfl⟩:=he.out _ _ hc;replace hc:=Lib.hid hc;go_wp2;exact hc.out
theorem doW3 {w:World} {mb vb rb:Nat} {a1 a2 a3 a4:Option Addr} {n1 n2 n3 n4 c1 c2 c3 c4:Nat} {k st bf pr pk ob sx:Int} {R:Ending→World→Prop} (hC:Calls Tryz.prog 22 #[ptr rb,.slice a3 n3 c3,.bool true] ((w.alloc (.cells #[ptr mb,ptr vb,ptr rb] 48)).alloc (.cells #[.int .i64 3,.slice a1 n1 c1,.int .i64 k,.int .i64 st,.int .i64 bf,.int .i64 pr,.slice a2 n2 c2,.int .i64 pk,.int .i64 ob,.slice a3 n3 c3,.slice a4 n4 c4,.int .i64 sx] 57)) R) (he:∀ e w',R e w'→∃ n:Nat,e = .returned (errno n)) :
  Calls Tryz.prog 27 #[.agg #[ptr mb,ptr vb,ptr rb],.agg #[.int .i64 3,.slice a1 n1 c1,.int .i64 k,.int .i64 st,.int .i64 bf,.int .i64 pr,.slice a2 n2 c2,.int .i64 pk,.int .i64 ob,.slice a3 n3 c3,.slice a4 n4 c4,.int .i64 sx]] w R:=by
 refine hid2 ?_ hC he;clear hC he;intro hC he;go_enter Tryz.func27,Tryz.ntmps27;go_wp2_with fail;refine (hC.out).mono ?_;rintro e w1 hc;obtain ⟨ne,rfl⟩:=he.out _ _ hc;replace hc:=Lib.hid hc;go_wp2;exact hc.out
theorem doW4 {w:World} {mb vb rb:Nat} {a1 a2 a3 a4:Option Addr} {n1 n2 n3 n4 c1 c2 c3 c4:Nat} {k st bf pr pk ob sx:Int} {R:Ending→World→Prop} (hC:Calls Tryz.prog 22 #[ptr rb,.slice a3 n3 c3,.bool false] ((w.alloc (.cells #[ptr mb,ptr vb,ptr rb] 48)).alloc (.cells #[.int .i64 4,.slice a1 n1 c1,.int .i64 k,.int .i64 st,.int .i64 bf,.int .i64 pr,.slice a2 n2 c2,.int .i64 pk,.int .i64 ob,.slice a3 n3 c3,.slice a4 n4 c4,.int .i64 sx] 57)) R) (he:∀ e w',R e w'→∃ n:Nat,e = .returned (errno n)) :
  Calls Tryz.prog 27 #[.agg #[ptr mb,ptr vb,ptr rb],.agg #[.int .i64 4,.slice a1 n1 c1,.int .i64 k,.int .i64 st,.int .i64 bf,.int .i64 pr,.slice a2 n2 c2,.int .i64 pk,.int .i64 ob,.slice a3 n3 c3,.slice a4 n4 c4,.int .i64 sx]] w R:=by
 refine hid2 ?_ hC he;clear hC he;intro hC he;go_enter Tryz.func27,Tryz.ntmps27;go_wp2_with fail;refine (hC.out).mono ?_;rintro e w1 hc;obtain ⟨ne,rfl⟩:=he.out _ _ hc;replace hc:=Lib.hid hc;go_wp2;exact hc.out
theorem doW5 {w:World} {mb vb rb:Nat} {a1 a2 a3 a4:Option Addr} {n1 n2 n3 n4 c1 c2 c3 c4:Nat} {k st bf pr pk ob sx:Int} {R:Ending→World→Prop} (hC:Calls Tryz.prog 23 #[ptr rb,.slice a3 n3 c3,.slice a4 n4 c4] ((w.alloc (.cells #[ptr mb,ptr vb,ptr rb] 48)).alloc (.cells #[.int .i64 5,.slice a1 n1 c1,.int .i64 k,.int .i64 st,.int .i64 bf,.int .i64 pr,.slice a2 n2 c2,.int .i64 pk,.int .i64 ob,.slice a3 n3 c3,.slice a4 n4 c4,.int .i64 sx] 57)) R) (he:∀ e w',R e w'→∃ n:Nat,e = .returned (errno n)) :
  Calls Tryz.prog 27 #[.agg #[ptr mb,ptr vb,ptr rb],.agg #[.int .i64 5,.slice a1 n1 c1,.int .i64 k,.int .i64 st,.int .i64 bf,.int .i64 pr,.slice a2 n2 c2,.int .i64 pk,.int .i64 ob,.slice a3 n3 c3,.slice a4 n4 c4,.int .i64 sx]] w R:=by
 refine hid2 ?_ hC he;clear hC he;intro hC he;go_enter Tryz.func27,Tryz.ntmps27;go_wp2_with fail;refine (hC.out).mono ?_;rintro e w1 hc;obtain ⟨ne,rfl⟩:=he.out _ _ hc;replace hc:=Lib.hid hc;go_wp2;exact hc.out
theorem doW6 {w:World} {mb vb rb:Nat} {a1 a2 a3 a4:Option Addr} {n1 n2 n3 n4 c1 c2 c3 c4:Nat} {k st bf pr pk ob sx:Int} {R:Ending→World→Prop} (hC:Calls Tryz.prog 70 #[ptr vb] ((w.alloc (.cells #[ptr mb,ptr vb,ptr rb] 48)).alloc (.cells #[.int .i64 6,.slice a1 n1 c1,.int .i64 k,.int .i64 st,.int .i64 bf,.int .i64 pr,.slice a2 n2 c2,.int .i64 pk,.int .i64 ob,.slice a3 n3 c3,.slice a4 n4 c4,.int .i64 sx] 57)) R) (he:∀ e w',R e w'→∃ n:Nat,e = .returned (errno n)) :
  Calls Tryz.prog 27 #[.agg #[ptr mb,ptr vb,ptr rb],.agg #[.int .i64 6,.slice a1 n1 c1,.int .i64 k,.int .i64 st,.int .i64 bf,.int .i64 pr,.slice a2 n2 c2,.int .i64 pk,.int .i64 ob,.slice a3 n3 c3,.slice a4 n4 c4,.int .i64 sx]] w R:=by
 refine hid2 ?_ hC he;clear hC he;intro hC he;go_enter Tryz.func27,Tryz.ntmps27;go_wp2_with fail;refine (hC.out).mono ?_;rintro e w1 hc;obtain ⟨ne,rfl⟩:=he.out _ _ hc;replace hc:=Lib.hid hc;go_wp2;exact hc.out
theorem doW7 {w:World} {mb vb rb:Nat} {a1 a2 a3 a4:Option Addr} {n1 n2 n3 n4 c1 c2 c3 c4:Nat} {k st bf pr pk ob sx:Int} {R:Ending→World→Prop} (hC:Calls Tryz.prog 71 #[ptr vb] ((w.alloc (.cells #[ptr mb,ptr vb,ptr rb] 48)).alloc (.cells #[.int .i64 7,.slice a1 n1 c1,.int .i64 k,.int .i64 st,.int .i64 bf,.int .i64 pr,.slice a2 n2 c2,.int .i64 pk,.int .i64 ob,.slice a3 n3 c3,.slice a4 n4 c4,.int .i64 sx] 57)) R) (he:∀ e w',R e w'→∃ n:Nat,e = .returned (errno n)) :
  Calls Tryz.prog 27 #[.agg #[ptr mb,ptr vb,ptr rb],.agg #[.int .i64 7,.slice a1 n1 c1,.int .i64 k,.int .i64 st,.int .i64 bf,.int .i64 pr,.slice a2 n2 c2,.int .i64 pk,.int .i64 ob,.slice a3 n3 c3,.slice a4 n4 c4,.int .i64 sx]] w R:=by
 refine hid2 ?_ hC he;clear hC he;intro hC he;go_enter Tryz.func27,Tryz.ntmps27;go_wp2_with fail;refine (hC.out).mono ?_;rintro e w1 hc;obtain ⟨ne,rfl⟩:=he.out _ _ hc;replace hc:=Lib.hid hc;go_wp2;exact hc.out
theorem doW8 {w:World} {mb vb rb:Nat} {a1 a2 a3 a4:Option Addr} {n1 n2 n3 n4 c1 c2 c3 c4:Nat} {k st bf pr pk ob sx:Int} {R:Ending→World→Prop} (hC:Calls Tryz.prog 72 #[ptr vb] ((w.alloc (.cells #[ptr mb,ptr vb,ptr rb] 48)).alloc (.cells #[.int .i64 8,.slice a1 n1 c1,.int .i64 k,.int .i64 st,.int .i64 bf,.int .i64 pr,.slice a2 n2 c2,.int .i64 pk,.int .i64 ob,.slice a3 n3 c3,.slice a4 n4 c4,.int .i64 sx] 57)) R) (he:∀ e w',R e w'→∃ n:Nat,e = .returned (errno n)) :
  Calls Tryz.prog 27 #[.agg #[ptr mb,ptr vb,ptr rb],.agg #[.int .i64 8,.slice a1 n1 c1,.int .i64 k,.int .i64 st,.int .i64 bf,.int .i64 pr,.slice a2 n2 c2,.int .i64 pk,.int .i64 ob,.slice a3 n3 c3,.slice a4 n4 c4,.int .i64 sx]] w R:=by
 refine hid2 ?_ hC he;clear hC he;intro hC he;go_enter Tryz.func27,Tryz.ntmps27;go_wp2_with fail;refine (hC.out).mono ?_;rintro e w1 hc;obtain ⟨ne,rfl⟩:=he.out _ _ hc;replace hc:=Lib.hid hc;go_wp2;exact hc.out
theorem doW9 {w:World} {mb vb rb:Nat} {a1 a2 a3 a4:Option Addr} {n1 n2 n3 n4 c1 c2 c3 c4:Nat} {k st bf pr pk ob sx:Int} {R:Ending→World→Prop} {act:Int} (hn:¬ (0≤act∧act≤8)) (hC:∀ W,Mod Nowhere w W→R (.returned (errno 0)) W) :
  Calls Tryz.prog 27 #[.agg #[ptr mb,ptr vb,ptr rb],.agg #[.int .i64 act,.slice a1 n1 c1,.int .i64 k,.int .i64 st,.int .i64 bf,.int .i64 pr,.slice a2 n2 c2,.int .i64 pk,.int .i64 ob,.slice a3 n3 c3,.slice a4 n4 c4,.int .i64 sx]] w R:=by
 have hfin:=hC _ (m2z w [ptr mb,ptr vb,ptr rb] [.int .i64 act,.slice a1 n1 c1,.int .i64 k,.int .i64 st,.int .i64 bf,.int .i64 pr,.slice a2 n2 c2,.int .i64 pk,.int .i64 ob,.slice a3 n3 c3,.slice a4 n4 c4,.int .i64 sx] 48 57);have b0:(act == 0) = false:=by simp;omega
 have b1:(act == 1) = false:=by simp;omega
 have b2:(act == 2) = false:=by simp;omega
 have b3:(act == 3) = false:=by simp;omega
 have b4:(act == 4) = false:=by simp;omega
 have b5:(act == 5) = false:=by simp;omega
 have b6:(act == 6) = false:=by simp;omega
 have b7:(act == 7) = false:=by simp;omega
 have b8:(act == 8) = false:=by simp;omega
 refine hid3 ?_ hC hfin hn;clear hC hfin hn;intro hC hfin hn;go_enter Tryz.func27,Tryz.ntmps27;go_wp2;exact hfin.out
theorem Zi9 {w:World} {rb:Nat} {A:VAt} {m:Mem} {s:VSt} {M:Md} (h:RgM w rb A m s M) {u v:Value} {e:REn} (hi:InE w u v e) (p0:-9223372036854775808≤e.pr) (p1:e.pr≤9223372036854775807) (hrm:Room m (vcost A)) :
  Calls Tryz.prog 19 #[ptr rb,.agg (eCells u v e).toArray] w (RCall w A m s (if rValid e = true then mNow M (rAdd M.now e.en) else (M,1)).1 (if rValid e = true then mNow M (rAdd M.now e.en) else (M,1)).2):=by
 cases hv:rValid e with
 | true =>
  obtain ⟨k1,k2⟩:=((ZB e).1 hv).en hi.ba hi.bd;have:=Zc1 h k1 (by rw [k2];exact hi) hrm;rw [k2] at this;exact this
 | false=>exact ZiF h hi p0 p1 (by rw [ZeZ];exact hv)
theorem Zja {w:World} {mb rb:Nat} {A:VAt} {m:Mem} {s:VSt} {M:Md} (h:RgM w rb A m s M) (hrm:Room m (vcost A)) {x:OpI} (hx:OpAt w x) :
  Calls Tryz.prog 27 #[.agg #[ptr mb,ptr A.vb,ptr rb],.agg x.cells.toArray] w (RCall w A m s (rPlay M x.r).1 (rPlay M x.r).2):=by
 have he:∀ e w',RCall w A m s (rPlay M x.r).1 (rPlay M x.r).2 e w'→∃ n:Nat,e = .returned (errno n):=fun e w' hc=>hc.errno;have hw0:=m2z w [ptr mb,ptr A.vb,ptr rb] x.cells 48 57;have h0:=h.fresh hw0;have hx0:=hx.fresh hw0
 have hfr:∀ {M':Md} {er:Nat},M' = (rPlay M x.r).1→er = (rPlay M x.r).2→∀ {F:FuncId} {args:Array Value},Calls Tryz.prog F args ((w.alloc (.cells [ptr mb,ptr A.vb,ptr rb].toArray 48)).alloc (.cells x.cells.toArray 57)) (RCall ((w.alloc (.cells [ptr mb,ptr A.vb,ptr rb].toArray 48)).alloc (.cells x.cells.toArray 57)) A m s M' er)→Calls Tryz.prog F args ((w.alloc (.cells [ptr mb,ptr A.vb,ptr rb].toArray 48)).alloc (.cells x.cells.toArray 57)) (RCall w A m s (rPlay M x.r).1 (rPlay M x.r).2):=fun e1 e2 F args hc=>by
  subst e1 e2;exact hc.mono fun e w' hc=>hc.from hw0
 obtain ⟨act,u,v,ent,t,aid,d,dom,sx⟩:=x;obtain ⟨hin,hsa,hba,hsd,hbd,p0,p1⟩:=hx0;dsimp only at hin hsa hba hsd hbd p0 p1;obtain ⟨a1,c1,e1,-⟩:=hin.sa;obtain ⟨a2,c2,e2,-⟩:=hin.sd;obtain ⟨a3,c3,e3,-⟩:=id hsa;obtain ⟨a4,c4,e4,-⟩:=id hsd;by_cases hact:0≤act∧act≤8
 ·obtain ⟨g0,g8⟩:=hact;have:act = 0 ∨ act = 1 ∨ act = 2 ∨ act = 3 ∨ act = 4 ∨ act = 5 ∨ act = 6 ∨ act = 7 ∨ act = 8:=by omega
  subst e1 e2 e3 e4;rcases this with rfl | rfl | rfl | rfl | rfl | rfl | rfl | rfl | rfl
  ·exact doW0 (hfr rfl rfl (Zi9 h0 hin p0 p1 hrm)) he
  ·exact doW1 (hfr rfl rfl (Zc0 h0 hsa hba hrm)) he
  ·exact doW2 (hfr rfl rfl (Zi3 h0 hsa hba hrm sx)) he
  ·exact doW3 (hfr rfl rfl (Jt h0 hsa hba hrm true)) he
  ·exact doW4 (hfr rfl rfl (Jt h0 hsa hba hrm false)) he
  ·exact doW5 (hfr rfl rfl (Zi8 h0 hsa hba hsd hbd hrm)) he
  ·obtain ⟨q1,q2⟩:=h0.mp.begin;refine doW6 (hfr (M':=(mBegin M).1) (er:=(mBegin M).2) rfl rfl ((Zh0 h0.rep).mono fun e w' hc=>?_)) he;rw [q1] at hc;exact ⟨_,hc.more (Nat.zero_le _),q2,by unfold vBegin;split <;> simp⟩
  ·obtain ⟨q1,q2⟩:=h0.mp.commit h0.xb;refine doW7 (hfr (M':=(mCommit M).1) (er:=(mCommit M).2) rfl rfl ((Zh2 h0.rep (by have:=h0.len;omega) hrm).mono fun e w' hc=>?_)) he;rw [q1] at hc;exact ⟨_,hc,q2,by unfold vCommit;(repeat split) <;> simp⟩
  ·obtain ⟨q1,q2⟩:=h0.mp.abort;refine doW8 (hfr (M':=(mAbort M).1) (er:=(mAbort M).2) rfl rfl ((Zh1 h0.rep).mono fun e w' hc=>?_)) he;rw [q1] at hc;exact ⟨_,hc.more (Nat.zero_le _),q2,by unfold vAbort;split <;> simp⟩
 ·subst e1 e2 e3 e4;refine doW9 hact fun W hm=>?_
  have hp:rPlay M (OpI.r ⟨act,.slice a1 ent.aid.length c1,.slice a2 ent.dom.length c2,ent,.slice a3 aid.length c3,aid,.slice a4 dom.length c4,dom,sx⟩) = (M,0):=by
   unfold rPlay OpI.r;dsimp only;rw [if_neg (by omega),if_neg (by omega),if_neg (by omega),if_neg (by omega),if_neg (by omega),if_neg (by omega),if_neg (by omega),if_neg (by omega),if_neg (by omega)]
  rw [hp];exact RCall.none h hm 0
end Go.Proofs.YthmahbfmfpjjcaaGreat
