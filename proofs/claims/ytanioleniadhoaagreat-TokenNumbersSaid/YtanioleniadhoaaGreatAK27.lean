/-
  Hexadecimal digits of the reference.
-/
import Derived.Test.YtanioleniadhoaaGreatAK25
set_option linter.unusedVariables false
set_option linter.unusedSimpArgs false
set_option maxHeartbeats 8000000
set_option maxRecDepth 100000
namespace Go.Proofs.YtanioleniadhoaaGreat
open Go.RowKit
open Jn
attribute [local go_sem] Oper.semAt_some
namespace Tk
def dig (k:Nat):Nat:=if k < 10 then 48 + k else 87 + k
def hexL (l:List Nat):List Nat:=l.flatMap fun x=>[dig (x / 16),dig (x % 16)]
def bStr (l:List Nat):ByteArray:=⟨(l.map fun n=>UInt8.ofNat n).toArray⟩
theorem bStr_append (a b:List Nat):bStr (a ++ b) = bStr a ++ bStr b:=by
 apply ByteArray.ext
 simp [bStr]
theorem bStr_size (l:List Nat):(bStr l).size = l.length:=by simp [bStr,ByteArray.size]
theorem hexL_len (l:List Nat):(hexL l).length = 2 * l.length:=by
 unfold hexL
 induction l with
 | nil=>rfl
 | cons x l ih=>rw [List.flatMap_cons,List.length_append,ih,List.length_cons];simp;omega
theorem hexL_take {l:List Nat} {k:Nat} (h:k < l.length):hexL (l.take (k + 1)) = hexL (l.take k) ++ [dig (l.getD k 0 / 16)] ++ [dig (l.getD k 0 % 16)]:=by
 unfold hexL;rw [List.take_succ_eq_append_getElem h,List.flatMap_append,gd0,List.getElem?_eq_getElem h];simp
def digits:ByteArray:={ data:=#[48,49,50,51,52,53,54,55,56,57,97,98,99,100,101,102] }
theorem digits_at:∀ p,p < 16→digits.extract p (p + 1) = bStr [dig p]:=by
 intro p hp;rcases (show p = 0 ∨ p = 1 ∨ p = 2 ∨ p = 3 ∨ p = 4 ∨ p = 5 ∨ p = 6 ∨ p = 7 ∨ p = 8 ∨ p = 9 ∨ p = 10 ∨ p = 11 ∨ p = 12 ∨ p = 13 ∨ p = 14 ∨ p = 15 by omega) with rfl | rfl | rfl | rfl | rfl | rfl | rfl | rfl | rfl | rfl | rfl | rfl | rfl | rfl | rfl | rfl <;> rfl
end Tk
open Tk
theorem run_dig (p:Nat) (hp:p < 16) (w:World):(Instr.slice 9 (.string digits) (some (.int .u8 (p:Int))) (some (.int .u8 ((p:Int) + 1))) none).run Tryz.prog w = .ok (.string (bStr [dig p])) w:=by
 have h1:(0:Int)≤(p:Int):=by omega
 have h3:digits.size = 16:=rfl;have h5:((p:Int) + 1).toNat = p + 1:=by omega
 have h6:(p:Int) + 1≤16:=by omega
 have h7:(0:Int)≤(p:Int) + 1:=by omega
 have:=digits_at p hp;simp [Instr.slice,Instr.sliceBounds,Instr.sliceBound,run_underlying Tryz.underlying9,asIntOf,h3,h6,h7,h5,this]
theorem rHex_ok {w:World} {v:Value} {l:List Nat} (h:Src w v l) (hb:Bytes l) (hl:l.length≤1000):Calls Tryz.prog 75 #[v] w fun e w'=>e = .returned (.string (bStr (hexL l)))∧Mod Nowhere w w':=by
 have hdg:({ data:=#[48,49,50,51,52,53,54,55,56,57,97,98,99,100,101,102] }:ByteArray) = digits:=rfl;have he0:({ data:=#[] }:ByteArray) = bStr (hexL (l.take 0)):=rfl;obtain ⟨a,cap,rfl,h1,h2,h3⟩:=h;refine hid3 ?_ hb h3 he0;clear hb h3 he0;intro hb h3 he0;go_enter Tryz.func75,Tryz.ntmps75;go_wp2
 try rw [hdg]
 go_loopw [4,5] (fun s i wr=>∃ k:Nat,k≤l.length∧i = .int .i64 k∧s = .string (bStr (hexL (l.take k)))∧Mod Nowhere w wr) (fun _ i _=>l.length - (intOf i).toNat)
 case atStart=>exact ⟨0,by omega,rfl,congrArg Value.string he0.out,Mod.refl _ _⟩
 case round =>
  obtain ⟨k,hk,rfl,rfl,hm⟩:=hrel;by_cases hlt:k < l.length
  ·obtain ⟨b,off,rfl,hbl,hc⟩:=h3.out (by omega);have hck:=(hm.cell (p:=⟨b,off + k,none⟩) hbl id).trans (hc k hlt);have hbl2:=Nat.lt_of_lt_of_le hbl hm.size;have hx:=hb.out k;have hs:=congrArg bStr (hexL_take hlt);rw [bStr_append,bStr_append] at hs;generalize hxx:l.getD k 0 = x at *;have hp:x / 16 < 16:=by omega
   have hr:x % 16 < 16:=by omega
   have hq1:(x:Int).tdiv 16 = ((x / 16:Nat):Int):=by rw [Int.tdiv_eq_ediv_of_nonneg (by omega)];omega
   have hq2:(x:Int).tmod 16 = ((x % 16:Nat):Int):=by rw [Int.tmod_eq_emod_of_nonneg (by omega)];omega
   have hd1:=run_dig (x / 16) hp;have hd2:=run_dig (x % 16) hr;generalize x / 16 = p at *;generalize x % 16 = r at *;have hw0:IntKind.u8.wrap (p:Int) = p:=by rw [IntKind.wrap_u8];omega
   have hw3:IntKind.u8.wrap (r:Int) = r:=by rw [IntKind.wrap_u8];omega
   have hw1:IntKind.u8.wrap ((p:Int) + 1) = (p:Int) + 1:=by rw [IntKind.wrap_u8];omega
   have hw2:IntKind.u8.wrap ((r:Int) + 1) = (r:Int) + 1:=by rw [IntKind.wrap_u8];omega
   have hz1:(bStr (hexL (l.take k))).size≤2000:=by rw [bStr_size,hexL_len,List.length_take];omega
   have hz2:(bStr [dig p]).size = 1:=bStr_size _;have hz3:(bStr [dig r]).size = 1:=bStr_size _;have hz4:(bStr (hexL (l.take k)) ++ bStr [dig p]).size≤2001:=by rw [ByteArray.size_append];omega
   generalize hS:bStr (hexL (l.take k)) = SA at *;generalize bStr [dig p] = SP at *;generalize bStr [dig r] = SR at *;have hki:(k:Int) < (l.length:Int):=by omega
   clear hc;have hcw:∀ W,Mod Nowhere wr W→W.cell? ⟨b,off + k,none⟩ = some (.int .u8 (x:Int))∧b < W.heap.size:=fun W hW=>⟨(hW.cell (p:=⟨b,off + k,none⟩) hbl2 id).trans hck,Nat.lt_of_lt_of_le hbl2 hW.size⟩;generalize l.length = n at *;refine hid5 ?_ hm hs hxx hS hcw;clear hm hs hxx hS hcw;intro hm hs hxx hS hcw;go_wp2_with fail;refine wp_region_calm_rest_z 29 (fun i v w'=>match i with | 0=>(v = .string SA) | 1=>(v = .string digits) | 2=>(v = .slice (some ⟨b,off,none⟩) n cap) | 3=>(v = .int .i64 (k:Int)) | 4=>(v = .pointer (some ⟨b,off + k,none⟩)) | 5=>(v = .int .u8 (x:Int)) | 6=>(v = .int .u8 (p:Int)) | 7=>(v = .slice (some ⟨b,off,none⟩) n cap) | 8=>(v = .int .i64 (k:Int)) | 9=>(v = .pointer (some ⟨b,off + k,none⟩)) | 10=>(v = .int .u8 (x:Int)) | 11=>(v = .int .u8 (p:Int)) | 12=>(v = .int .u8 ((p:Int) + 1)) | 13=>(v = .string SP) | 14=>(v = .string (SA ++ SP)) | 15=>(v = .string digits) | 16=>(v = .slice (some ⟨b,off,none⟩) n cap) | 17=>(v = .int .i64 (k:Int)) | 18=>(v = .pointer (some ⟨b,off + k,none⟩)) | 19=>(v = .int .u8 (x:Int)) | 20=>(v = .int .u8 (r:Int)) | 21=>(v = .slice (some ⟨b,off,none⟩) n cap) | 22=>(v = .int .i64 (k:Int)) | 23=>(v = .pointer (some ⟨b,off + k,none⟩)) | 24=>(v = .int .u8 (x:Int)) | 25=>(v = .int .u8 (r:Int)) | 26=>(v = .int .u8 ((r:Int) + 1)) | 27=>(v = .string SR) | 28=>(v = .string (SA ++ SP ++ SR)) | _=>True) ?A_ (by first | assumption | kernel_rfl) (by kernel_rfl) (by kernel_rfl) (by kernel_rfl) (by decide) ?hA_ ?hS_ ?hE_
   case hA_=>intro xs hz;simp [putAll,List.range,List.range.loop,Act.put,hz 29 (by decide)] <;> rfl
   case hS_ =>
    refine ⟨?_,?_,?_,?_,?_,?_,?_,?_,?_,?_,?_,?_,?_,?_,?_,?_,?_,?_,?_,?_,?_,?_,?_,?_,?_,?_,?_,?_,?_,trivial⟩
    ·-- 0: t12:=move(t4)
     intro yv w' hR hF K hK;clear hF
     go_simp
     exact hK _ _ (fun _ _=>by first | trivial | rfl | simp [*]) (Mod.refl _ _)
    ·-- 1: t13:=move(t3)
     intro yv w' hR hF K hK;clear hF
     go_simp
     exact hK _ _ (fun _ _=>by first | trivial | rfl | simp [*]) (Mod.refl _ _)
    ·-- 2: t14:=move(t0)
     intro yv w' hR hF K hK;clear hF
     go_simp
     exact hK _ _ (fun _ _=>by first | trivial | rfl | simp [*]) (Mod.refl _ _)
    ·-- 3: t15:=move(t5)
     intro yv w' hR hF K hK;clear hF
     go_simp
     exact hK _ _ (fun _ _=>by first | trivial | rfl | simp [*]) (Mod.refl _ _)
    ·-- 4: t16:=indexAddr(22,t14,t15)
     intro yv w' hR hF K hK;have f2:(yv 2) = .slice (some ⟨b,off,none⟩) n cap:=hF 2 (by kernel_rfl) w' (Mod.refl _ _);have f3:(yv 3) = .int .i64 (k:Int):=hF 3 (by kernel_rfl) w' (Mod.refl _ _);clear hF;generalize yv 2 = y2 at *;subst f2;generalize yv 3 = y3 at *;subst f3
     go_simp
     exact hK _ _ (fun _ _=>by first | trivial | rfl | simp [*]) (Mod.refl _ _)
    ·-- 5: t17:=load(5,t16)
     intro yv w' hR hF K hK;have f4:(yv 4) = .pointer (some ⟨b,off + k,none⟩):=hF 4 (by kernel_rfl) w' (Mod.refl _ _);clear hF;generalize yv 4 = y4 at *;subst f4;obtain ⟨z,zb⟩:=hcw.out w' ((Mod.refl Nowhere _).drew.trans hR)
     go_simp
     exact hK _ _ (fun _ _=>rfl) (Mod.refl _ _)
    ·-- 6: t18:=binOp(quo,5,t17,16:u8,5)
     intro yv w' hR hF K hK;have f5:(yv 5) = .int .u8 (x:Int):=hF 5 (by kernel_rfl) w' (Mod.refl _ _);clear hF;generalize yv 5 = y5 at *;subst f5
     go_simp
     exact hK _ _ (fun _ _=>by first | trivial | rfl | simp [*]) (Mod.refl _ _)
    ·-- 7: t19:=move(t0)
     intro yv w' hR hF K hK;clear hF
     go_simp
     exact hK _ _ (fun _ _=>by first | trivial | rfl | simp [*]) (Mod.refl _ _)
    ·-- 8: t20:=move(t5)
     intro yv w' hR hF K hK;clear hF
     go_simp
     exact hK _ _ (fun _ _=>by first | trivial | rfl | simp [*]) (Mod.refl _ _)
    ·-- 9: t21:=indexAddr(22,t19,t20)
     intro yv w' hR hF K hK;have f7:(yv 7) = .slice (some ⟨b,off,none⟩) n cap:=hF 7 (by kernel_rfl) w' (Mod.refl _ _);have f8:(yv 8) = .int .i64 (k:Int):=hF 8 (by kernel_rfl) w' (Mod.refl _ _);clear hF;generalize yv 7 = y7 at *;subst f7;generalize yv 8 = y8 at *;subst f8
     go_simp
     exact hK _ _ (fun _ _=>by first | trivial | rfl | simp [*]) (Mod.refl _ _)
    ·-- 10: t22:=load(5,t21)
     intro yv w' hR hF K hK;have f9:(yv 9) = .pointer (some ⟨b,off + k,none⟩):=hF 9 (by kernel_rfl) w' (Mod.refl _ _);clear hF;generalize yv 9 = y9 at *;subst f9;obtain ⟨z,zb⟩:=hcw.out w' ((Mod.refl Nowhere _).drew.trans hR)
     go_simp
     exact hK _ _ (fun _ _=>rfl) (Mod.refl _ _)
    ·-- 11: t23:=binOp(quo,5,t22,16:u8,5)
     intro yv w' hR hF K hK;have f10:(yv 10) = .int .u8 (x:Int):=hF 10 (by kernel_rfl) w' (Mod.refl _ _);clear hF;generalize yv 10 = y10 at *;subst f10
     go_simp
     exact hK _ _ (fun _ _=>by first | trivial | rfl | simp [*]) (Mod.refl _ _)
    ·-- 12: t24:=binOp(add,5,t23,1:u8,5)
     intro yv w' hR hF K hK;have f11:(yv 11) = .int .u8 (p:Int):=hF 11 (by kernel_rfl) w' (Mod.refl _ _);clear hF;generalize yv 11 = y11 at *;subst f11
     go_simp
     exact hK _ _ (fun _ _=>by first | trivial | rfl | simp [*]) (Mod.refl _ _)
    ·-- 13: t25:=slice(9,t13,t18,t24,none)
     intro yv w' hR hF K hK;have f1:(yv 1) = .string digits:=hF 1 (by kernel_rfl) w' (Mod.refl _ _);have f6:(yv 6) = .int .u8 (p:Int):=hF 6 (by kernel_rfl) w' (Mod.refl _ _);have f12:(yv 12) = .int .u8 ((p:Int) + 1):=hF 12 (by kernel_rfl) w' (Mod.refl _ _);clear hF;generalize yv 1 = y1 at *;subst f1;generalize yv 6 = y6 at *;subst f6;generalize yv 12 = y12 at *;subst f12
     go_simp
     exact hK _ _ (fun _ _=>by first | trivial | rfl | simp [*]) (Mod.refl _ _)
    ·-- 14: t26:=binOp(add,9,t12,t25,9)
     intro yv w' hR hF K hK;have f0:(yv 0) = .string SA:=hF 0 (by kernel_rfl) w' (Mod.refl _ _);have f13:(yv 13) = .string SP:=hF 13 (by kernel_rfl) w' (Mod.refl _ _);clear hF;generalize yv 0 = y0 at *;subst f0;generalize yv 13 = y13 at *;subst f13;have q:¬ 9223372036854775807 < SA.size + 1:=by omega
     go_simp
     try rw [if_neg q]
     first | rw [Oper.upon_value] | skip
     exact hK _ _ (fun _ _=>rfl) (Mod.refl _ _)
    ·-- 15: t27:=move(t3)
     intro yv w' hR hF K hK;clear hF
     go_simp
     exact hK _ _ (fun _ _=>by first | trivial | rfl | simp [*]) (Mod.refl _ _)
    ·-- 16: t28:=move(t0)
     intro yv w' hR hF K hK;clear hF
     go_simp
     exact hK _ _ (fun _ _=>by first | trivial | rfl | simp [*]) (Mod.refl _ _)
    ·-- 17: t29:=move(t5)
     intro yv w' hR hF K hK;clear hF
     go_simp
     exact hK _ _ (fun _ _=>by first | trivial | rfl | simp [*]) (Mod.refl _ _)
    ·-- 18: t30:=indexAddr(22,t28,t29)
     intro yv w' hR hF K hK;have f16:(yv 16) = .slice (some ⟨b,off,none⟩) n cap:=hF 16 (by kernel_rfl) w' (Mod.refl _ _);have f17:(yv 17) = .int .i64 (k:Int):=hF 17 (by kernel_rfl) w' (Mod.refl _ _);clear hF;generalize yv 16 = y16 at *;subst f16;generalize yv 17 = y17 at *;subst f17
     go_simp
     exact hK _ _ (fun _ _=>by first | trivial | rfl | simp [*]) (Mod.refl _ _)
    ·-- 19: t31:=load(5,t30)
     intro yv w' hR hF K hK;have f18:(yv 18) = .pointer (some ⟨b,off + k,none⟩):=hF 18 (by kernel_rfl) w' (Mod.refl _ _);clear hF;generalize yv 18 = y18 at *;subst f18;obtain ⟨z,zb⟩:=hcw.out w' ((Mod.refl Nowhere _).drew.trans hR)
     go_simp
     exact hK _ _ (fun _ _=>rfl) (Mod.refl _ _)
    ·-- 20: t32:=binOp(rem,5,t31,16:u8,5)
     intro yv w' hR hF K hK;have f19:(yv 19) = .int .u8 (x:Int):=hF 19 (by kernel_rfl) w' (Mod.refl _ _);clear hF;generalize yv 19 = y19 at *;subst f19
     go_simp
     exact hK _ _ (fun _ _=>by first | trivial | rfl | simp [*]) (Mod.refl _ _)
    ·-- 21: t33:=move(t0)
     intro yv w' hR hF K hK;clear hF
     go_simp
     exact hK _ _ (fun _ _=>by first | trivial | rfl | simp [*]) (Mod.refl _ _)
    ·-- 22: t34:=move(t5)
     intro yv w' hR hF K hK;clear hF
     go_simp
     exact hK _ _ (fun _ _=>by first | trivial | rfl | simp [*]) (Mod.refl _ _)
    ·-- 23: t35:=indexAddr(22,t33,t34)
     intro yv w' hR hF K hK;have f21:(yv 21) = .slice (some ⟨b,off,none⟩) n cap:=hF 21 (by kernel_rfl) w' (Mod.refl _ _);have f22:(yv 22) = .int .i64 (k:Int):=hF 22 (by kernel_rfl) w' (Mod.refl _ _);clear hF;generalize yv 21 = y21 at *;subst f21;generalize yv 22 = y22 at *;subst f22
     go_simp
     exact hK _ _ (fun _ _=>by first | trivial | rfl | simp [*]) (Mod.refl _ _)
    ·-- 24: t36:=load(5,t35)
     intro yv w' hR hF K hK;have f23:(yv 23) = .pointer (some ⟨b,off + k,none⟩):=hF 23 (by kernel_rfl) w' (Mod.refl _ _);clear hF;generalize yv 23 = y23 at *;subst f23;obtain ⟨z,zb⟩:=hcw.out w' ((Mod.refl Nowhere _).drew.trans hR)
     go_simp
     exact hK _ _ (fun _ _=>rfl) (Mod.refl _ _)
    ·-- 25: t37:=binOp(rem,5,t36,16:u8,5)
     intro yv w' hR hF K hK;have f24:(yv 24) = .int .u8 (x:Int):=hF 24 (by kernel_rfl) w' (Mod.refl _ _);clear hF;generalize yv 24 = y24 at *;subst f24
     go_simp
     exact hK _ _ (fun _ _=>by first | trivial | rfl | simp [*]) (Mod.refl _ _)
    ·-- 26: t38:=binOp(add,5,t37,1:u8,5)
     intro yv w' hR hF K hK;have f25:(yv 25) = .int .u8 (r:Int):=hF 25 (by kernel_rfl) w' (Mod.refl _ _);clear hF;generalize yv 25 = y25 at *;subst f25
     go_simp
     exact hK _ _ (fun _ _=>by first | trivial | rfl | simp [*]) (Mod.refl _ _)
    ·-- 27: t39:=slice(9,t27,t32,t38,none)
     intro yv w' hR hF K hK;have f15:(yv 15) = .string digits:=hF 15 (by kernel_rfl) w' (Mod.refl _ _);have f20:(yv 20) = .int .u8 (r:Int):=hF 20 (by kernel_rfl) w' (Mod.refl _ _);have f26:(yv 26) = .int .u8 ((r:Int) + 1):=hF 26 (by kernel_rfl) w' (Mod.refl _ _);clear hF;generalize yv 15 = y15 at *;subst f15;generalize yv 20 = y20 at *;subst f20;generalize yv 26 = y26 at *;subst f26
     go_simp
     exact hK _ _ (fun _ _=>by first | trivial | rfl | simp [*]) (Mod.refl _ _)
    ·-- 28: t40:=binOp(add,9,t26,t39,9)
     intro yv w' hR hF K hK;have f14:(yv 14) = .string (SA ++ SP):=hF 14 (by kernel_rfl) w' (Mod.refl _ _);have f27:(yv 27) = .string SR:=hF 27 (by kernel_rfl) w' (Mod.refl _ _);clear hF;generalize yv 14 = y14 at *;subst f14;generalize yv 27 = y27 at *;subst f27;have q:¬ 9223372036854775807 < SA.size + 1 + 1:=by omega
     have q2:¬ 9223372036854775807 < (SA ++ SP).size + 1:=by omega
     go_simp
     try rw [if_neg q]
     first | rw [Oper.upon_value] | skip
     exact hK _ _ (fun _ _=>rfl) (Mod.refl _ _)
   case hE_ =>
    intro yv w' hR hF;have f0:(yv 0) = .string SA:=hF 0 (by simp) w' (Mod.refl _ _);have f1:(yv 1) = .string digits:=hF 1 (by simp) w' (Mod.refl _ _);have f2:(yv 2) = .slice (some ⟨b,off,none⟩) n cap:=hF 2 (by simp) w' (Mod.refl _ _);have f3:(yv 3) = .int .i64 (k:Int):=hF 3 (by simp) w' (Mod.refl _ _);have f4:(yv 4) = .pointer (some ⟨b,off + k,none⟩):=hF 4 (by simp) w' (Mod.refl _ _);have f5:(yv 5) = .int .u8 (x:Int):=hF 5 (by simp) w' (Mod.refl _ _);have f6:(yv 6) = .int .u8 (p:Int):=hF 6 (by simp) w' (Mod.refl _ _);have f7:(yv 7) = .slice (some ⟨b,off,none⟩) n cap:=hF 7 (by simp) w' (Mod.refl _ _);have f8:(yv 8) = .int .i64 (k:Int):=hF 8 (by simp) w' (Mod.refl _ _)
    have f9:(yv 9) = .pointer (some ⟨b,off + k,none⟩):=hF 9 (by simp) w' (Mod.refl _ _);have f10:(yv 10) = .int .u8 (x:Int):=hF 10 (by simp) w' (Mod.refl _ _);have f11:(yv 11) = .int .u8 (p:Int):=hF 11 (by simp) w' (Mod.refl _ _);have f12:(yv 12) = .int .u8 ((p:Int) + 1):=hF 12 (by simp) w' (Mod.refl _ _);have f13:(yv 13) = .string SP:=hF 13 (by simp) w' (Mod.refl _ _);have f14:(yv 14) = .string (SA ++ SP):=hF 14 (by simp) w' (Mod.refl _ _);have f15:(yv 15) = .string digits:=hF 15 (by simp) w' (Mod.refl _ _);have f16:(yv 16) = .slice (some ⟨b,off,none⟩) n cap:=hF 16 (by simp) w' (Mod.refl _ _);have f17:(yv 17) = .int .i64 (k:Int):=hF 17 (by simp) w' (Mod.refl _ _)
    have f18:(yv 18) = .pointer (some ⟨b,off + k,none⟩):=hF 18 (by simp) w' (Mod.refl _ _);have f19:(yv 19) = .int .u8 (x:Int):=hF 19 (by simp) w' (Mod.refl _ _);have f20:(yv 20) = .int .u8 (r:Int):=hF 20 (by simp) w' (Mod.refl _ _);have f21:(yv 21) = .slice (some ⟨b,off,none⟩) n cap:=hF 21 (by simp) w' (Mod.refl _ _);have f22:(yv 22) = .int .i64 (k:Int):=hF 22 (by simp) w' (Mod.refl _ _);have f23:(yv 23) = .pointer (some ⟨b,off + k,none⟩):=hF 23 (by simp) w' (Mod.refl _ _);have f24:(yv 24) = .int .u8 (x:Int):=hF 24 (by simp) w' (Mod.refl _ _);have f25:(yv 25) = .int .u8 (r:Int):=hF 25 (by simp) w' (Mod.refl _ _);have f26:(yv 26) = .int .u8 ((r:Int) + 1):=hF 26 (by simp) w' (Mod.refl _ _)
    have f27:(yv 27) = .string SR:=hF 27 (by simp) w' (Mod.refl _ _);have f28:(yv 28) = .string (SA ++ SP ++ SR):=hF 28 (by simp) w' (Mod.refl _ _);clear hF;generalize yv 0 = y0 at *;subst f0;generalize yv 1 = y1 at *;subst f1;generalize yv 2 = y2 at *;subst f2;generalize yv 3 = y3 at *;subst f3;generalize yv 4 = y4 at *;subst f4;generalize yv 5 = y5 at *;subst f5;generalize yv 6 = y6 at *;subst f6;generalize yv 7 = y7 at *;subst f7;generalize yv 8 = y8 at *;subst f8;generalize yv 9 = y9 at *;subst f9;generalize yv 10 = y10 at *;subst f10;generalize yv 11 = y11 at *;subst f11;generalize yv 12 = y12 at *
    subst f12;generalize yv 13 = y13 at *;subst f13;generalize yv 14 = y14 at *;subst f14;generalize yv 15 = y15 at *;subst f15;generalize yv 16 = y16 at *;subst f16;generalize yv 17 = y17 at *;subst f17;generalize yv 18 = y18 at *;subst f18;generalize yv 19 = y19 at *;subst f19;generalize yv 20 = y20 at *;subst f20;generalize yv 21 = y21 at *;subst f21;generalize yv 22 = y22 at *;subst f22;generalize yv 23 = y23 at *;subst f23;generalize yv 24 = y24 at *;subst f24;generalize yv 25 = y25 at *;subst f25;generalize yv 26 = y26 at *;subst f26;generalize yv 27 = y27 at *;subst f27;generalize yv 28 = y28 at *
    subst f28;simp only [List.drop_succ_cons,List.drop_zero];have hm4:=hm.out.trans ((Mod.refl Nowhere wr).drew.trans hR);clear hR hcw;replace hm4:=Lib.hid hm4;go_wp2;go_roundw
    case rel=>exact ⟨k + 1,by omega,by go_num,congrArg Value.string hs.out.symm,hm4.out⟩
    case measure=>simp [intOf];omega
  ·obtain rfl:k = l.length:=by omega
   rw [List.take_length];replace hm:=Lib.hid hm;go_wp2;go_ret;exact ⟨rfl,hm.out⟩
end Go.Proofs.YtanioleniadhoaaGreat
namespace Go.Proofs.YtanioleniadhoaaGreat
open Go.RowKit
open Jn Vn Rg Tk
attribute [local go_sem] Oper.semAt_some
def IsB (e:Ending):Prop:=∃ b:Bool,e = .returned (.bool b)
theorem IsB.mk {b:Bool}:IsB (.returned (.bool b)):=⟨b,rfl⟩
theorem light38_ok {w:World} {x:RqV} (h:RqAt w x):Calls Tryz.prog 17 #[.agg x.cells.toArray] w fun e w'=>IsB e∧Mod Nowhere w w':=by
 obtain ⟨a1,c1,a2,c2,a3,c3,a4,c4,a6,c6,a7,c7,e1,e2,e3,e4,e6,e7,ec⟩:=h.cut;have hm0:Mod Nowhere w (w.alloc (.cells x.cells.toArray 24)):=(Mod.refl _ w).alloc _;have hbx:=rq_box (w:=w) x.cells;rw [ec] at hm0 hbx ⊢;obtain ⟨y0,y1,y2,y3,y4,y5,y6,y7,yl⟩:=rq_cells (hbx _ (Mod.refl _ _));generalize x.r.act = act at *;generalize x.r.prv = prv at *;generalize x.r.dom.length = n1 at *;generalize x.r.pac.length = n2 at *;generalize x.r.app.length = n3 at *;generalize x.r.dst.length = n4 at *;generalize x.r.par.length = n6 at *;generalize x.r.hsh.length = n7 at *;clear e1 e2 e3 e4 e6 e7 ec h hbx;replace hm0:=Lib.hid hm0
 by_cases gn1:(n1:Int)≤100
 case neg =>
  go_enter Tryz.func17,Tryz.ntmps17;go_wp2;go_ret;exact ⟨IsB.mk,hm0.out⟩
 by_cases gn2:(n2:Int)≤100
 case neg =>
  go_enter Tryz.func17,Tryz.ntmps17;go_wp2;go_ret;exact ⟨IsB.mk,hm0.out⟩
 by_cases gn3:(n3:Int)≤100
 case neg =>
  go_enter Tryz.func17,Tryz.ntmps17;go_wp2;go_ret;exact ⟨IsB.mk,hm0.out⟩
 by_cases gn4:(n4:Int)≤100
 case neg =>
  go_enter Tryz.func17,Tryz.ntmps17;go_wp2;go_ret;exact ⟨IsB.mk,hm0.out⟩
 by_cases gn6:(n6:Int)≤600
 case neg =>
  go_enter Tryz.func17,Tryz.ntmps17;go_wp2;go_ret;exact ⟨IsB.mk,hm0.out⟩
 by_cases gn7:(n7:Int)≤100
 case neg =>
  go_enter Tryz.func17,Tryz.ntmps17;go_wp2;go_ret;exact ⟨IsB.mk,hm0.out⟩
 go_enter Tryz.func17,Tryz.ntmps17;go_wp2;go_ret;exact ⟨IsB.mk,hm0.out⟩
namespace Tk
def rq0:Rq:=⟨4,[160,0,0,0,1],[],[160,0,0,0,2],[],0,[],[]⟩
def enc0:List Nat:=[128,1,4,129,5,160,0,0,0,1,131,5,160,0,0,0,2]
def z16:List Nat:=[0,0,0,0,0,0,0,0,0,0,0,0,0,0,0,0]
theorem enc_rq0:encR rq0 = (0,enc0):=by decide
theorem rec_rq0:recR z16 258 rq0 = (0,0 :: 0 :: 1 :: 2 :: Cy.mac z16 Cy.zeros (Cy.by4 258 ++ rq0.enc)):=by
 unfold recR;rw [if_neg (by decide),if_neg (by decide),if_pos (show z16.length = 16 from rfl)]
 rfl
theorem xapp_idle (j:Nat):xApp (xIdle (nIt j)) (nRec j) = xIdle (nIt (j + 1)):=by
 unfold xApp xIdle nRec;rw [if_neg (show ¬ (false = true) by decide)];dsimp only;rw [nIt_set j (j + 1) (by omega)]
end Tk
theorem made16k (W:World):(Instr.makeSlice 22 (.int .i64 16) (.int .i64 16)).run Tryz.prog W = .ok (.slice (some ⟨W.heap.size,0,none⟩) 16 16) (W.alloc (.cells (u8s Tk.z16).toArray 5)):=by
 have:=run_make_full (P:=Tryz.prog) 22 5 (.int .u8 0) 1 Tryz.underlying22 info_u8 rfl 16 (by omega) (by omega) W;simpa [List.replicate,u8s,Tk.z16] using this
theorem memory38_ok (w:World):Calls Tryz.prog 33 #[] w fun e w'=>e = .returned (.agg #[.int .i64 1536,.int .i64 1073741824])∧Mod Nowhere w w':=by
 have hb2:=Blk.new w [.int .i64 1536,.int .i64 1073741824] 46;have hm:Mod Nowhere w (w.alloc (.cells #[.int .i64 1536,.int .i64 1073741824] 46)):=(Mod.refl _ w).alloc _;refine hid2 ?_ hb2 hm;clear hb2 hm;intro hb2 hm;go_enter Tryz.func33,Tryz.ntmps33;go_wp2;refine bodyPost_ret (results_cell_row rfl _ _ w.heap.size 46 _ (0,0) _ rfl hb2.out Tryz.underlying46 rfl (by kernel_rfl)) rfl ?_;exact ⟨rfl,hm.out⟩
section
variable {W0 W W' : World} {A : VAt} {m : Mem} {s : VSt} {n k last seen : Nat}
theorem NC.nextS (h:NC W0 W A m s (n + 63924) k last seen) (hl:s.l.length≤999) (hj:seen < 100000) (hp:m.pending = false):Calls Tryz.prog 36 #[ptr A.vb] W fun e w'=>e = .returned (.tuple #[.int .i64 ((seen + 1:Nat):Int),errno 0])∧(∃ m',NC W0 w' A m' (xApp s (nRec seen)) n k (if s.act = true then last else seen + 1) (seen + 1)∧m'.pending = false)∧Mod A.S W w' :=
 (tNext_ok h hl hj).mono fun e w' hq=>by
  obtain ⟨er,x,rfl,ho,hx,hm⟩:=hq;rcases ho with ⟨rfl,m',h1,h2⟩ | ⟨-,q,-⟩
  ·rw [hx rfl];exact ⟨rfl,⟨m',h1,h2.trans hp⟩,hm⟩
  ·rw [hp] at q;cases q
theorem NC.abortS (h:NC W0 W A m s (n + 63924) k last seen) (ha:s.act = true) (hp:m.pending = false) :
  Calls Tryz.prog 37 #[ptr A.vb] W fun e w'=>e = .returned (errno 0)∧(∃ m',NC W0 w' A m' (xIdle (nIt last)) n k last last∧m'.pending = false)∧Mod A.S W w' :=
 (h.abort ha).mono fun e w' hq=>by
  obtain ⟨er,rfl,ho,hm⟩:=hq;rcases ho with ⟨rfl,m',h1,h2⟩ | ⟨-,q,-⟩
  ·exact ⟨rfl,⟨m',h1,h2.trans hp⟩,hm⟩
  ·rw [hp] at q;cases q
end
theorem example38_ok (w:World):Calls Tryz.prog 18 #[] w fun e w'=>e = .returned (.bool true)∧Mod Nowhere w w':=by
 obtain ⟨w3,hw3⟩:∃ X,((w.alloc (.cells #[.int .u8 160,.int .u8 0,.int .u8 0,.int .u8 0,.int .u8 1] 5)).alloc (.cells #[.int .u8 160,.int .u8 0,.int .u8 0,.int .u8 0,.int .u8 2] 5)).alloc (.cells #[.int .i64 4,.slice (some ⟨w.heap.size,0,none⟩) 5 5,.slice none 0 0,.slice (some ⟨w.heap.size + 1,0,none⟩) 5 5,.slice none 0 0,.int .i64 0,.slice none 0 0,.slice none 0 0] 24) = X:=⟨_,rfl⟩;have hm3:Mod Nowhere w w3:=by rw [← hw3];exact (((Mod.refl _ w).alloc _).alloc _).alloc _
 have hd1:DSl w3 (.slice (some ⟨w.heap.size,0,none⟩) 5 5) [160,0,0,0,1]:=by
  rw [← hw3];exact DSl.fresh (sl_whole (sz:=1) (n:=5) (Blk.new w (u8s [160,0,0,0,1]) 5) rfl (by decide):DSl _ _ [160,0,0,0,1]) (((Mod.refl _ _).alloc _).alloc _)
 have hd2:DSl w3 (.slice (some ⟨w.heap.size + 1,0,none⟩) 5 5) [160,0,0,0,2]:=by
  rw [← hw3];have hb:=Blk.new (w.alloc (.cells #[.int .u8 160,.int .u8 0,.int .u8 0,.int .u8 0,.int .u8 1] 5)) (u8s [160,0,0,0,2]) 5;rw [World.size_alloc] at hb;exact DSl.fresh (sl_whole (sz:=1) (n:=5) hb rfl (by decide):DSl _ _ [160,0,0,0,2]) ((Mod.refl _ _).alloc _)
 have hb3:Blk w3 (w.heap.size + 2) [.int .i64 4,.slice (some ⟨w.heap.size,0,none⟩) 5 5,.slice none 0 0,.slice (some ⟨w.heap.size + 1,0,none⟩) 5 5,.slice none 0 0,.int .i64 0,.slice none 0 0,.slice none 0 0] 24:=by
  rw [← hw3];have hb:=Blk.new ((w.alloc (.cells #[.int .u8 160,.int .u8 0,.int .u8 0,.int .u8 0,.int .u8 1] 5)).alloc (.cells #[.int .u8 160,.int .u8 0,.int .u8 0,.int .u8 0,.int .u8 2] 5)) [.int .i64 4,.slice (some ⟨w.heap.size,0,none⟩) 5 5,.slice none 0 0,.slice (some ⟨w.heap.size + 1,0,none⟩) 5 5,.slice none 0 0,.int .i64 0,.slice none 0 0,.slice none 0 0] 24;rw [World.size_alloc,World.size_alloc] at hb;exact hb
 have hnb:Bytes []:=fun k=>by simp
 have hR:RqAt w3 ⟨.slice (some ⟨w.heap.size,0,none⟩) 5 5,.slice none 0 0,.slice (some ⟨w.heap.size + 1,0,none⟩) 5 5,.slice none 0 0,.slice none 0 0,.slice none 0 0,rq0⟩ :=
  ⟨hd1.src,(DSl.nil _).src,hd2.src,(DSl.nil _).src,(DSl.nil _).src,(DSl.nil _).src,bytes_mem.2 (show ∀ x ∈ [160,0,0,0,1],x < 256 by decide),hnb,bytes_mem.2 (show ∀ x ∈ [160,0,0,0,2],x < 256 by decide),hnb,hnb,hnb⟩
 have hE:Calls Tryz.prog 19 #[.agg #[.int .i64 4,.slice (some ⟨w.heap.size,0,none⟩) 5 5,.slice none 0 0,.slice (some ⟨w.heap.size + 1,0,none⟩) 5 5,.slice none 0 0,.int .i64 0,.slice none 0 0,.slice none 0 0]] w3 (BPost w3 (0,enc0)):=by
  have:=tEncode_ok hR;rw [show encR rq0 = (0,enc0) from enc_rq0] at this;exact this
 have hRec:∀ W kv,Mod Nowhere w3 W→Src W kv z16→Calls Tryz.prog 26 #[kv,.int .i64 258,.agg #[.int .i64 4,.slice (some ⟨w.heap.size,0,none⟩) 5 5,.slice none 0 0,.slice (some ⟨w.heap.size + 1,0,none⟩) 5 5,.slice none 0 0,.int .i64 0,.slice none 0 0,.slice none 0 0]] W (BPost W (recR z16 258 rq0)):=fun W kv hm hk =>
  tReceipt_ok hk (bytes_mem.2 (show ∀ x ∈ z16,x < 256 by decide)) (hR.fresh hm) 258
 have hrl:(recR z16 258 rq0).2.length = 12:=by rw [rec_rq0];show 4 + (Cy.mac z16 Cy.zeros (Cy.by4 258 ++ rq0.enc)).length = 12;rw [Cy.mac_len rfl]
 have hr0:(recR z16 258 rq0).1 = 0:=by rw [rec_rq0]
 have hr2:(recR z16 258 rq0).2.getD 2 0 = 1∧(recR z16 258 rq0).2.getD 3 0 = 2:=by rw [rec_rq0];exact ⟨rfl,rfl⟩
 have hcells:=fun W (hW:Mod Nowhere w3 W)=>rq_cells (hb3.mod hW id);obtain ⟨y0,y1,y2,y3,y4,y5,y6,y7,yl⟩:=hcells _ (Mod.refl _ _);have hHex:=fun W v (hv:Src W v enc0)=>rHex_ok hv (bytes_mem.2 (show ∀ x ∈ enc0,x < 256 by decide)) (by decide);have hhex:bStr (hexL enc0) = { data:=#[56,48,48,49,48,52,56,49,48,53,97,48,48,48,48,48,48,48,48,49,56,51,48,53,97,48,48,48,48,48,48,48,48,50] }:=rfl;rw [hhex] at hHex;generalize recR z16 258 rq0 = RC at *;obtain ⟨rce,rcl⟩:=RC;dsimp only at hrl hr0 hr2 hRec;subst hr0;have hM:=fun W=>memory38_ok W;have hN:=fun W=>vNew_ok (w:=W) (n:=1536) (e:=1073741824) (by omega) (by omega) (by omega) (by omega)
 have hen:enc0.length = 17:=rfl;generalize enc0 = E0 at *;clear hd1 hd2 hR hb3 hhex;have hsz3:w3.heap.size = w.heap.size + 3:=by rw [← hw3];simp
 refine hid12 ?_ hm3 hE hRec hrl hr2 hcells hHex hM hN hnb hen hw3;clear hm3 hE hRec hrl hr2 hcells hHex hM hN hnb hen hw3;intro hm3 hE hRec hrl hr2 hcells hHex hM hN hnb hen hw3;clear y0 y1 y2 y3 y4 y5 y6 y7 yl;go_enter Tryz.func18,Tryz.ntmps18;go_wp2_with fail;rw [hw3.out];clear hw3;refine hE.out.mono ?_;intro e w4 hb;obtain ⟨ea,ec,rfl,hd4,hm4⟩:=hb.cut;have hx4:=hcells.out w4 hm4;obtain ⟨x0,x1,x2,x3,x4,x5,x6,x7,xl⟩:=hx4;clear hb;dsimp only at hd4 ⊢;rw [hen.out] at hd4 ⊢;refine hid2 ?_ hd4 hm4;clear hd4 hm4;intro hd4 hm4;go_wp2_with fail;refine wp_region_vals (fun i=>match i with | 1=>some (.agg #[.int .i64 4,.slice (some ⟨w.heap.size,0,none⟩) 5 5,.slice none 0 0,.slice (some ⟨w.heap.size + 1,0,none⟩) 5 5,.slice none 0 0,.int .i64 0,.slice none 0 0,.slice none 0 0]) | 5=>some (.int .i64 0) | 7=>some (.int .i64 0) | _=>none) (fun i=>match i with | 2=>[0,1] | 3=>[2] | 4=>[3] | 5=>[3] | 6=>[4,2,0,1,3] | 7=>[5,6,0,1,2,3,4] | _=>[]) 8 (fun i v w'=>match i with | 0=>(∃ g:Nat,v = .slice (some ⟨g,0,none⟩) 16 16∧Src w' (.slice (some ⟨g,0,none⟩) 16 16) z16) | 2=>(∃ (a:Option Addr) (c:Nat),v = .tuple #[.slice a 12 c,errno 0]∧DSl w' (.slice a 12 c) rcl) | 3=>(∃ (a:Option Addr) (c:Nat),v = .tuple #[.slice a 12 c,errno 0]∧DSl w' (.slice a 12 c) rcl) | 4=>(∃ (a:Option Addr) (c:Nat),v = .slice a 12 c∧DSl w' (.slice a 12 c) rcl) | 6=>(∃ (a:Option Addr) (c:Nat),v = .slice a 12 c∧DSl w' (.slice a 12 c) rcl) | _=>True) ?A_3_0 (by first | assumption | kernel_rfl) (by kernel_rfl) (by kernel_rfl) (by kernel_rfl) (by rfl) ?hA_3_0 ?hS_3_0 ?hE_3_0
 case hA_3_0=>intro xs;simp [putAll,List.range,List.range.loop,Act.put] <;> rfl
 case hS_3_0 =>
  refine ⟨?q0_3_0,?q1_3_0,?q2_3_0,?q3_3_0,?q4_3_0,?q5_3_0,?q6_3_0,?_,trivial⟩
  case q0_3_0 =>
   intro yv w' hR hF K hK;clear hF;have hz:∀ W,Mod Nowhere (w'.alloc (.cells (u8s Tk.z16).toArray 5)) W→Src W (.slice (some ⟨w'.heap.size,0,none⟩) 16 16) z16:=fun W hm=>(DSl.src (d:=Tk.z16) (sl_whole (sz:=1) (n:=16) (Blk.new w' (u8s Tk.z16) 5) rfl (by decide))).fresh hm;have hmz:=made16k w';have hma:Mod Nowhere w' (w'.alloc (.cells (u8s Tk.z16).toArray 5)):=(Mod.refl _ _).alloc _;generalize (u8s Tk.z16).toArray = zs at *;refine hid2 ?_ hz hma;clear hz hma;intro hz hma
   go_simp
   exact hK _ _ (fun W hW=>⟨_,rfl,hz.out W hW⟩) hma.out
  case q1_3_0 =>
   intro yv w' hR hF K hK;clear hF;obtain ⟨z0,z1,z2,z3,z4,z5,z6,z7,zl⟩:=hcells.out w' (hm4.out.trans ((Mod.refl Nowhere _).drew.trans hR))
   go_simp
   exact hK _ _ (fun _ _=>rfl) (Mod.refl _ _)
  case q2_3_0 =>
   intro yv w' hR hF K hK;have f0:=hF 0 (by decide) w' (Mod.refl _ w');clear hF;simp only [mixD,memN,Option.getD_some,Option.getD_none] at hK ⊢;generalize yv 0 = y0 at *;obtain ⟨g,rfl,hz⟩:=f0;have hc:=hRec.out w' _ (hm4.out.trans ((Mod.refl Nowhere _).drew.trans hR)) hz;refine hid2 ?_ hc hz;clear hc hz;intro hc hz
   go_simp
   go_at_call 26
   refine hc.out.mono ?_;intro e w9 hb9;obtain ⟨a9,c9,rfl,hd9,hm9⟩:=hb9.cut;dsimp only at hd9 ⊢;rw [hrl.out] at hd9 ⊢;exact hK _ _ (fun W hW=>⟨a9,c9,rfl,hd9.fresh hW⟩) hm9
  case q3_3_0 =>
   intro yv w' hR hF K hK;have f2:=hF 2 (by decide) w' (Mod.refl _ w');clear hF;simp only [mixD,memN,Option.getD_some,Option.getD_none] at hK ⊢;generalize yv 2 = y2 at *;obtain ⟨a',c',rfl,hs⟩:=f2;replace hs:=Lib.hid hs
   go_simp
   exact hK _ _ (fun W hW=>⟨a',c',rfl,hs.out.fresh hW⟩) (Mod.refl _ _)
  case q4_3_0 =>
   intro yv w' hR hF K hK;have f3:=hF 3 (by decide) w' (Mod.refl _ w');clear hF;simp only [mixD,memN,Option.getD_some,Option.getD_none] at hK ⊢;generalize yv 3 = y3 at *;obtain ⟨a',c',rfl,hs⟩:=f3;replace hs:=Lib.hid hs
   go_simp
   exact hK _ _ (fun W hW=>⟨a',c',rfl,hs.out.fresh hW⟩) (Mod.refl _ _)
  case q5_3_0 =>
   intro yv w' hR hF K hK;have f3:=hF 3 (by decide) w' (Mod.refl _ w');clear hF;simp only [mixD,memN,Option.getD_some,Option.getD_none] at hK ⊢;generalize yv 3 = y3 at *;obtain ⟨a',c',rfl,hs⟩:=f3;replace hs:=Lib.hid hs
   go_simp
   exact hK _ _ (fun W hW=>rfl) (Mod.refl _ _)
  case q6_3_0 =>
   intro yv w' hR hF K hK;have f4:=hF 4 (by decide) w' (Mod.refl _ w');have f2:=hF 2 (by decide) w' (Mod.refl _ w');have f0:=hF 0 (by decide) w' (Mod.refl _ w');have f3:=hF 3 (by decide) w' (Mod.refl _ w');clear hF;simp only [mixD,memN,Option.getD_some,Option.getD_none] at hK ⊢;generalize yv 4 = y4 at *;generalize yv 2 = y2 at *;generalize yv 0 = y0 at *;generalize yv 3 = y3 at *;obtain ⟨a',c',rfl,hs⟩:=f4;replace hs:=Lib.hid hs
   go_simp
   exact hK _ _ (fun W hW=>⟨a',c',rfl,hs.out.fresh hW⟩) (Mod.refl _ _)
  all_goals
   intro yv w' hR hF K hK;clear hF
   go_simp
   exact hK _ _ (fun _ _=>by first | trivial | exact rfl | simp [*,known]) (Mod.refl _ _)
 case hE_3_0 =>
  intro yv w' hR hF;have f0:=hF 0 (by decide) w' (Mod.refl _ w');have f2:=hF 2 (by decide) w' (Mod.refl _ w');have f3:=hF 3 (by decide) w' (Mod.refl _ w');have f4:=hF 4 (by decide) w' (Mod.refl _ w');have f6:=hF 6 (by decide) w' (Mod.refl _ w');clear hF;simp only [mixN,Option.getD_some,Option.getD_none,Nat.reduceLT,if_true];generalize yv 0 = y0 at *;generalize yv 2 = y2 at *;generalize yv 3 = y3 at *;generalize yv 4 = y4 at *;generalize yv 6 = y6 at *;obtain ⟨ra,rc,rfl,hd5⟩:=f6;obtain ⟨rb,ro,rcc,e9,r1,r2,hrc⟩:=hd5.src.form (by rw [hrl.out];decide);rw [hrl.out] at e9 r1;simp at e9
  obtain ⟨rfl,rfl⟩:=e9;have hmr:=hm4.out.trans ((Mod.refl Nowhere w4).drew.trans hR);have hd6:=hd4.out.fresh ((Mod.refl Nowhere w4).drew.trans hR);clear f0 f2 f3 f4 hR hd5 x0 x1 x2 x3 x4 x5 x6 x7 xl;unfold maxLen at r2;refine hid3 ?_ hmr hd6 hrc;clear hmr hd6 hrc;intro hmr hd6 hrc;go_wp2_with fail;refine (hM.out _).mono ?_;rintro e w6 ⟨rfl,hm6⟩;have hmq:=hmr.out.trans hm6;refine hid2 ?_ hm6 hmq;clear hm6 hmq;intro hm6 hmq;go_wp2_with fail;refine (hN.out _).mono ?_;intro e w7 hv;obtain ⟨A,m,rfl,hc,hp⟩:=hv.vl64;clear hv
  have hx1:Calls Tryz.prog 36 #[ptr A.vb] w7 fun e w'=>e = .returned (.tuple #[.int .i64 1,errno 0])∧(∃ m',NC w6 w' A m' (xIdle (nIt 1)) 900000000 0 1 1∧m'.pending = false):=by
   refine ((hc.less (n':=900000000 + 63924) (by decide)).nextS (Nat.zero_le _) (by decide) hp).mono fun e w' ⟨q1,q2,q3⟩=>⟨q1,?_⟩;rw [xapp_idle] at q2;exact q2
  refine hid3 ?_ hx1 hc hp;clear hx1 hc hp;intro hx1 hc hp;go_wp2_with fail;refine hx1.out.mono ?_;rintro e w8 ⟨rfl,m8,hc8,hp8⟩;have hx8:=hHex.out w8 _ (hd6.out.fresh (hm6.out.trans hc8.md)).src;have hb8:=fun W (hm:Mod Nowhere w8 W)=>(hc8.fresh hm);refine hid3 ?_ hc8 hx8 hb8;clear hc8 hx8 hb8;intro hc8 hx8 hb8;go_wp2_with fail;refine hx8.out.mono ?_;rintro e w9 ⟨rfl,hm9⟩;have hc9:=hc8.out.fresh hm9;have k2:=hrc.out w9 (hm6.out.trans hc9.md) 2 (by rw [hrl.out];decide);have k3:=hrc.out w9 (hm6.out.trans hc9.md) 3 (by rw [hrl.out];decide);rw [hr2.out.1] at k2;rw [hr2.out.2] at k3;have hbl:=cell_lt' k2
  have hB9:=(hc9.less (n':=800000000 + 63924) (by decide)).begin rfl hp8;refine hid3 ?_ hc9 hm9 hB9;clear hc9 hm9 hB9;intro hc9 hm9 hB9;go_wp2_with fail;refine hB9.out.mono ?_;rintro e w10 ⟨rfl,⟨m10,hc10,hp10⟩,-⟩;clear k2 k3 hbl
  have hx10:Calls Tryz.prog 36 #[ptr A.vb] w10 fun e w'=>e = .returned (.tuple #[.int .i64 2,errno 0])∧(∃ m',NC w6 w' A m' ⟨nIt 1,true,[nRec 1]⟩ 700000000 0 1 2∧m'.pending = false) :=
   ((hc10.less (n':=700000000 + 63924) (by decide)).nextS (Nat.zero_le _) (by decide) hp10).mono fun e w' ⟨q1,q2,q3⟩=>⟨q1,q2⟩
  refine hid2 ?_ hc10 hx10;clear hc10 hx10;intro hc10 hx10;go_wp2_with fail;refine hx10.out.mono ?_;rintro e w11 ⟨rfl,m11,hc11,hp11⟩;have hA11:=(hc11.less (n':=600000000 + 63924) (by decide)).abortS rfl hp11;refine hid2 ?_ hc11 hA11;clear hc11 hA11;intro hc11 hA11;go_wp2_with fail;refine hA11.out.mono ?_;rintro e w12 ⟨rfl,⟨m12,hc12,hp12⟩,-⟩
  have hx12:Calls Tryz.prog 36 #[ptr A.vb] w12 fun e w'=>e = .returned (.tuple #[.int .i64 2,errno 0])∧(∃ m',NC w6 w' A m' (xIdle (nIt 2)) 500000000 0 2 2∧m'.pending = false):=by
   refine ((hc12.less (n':=500000000 + 63924) (by decide)).nextS (Nat.zero_le _) (by decide) hp12).mono fun e w' ⟨q1,q2,q3⟩=>⟨q1,?_⟩;rw [xapp_idle] at q2;exact q2
  refine hid2 ?_ hc12 hx12;clear hc12 hx12;intro hc12 hx12;go_wp2_with fail;refine hx12.out.mono ?_;rintro e w13 ⟨rfl,m13,hc13,hp13⟩;have hmF:=((hm3.out.trans hmq.out)).trans hc13.md;refine hid2 ?_ hc13 hmF;clear hc13 hmF;intro hc13 hmF;go_wp2;go_ret;exact ⟨rfl,hmF.out⟩
end Go.Proofs.YtanioleniadhoaaGreat
