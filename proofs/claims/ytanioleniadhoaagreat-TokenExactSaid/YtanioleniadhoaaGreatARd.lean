/-
  Comparing strings of bytes: the reference's order and the program's.
-/
import Derived.Test.YtanioleniadhoaaGreatASq
import Derived.Test.YtanioleniadhoaaGreatAG80
set_option linter.unusedVariables false
set_option linter.unusedSimpArgs false
set_option maxHeartbeats 2000000
set_option maxRecDepth 100000
namespace Go.Proofs.YtanioleniadhoaaGreat
open Go.RowKit
open Jn Vn Rg
attribute [local go_sem] Oper.semAt_some
theorem take_snoc_n {a b:List Nat} {k:Nat} (h1:k < a.length) (h2:k < b.length) (h:a.take k = b.take k) (e:a.getD k 0 = b.getD k 0):a.take (k + 1) = b.take (k + 1):=by
 rw [List.take_succ_eq_append_getElem h1,List.take_succ_eq_append_getElem h2,h];rw [gd0,gd0,List.getElem?_eq_getElem h1,List.getElem?_eq_getElem h2] at e;simp at e;rw [e]
structure CmpK (a b:List Nat) (n m:Nat):Prop where
 lt:∀ k,k < n→k < m→a.take k = b.take k→a.getD k 0 < b.getD k 0→cmpB a b = -1
 gt:∀ k,k < n→k < m→a.take k = b.take k→b.getD k 0 < a.getD k 0→cmpB a b = 1
 go:∀ k,k < n→k < m→a.take k = b.take k→a.getD k 0 = b.getD k 0→a.take (k + 1) = b.take (k + 1)
 fin:∀ k,k≤n→k≤m→a.take k = b.take k→¬ (k < n∧k < m)→cmpB a b = if n < m then -1 else if m < n then 1 else 0
theorem cmpK (a b:List Nat):CmpK a b a.length b.length :=
 ⟨fun _ h1 h2 h=>cmpB_lt h1 h2 h,fun _ h1 h2 h=>cmpB_gt h1 h2 h,fun _ h1 h2 h e=>take_snoc_n h1 h2 h e,fun _ h1 h2 h e=>cmpB_end h1 h2 h e⟩
theorem rCmp_ok {w:World} {u v:Value} {a b:List Nat} (hu:Src w u a) (hv:Src w v b) (ha:Bytes a) (hb:Bytes b) (hla:a.length≤1099511627776) (hlb:b.length≤1099511627776) :
  Calls Tryz.prog 86 #[u,v] w fun e w'=>e = .returned (.int .i64 (cmpB a b))∧Mod Nowhere w w':=by
 obtain ⟨ua,uc,rfl,hu1,hu2,hu3⟩:=hu;obtain ⟨va,vc,rfl,hv1,hv2,hv3⟩:=hv;have hK:=cmpK a b;generalize a.length = n at *;generalize b.length = m at *;refine hid5 ?_ hu3 hv3 hK ha hb;clear hu3 hv3 hK ha hb;intro hu3 hv3 hK ha hb;go_enter Tryz.func86,Tryz.ntmps86;go_wp2
 go_loopw [5] (fun i wr=>∃ k:Nat,k≤n∧k≤m∧i = .int .i64 k∧a.take k = b.take k∧Mod Nowhere w wr) (fun i _=>n - (RowKit.intOf i).toNat)
 case atStart=>exact ⟨0,by omega,by omega,rfl,rfl,Mod.refl _ _⟩
 case round =>
  obtain ⟨k,hk1,hk2,rfl,htk,hmd⟩:=hrel;by_cases hlt:k < n∧k < m
  ·obtain ⟨hlt1,hlt2⟩:=hlt;obtain ⟨b1,o1,rfl,hb1,hc1⟩:=hu3.out (by omega);obtain ⟨b2,o2,rfl,hb2,hc2⟩:=hv3.out (by omega);have c1:=(hmd.cell (p:=⟨b1,o1 + k,none⟩) hb1 id).trans (hc1 k hlt1);have c2:=(hmd.cell (p:=⟨b2,o2 + k,none⟩) hb2 id).trans (hc2 k hlt2);have hx:=ha.out k;have hy:=hb.out k;have k1:=hK.out.lt k hlt1 hlt2 htk;have k2:=hK.out.gt k hlt1 hlt2 htk;have k3:=hK.out.go k hlt1 hlt2 htk;generalize a.getD k 0 = x at *;generalize b.getD k 0 = y at *;refine hid5 ?_ k1 k2 k3 htk hmd;clear k1 k2 k3 htk hmd;intro k1 k2 k3 htk hmd;clear hc1 hc2;have hw1:(k:Int) < n:=by omega
   have hw2:(k:Int) < m:=by omega
   by_cases hxy:x < y
   ·have hi1:(x:Int) < y:=by omega
    go_wp2_with fail
    go_quiet (fail)
    go_wp2;go_ret;exact ⟨ret_int (k1.out hxy).symm,hmd.out.drewN _⟩
   ·by_cases hyx:y < x
    ·have hi1:¬ (x:Int) < y:=by omega
     have hi2:(y:Int) < x:=by omega
     go_wp2_with fail
     go_quiet (fail)
     go_wp2_with fail
     go_quiet (fail)
     go_wp2;go_ret;exact ⟨ret_int (k2.out hyx).symm,(hmd.out.drewN _).drewN _⟩
    ·have hi1:¬ (x:Int) < y:=by omega
     have hi2:¬ (y:Int) < x:=by omega
     go_wp2_with fail
     go_quiet (fail)
     go_wp2_with fail
     go_quiet (fail)
     go_wp2;go_roundw
     case rel=>exact ⟨k + 1,by omega,by omega,by go_num,k3.out (by omega),hmd.out.drewN _⟩
     case measure=>simp [RowKit.intOf];omega
  ·have he:=hK.out.fin k hk1 hk2 htk hlt;refine hid3 ?_ he hmd htk;clear he hmd htk;intro he hmd htk;by_cases hkn:k < n
   ·have hkm:k = m:=by omega
    subst hkm;go_wp2;go_ret;exact ⟨ret_int (by rw [he.out,if_neg (by omega),if_pos (by omega)]),hmd.out⟩
   ·have hkn2:k = n:=by omega
    subst hkn2;by_cases hkm:k < m
    ·go_wp2;go_ret;exact ⟨ret_int (by rw [he.out,if_pos (by omega)]),hmd.out⟩
    ·have hkm2:k = m:=by omega
     subst hkm2;go_wp2;go_ret;exact ⟨ret_int (by rw [he.out,if_neg (by omega),if_neg (by omega)]),hmd.out⟩
theorem cmpB_zero (a b:List Nat):decide (cmpB a b = 0) = decide (a = b):=by
 by_cases h:a = b
 ·subst h;simp [cmpB_self]
 ·rw [decide_eq_false h,decide_eq_false (fun e=>h (cmpB_eq e))]
theorem r01Same_ok {w:World} {u v:Value} {a b:List Nat} (hu:Src w u a) (hv:Src w v b) (ha:Bytes a) (hb:Bytes b) (hla:a.length≤1099511627776) (hlb:b.length≤1099511627776) :
  Calls Tryz.prog 23 #[u,v] w fun e w'=>e = .returned (.bool (decide (a = b)))∧Mod Nowhere w w':=by
 have hC:=rCmp_ok hu hv ha hb hla hlb;have hz:=cmpB_zero a b;obtain ⟨ua,uc,rfl,-⟩:=hu;obtain ⟨va,vc,rfl,-⟩:=hv;generalize a.length = n at *;generalize b.length = m at *;generalize cmpB a b = c at *;refine hid2 ?_ hC hz;clear hC hz;intro hC hz;go_enter Tryz.func23,Tryz.ntmps23;go_wp2_with fail;refine (hC.out).mono ?_;rintro e w1 ⟨rfl,hm1⟩;go_wp2;go_ret;exact ⟨ret_bool (by rw [← hz.out];rfl),hm1⟩
end Go.Proofs.YtanioleniadhoaaGreat
