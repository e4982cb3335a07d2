/-
  Comparing strings of bytes, and lists of numbers.
-/
import Derived.Test.YtoehlaeaafalmaaGreatCG36
set_option linter.unusedVariables false
set_option linter.unusedSimpArgs false
set_option maxHeartbeats 2000000
set_option maxRecDepth 100000
namespace Go.Proofs.YtoehlaeaafalmaaGreat
open Go.RowKit
open Jn Vn
attribute [local go_sem] Oper.semAt_some
theorem Zg4 {a b:List Nat} {k:Nat} (h1:k < a.length) (h2:k < b.length) (h:a.take k = b.take k) (e:a.getD k 0 = b.getD k 0):a.take (k + 1) = b.take (k + 1):=by
 rw [List.take_succ_eq_append_getElem h1,List.take_succ_eq_append_getElem h2,h];rw [gd0,gd0,List.getElem?_eq_getElem h1,List.getElem?_eq_getElem h2] at e;simp at e;rw [e]
theorem Zg5 {a b:List Nat} (h:a = b) (k:Nat):a.getD k 0 = b.getD k 0:=by rw [h]
theorem Zg6 {w:World} {u v:Value} {a b:List Nat} (hu:Src w u a) (hv:Src w v b) (ha:Bytes a) (hb:Bytes b) (hla:a.length≤1099511627776) (hlb:b.length≤1099511627776) :
  Calls Tryz.prog 78 #[u,v] w fun e w'=>∃ c:Int,e = .returned (.int .i64 c)∧decide (c = 0) = decide (a = b)∧Mod Nowhere w w':=by
 obtain ⟨ua,uc,rfl,hu1,hu2,hu3⟩:=hu;obtain ⟨va,vc,rfl,hv1,hv2,hv3⟩:=hv;obtain ⟨n,hn⟩:∃ n,a.length = n:=⟨_,rfl⟩;obtain ⟨m,hm⟩:∃ m,b.length = m:=⟨_,rfl⟩;rw [hn] at hu1 hu3 hla ⊢;rw [hm] at hv1 hv3 hlb ⊢;have hne:∀ k,k < n→k < m→a.getD k 0 ≠ b.getD k 0→a ≠ b:=fun k _ _ h e=>h (Zg5 e k)
 have heq:∀ k,k≤n→k≤m→a.take k = b.take k→¬ (k < n∧k < m)→(a = b ↔ n = m):=fun k h1 h2 h3 h4=>by
  constructor
  ·intro e;rw [← hn,← hm,e]
  ·intro e;have:k = n:=by omega
   rw [this,← hn,List.take_length,hn,e,← hm,List.take_length] at h3;exact h3
 refine hid8 ?_ hn hm hu3 hv3 hne heq ha hb;clear hn hm hu3 hv3 hne heq ha hb;intro hn hm hu3 hv3 hne heq ha hb;go_enter Tryz.func78,Tryz.ntmps78;go_wp2
 go_loopw [5] (fun i wr=>∃ k:Nat,k≤n∧k≤m∧i = .int .i64 k∧a.take k = b.take k∧Mod Nowhere w wr) (fun i _=>n - (RowKit.intOf i).toNat)
 case atStart=>exact ⟨0,by omega,by omega,rfl,rfl,Mod.refl _ _⟩
 case round =>
  obtain ⟨k,hk1,hk2,rfl,htk,hmd⟩:=hrel;by_cases hlt:k < n∧k < m
  ·obtain ⟨hlt1,hlt2⟩:=hlt;obtain ⟨b1,o1,rfl,hb1,hc1⟩:=hu3.out (by omega);obtain ⟨b2,o2,rfl,hb2,hc2⟩:=hv3.out (by omega);have c1:=(hmd.cell (p:=⟨b1,o1 + k,none⟩) hb1 id).trans (hc1 k hlt1);have c2:=(hmd.cell (p:=⟨b2,o2 + k,none⟩) hb2 id).trans (hc2 k hlt2);have hx:=ha.out k;have hy:=hb.out k;have hstep:=Zg4 (a:=a) (b:=b) (k:=k) (by rw [hn.out];exact hlt1) (by rw [hm.out];exact hlt2) htk;have hn2:=hne.out k hlt1 hlt2;generalize a.getD k 0 = x at *;generalize b.getD k 0 = y at *;refine hid4 ?_ hstep hn2 htk hmd;clear hstep hn2 htk hmd;intro hstep hn2 htk hmd
   clear hc1 hc2;have hw1:(k:Int) < n:=by omega
   have hw2:(k:Int) < m:=by omega
   by_cases hxy:x < y
   ·have hi1:(x:Int) < y:=by omega
    have hab:a ≠ b:=hn2.out (by omega);replace hab:=Lib.hid hab;go_wp2_with fail
    go_quiet (fail)
    go_wp2;go_ret;exact ⟨-1,rfl,by simp [hab.out],hmd.out.drewN _⟩
   ·by_cases hyx:y < x
    ·have hi1:¬ (x:Int) < y:=by omega
     have hi2:(y:Int) < x:=by omega
     have hab:a ≠ b:=hn2.out (by omega);replace hab:=Lib.hid hab;go_wp2_with fail
     go_quiet (fail)
     go_wp2_with fail
     go_quiet (fail)
     go_wp2;go_ret;exact ⟨1,rfl,by simp [hab.out],(hmd.out.drewN _).drewN _⟩
    ·have hi1:¬ (x:Int) < y:=by omega
     have hi2:¬ (y:Int) < x:=by omega
     have ht2:=hstep.out (by omega);replace ht2:=Lib.hid ht2;go_wp2_with fail
     go_quiet (fail)
     go_wp2_with fail
     go_quiet (fail)
     go_wp2;go_roundw
     case rel=>exact ⟨k + 1,by omega,by omega,by go_num,ht2.out,hmd.out.drewN _⟩
     case measure=>simp [RowKit.intOf];omega
  ·have he:=heq.out k hk1 hk2 htk hlt;refine hid3 ?_ he hmd htk;clear he hmd htk;intro he hmd htk
   have fin:∀ c:Int,(c = 0 ↔ n = m)→decide (c = 0) = decide (a = b):=fun c h=>by
    rw [decide_eq_decide,he.out];exact h
   replace fin:=Lib.hid fin;by_cases hkn:k < n
   ·have hkm:k = m:=by omega
    subst hkm;go_wp2;go_ret;exact ⟨1,rfl,fin.out 1 (by omega),hmd.out⟩
   ·have hkn2:k = n:=by omega
    subst hkn2;by_cases hkm:k < m
    ·go_wp2;go_ret;exact ⟨-1,rfl,fin.out (-1) (by omega),hmd.out⟩
    ·have hkm2:k = m:=by omega
     have hab:a = b:=he.out.2 (by omega);subst hkm2;replace hab:=Lib.hid hab;go_wp2;go_ret;exact ⟨0,rfl,by simp [hab.out],hmd.out⟩
theorem Zg7 {w:World} {u v:Value} {a b:List Nat} (hu:Src w u a) (hv:Src w v b) (ha:Bytes a) (hb:Bytes b) (hla:a.length≤1099511627776) (hlb:b.length≤1099511627776) :
  Calls Tryz.prog 46 #[u,v] w fun e w'=>e = .returned (.bool (decide (a = b)))∧Mod Nowhere w w':=by
 have hC:=Zg6 hu hv ha hb hla hlb;obtain ⟨ua,uc,rfl,-⟩:=hu;obtain ⟨va,vc,rfl,-⟩:=hv;generalize a.length = n at *;generalize b.length = m at *;replace hC:=Lib.hid hC;go_enter Tryz.func46,Tryz.ntmps46;go_wp2_with fail;refine hC.out.mono ?_;rintro e w1 ⟨c,rfl,hc,hm1⟩;go_wp2;go_ret;exact ⟨Zd (by rw [← hc];rfl),hm1⟩
theorem Zg8 {a b:List Int} {k:Nat} (h1:k < a.length) (h2:k < b.length) (h:a.take k = b.take k) (e:a.getD k 0 = b.getD k 0):a.take (k + 1) = b.take (k + 1):=by
 rw [List.take_succ_eq_append_getElem h1,List.take_succ_eq_append_getElem h2,h];rw [gd0,gd0,List.getElem?_eq_getElem h1,List.getElem?_eq_getElem h2] at e;simp at e;rw [e]
theorem Zco {w:World} {u v:Value} {a b:List Int} (hu:InRow w u a) (hv:InRow w v b) (hla:a.length≤1099511627776) (hlb:b.length≤1099511627776) :
  Calls Tryz.prog 33 #[u,v] w fun e w'=>e = .returned (.bool (decide (a = b)))∧Mod Nowhere w w':=by
 obtain ⟨ua,uc,rfl,hu1,hu2,hu3⟩:=hu;obtain ⟨va,vc,rfl,hv1,hv2,hv3⟩:=hv;obtain ⟨n,hn⟩:∃ n,a.length = n:=⟨_,rfl⟩;obtain ⟨m,hm⟩:∃ m,b.length = m:=⟨_,rfl⟩;rw [hn] at hu1 hu3 hla ⊢;rw [hm] at hv1 hv3 hlb ⊢;by_cases hnm:n = m
 ·have hne:∀ k,k < n→a.getD k 0 ≠ b.getD k 0→a ≠ b:=fun k _ h e=>h (by rw [e])
  have heq:a.take n = b.take n→a = b:=fun h3=>by
   rw [← hn,List.take_length,hn,hnm,← hm,List.take_length] at h3;exact h3
  subst hnm;refine hid6 ?_ hn hm hu3 hv3 hne heq;clear hn hm hu3 hv3 hne heq;intro hn hm hu3 hv3 hne heq;go_enter Tryz.func33,Tryz.ntmps33;go_wp2
  go_loopw [5] (fun i wr=>∃ k:Nat,k≤n∧i = .int .i64 k∧a.take k = b.take k∧Mod Nowhere w wr) (fun i _=>n - (RowKit.intOf i).toNat)
  case atStart=>exact ⟨0,by omega,rfl,rfl,Mod.refl _ _⟩
  case round =>
   obtain ⟨k,hk1,rfl,htk,hmd⟩:=hrel;by_cases hlt:k < n
   ·obtain ⟨b1,o1,rfl,hb1,hc1⟩:=hu3.out (by omega);obtain ⟨b2,o2,rfl,hb2,hc2⟩:=hv3.out (by omega);have c1:=(hmd.cell (p:=⟨b1,o1 + k,none⟩) hb1 id).trans (hc1 k hlt);have c2:=(hmd.cell (p:=⟨b2,o2 + k,none⟩) hb2 id).trans (hc2 k hlt);have hstep:=Zg8 (a:=a) (b:=b) (k:=k) (by rw [hn.out];exact hlt) (by rw [hm.out];exact hlt) htk;have hn2:=hne.out k hlt;generalize a.getD k 0 = x at *;generalize b.getD k 0 = y at *;refine hid4 ?_ hstep hn2 htk hmd;clear hstep hn2 htk hmd;intro hstep hn2 htk hmd;clear hc1 hc2;have hw1:(k:Int) < n:=by omega
    by_cases hxy:x = y
    ·subst hxy;have ht2:=hstep.out rfl;replace ht2:=Lib.hid ht2;go_wp2_with fail
     go_quiet (fail)
     go_wp2;go_roundw
     case rel=>exact ⟨k + 1,by omega,by go_num,ht2.out,hmd.out.drewN _⟩
     case measure=>simp [RowKit.intOf];omega
    ·have hab:a ≠ b:=hn2.out hxy;replace hab:=Lib.hid hab;have hxb:(x == y) = false:=by simpa using hxy
     go_wp2_with fail
     go_quiet (fail)
     go_wp2;go_ret;exact ⟨Zd (by simp [hab.out]),hmd.out.drewN _⟩
   ·obtain rfl:k = n:=by omega
    have hab:=heq.out htk;refine hid3 ?_ hab hmd htk;clear hab hmd htk;intro hab hmd htk;go_wp2;go_ret;exact ⟨Zd (by simp [hab.out]),hmd.out⟩
 ·have hab:a ≠ b:=fun e=>hnm (by rw [← hn,← hm,e]);have hb:((n:Int) == (m:Int)) = false:=by simpa using fun e=>hnm (by omega)
  refine hid5 ?_ hab hn hm hu3 hv3;clear hab hn hm hu3 hv3;intro hab hn hm hu3 hv3;go_enter Tryz.func33,Tryz.ntmps33;go_wp2;go_ret;exact ⟨Zd (by simp [hab.out]),Mod.refl _ _⟩
end Go.Proofs.YtoehlaeaafalmaaGreat
