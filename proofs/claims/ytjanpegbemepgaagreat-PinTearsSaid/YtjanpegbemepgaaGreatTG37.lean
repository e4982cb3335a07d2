/-
  The PINs: several changes together (atomic).
-/
import Derived.Test.YtjanpegbemepgaaGreatTG33
set_option linter.unusedVariables false
set_option linter.unusedSimpArgs false
set_option maxRecDepth 100000
namespace Go.Proofs.YtjanpegbemepgaaGreat
open Go.RowKit
open Jn Vn
attribute [local go_sem] Oper.semAt_some
theorem VDead.fresh {w w':World} {A:VAt} {m:Mem} {f:Items} (h:VDead w A m f) (hm:Mod Nowhere w w'):VDead w' A m f:=by
 obtain ⟨P,p,pc_of,J,bank,end_,h1,h2,h3,h4,h5⟩:=h.ex;obtain ⟨b,e,ib,act,lv,hb⟩:=h.bv;exact ⟨⟨P,p,pc_of,J,bank,end_,h1.mod hm (fun _ _=>id) (fun _ _=>id),h2,h3,h4,h5⟩,h.mem.mod hm (fun _ _=>id),h.bj.mod hm (fun e=>e),⟨b,e,ib,act,lv,hb.mod hm (fun e=>e)⟩,h.off⟩
set_option maxHeartbeats 16000000 in
theorem pinAtomic_ok {w:World} {pb:Nat} {A:VAt} {m:Mem} {s:VSt} (hp:PnAt w pb A.vb) (h:VRep w A m s) (hxn:s.l.length≤90000) {K:Nat} (hrm:Room m (K + vcost A)) (np:¬ A.S pb) (g:FuncId) (cap:Array Value) (hent:∀ args w,(callFunc g args).run Tryz.prog w = .ok (.enter g args) w) (F:VSt→VSt × Nat)
  (hF:∀ s1,(F s1).1.l.length≤s1.l.length + 10) (hFf:(F { s with act:=true,l:=[] }).1.f = s.f)
  (hf:∀ W s1,Mod A.S w W→VRep W A m s1→s1.act = true→s1.f = s.f→(s1 = s ∨ s1 = { s with act:=true,l:=[] })→Calls Tryz.prog g cap W (PC (fun f=>f = s.f) W A m (F s1).1 (F s1).2 K)) :
  Calls Tryz.prog 63 #[ptr pb,.func (.func g) #[] cap] w (PC (fun f=>f = s.f ∨ f = (vAtomic A.Z s F).1.f) w A m (vAtomic A.Z s F).1 (vAtomic A.Z s F).2 (K + vcost A)):=by
 have k0:=Blk.cell hp 0;simp only [List.getElem?_cons_zero] at k0;have l0:=Blk.lt hp
 have hrun0:Runs m m 0:=by
  obtain ⟨P,p,pc,J,bank,end_,ib,lv,xs,hV⟩:=h.ex;exact hV.jr.runs
 have hAc:=vActive_rep h
 have hcell:∀ W,Mod A.S w W→W.cell? ⟨pb,0,none⟩ = some (ptr A.vb)∧pb < W.heap.size:=fun W hm=>by
  have c:=Blk.cell (Blk.mod hp hm np) 0;simp only [List.getElem?_cons_zero] at c;exact ⟨c,Nat.lt_of_lt_of_le l0 hm.size⟩
 cases hact:s.act
 ·rw [hact] at hAc
  have hat:∀ q,F { s with act:=true,l:=[] } = q→vAtomic A.Z s F = (if q.2 = 0 then (if (vCommit A.Z q.1).2 = 0 then vCommit A.Z q.1 else ((vAbort (vCommit A.Z q.1).1).1,(vCommit A.Z q.1).2)) else ((vAbort q.1).1,q.2)):=fun q hq=>by
   unfold vAtomic;rw [if_neg (by rw [hact];decide),hq]
  have hBg:∀ W,Mod Nowhere w W→Calls Tryz.prog 10 #[ptr A.vb] W fun e w'=>e = .returned (errno 0)∧VRep w' A m { s with act:=true,l:=[] }∧Mod A.S W w':=fun W hm=>by
   have:=vBegin_is (h.fresh hm);unfold vBegin at this;rw [if_neg (by rw [hact];decide)] at this;exact this
  have hln:=hF { s with act:=true,l:=[] };obtain ⟨q,hq⟩:∃ q,F { s with act:=true,l:=[] } = q:=⟨_,rfl⟩;have hat:=hat q hq;have hfs:=fun W (hm:Mod A.S w W) hv=>hf W { s with act:=true,l:=[] } hm hv rfl rfl (.inr rfl);simp only [hq] at hfs hln hFf;replace hln:q.1.l.length≤10:=by simpa using hln
  refine hid12 ?_ hBg hfs hAc h hp hF hf hcell hq hact hat hFf;clear hBg hfs hAc h hp hF hf hcell hq hact hat hFf;intro hBg hfs hAc h hp hF hf hcell hq hact hat hFf;go_enter Tryz.func63,Tryz.ntmps63;go_wp2_with fail;refine hAc.out.mono ?_;rintro e w1 ⟨rfl,hm1⟩;have hS1:=hBg.out w1 hm1;obtain ⟨k1,l1⟩:=hcell.out w1 hm1.nowhere;refine hid2 ?_ hS1 hm1;clear hS1 hm1;intro hS1 hm1;go_wp2_with fail;refine hS1.out.mono ?_;rintro e w2 ⟨rfl,hv2,hm2⟩;have hm02:Mod A.S w w2:=hm1.out.nowhere.trans hm2;have hf2:=hfs.out w2 hm02 hv2;obtain ⟨k2,l2⟩:=hcell.out w2 hm02;refine hid4 ?_ hm2 hm02 hv2 hf2;clear hm2 hm02 hv2 hf2;intro hm2 hm02 hv2 hf2
  go_wp2_with fail;refine hf2.out.mono ?_;rintro e w3 hc;rcases hc with ⟨m',j,rfl,hv,hk,hr,hm3⟩ | ⟨m',f,rfl,hfe,hd,hst,hm3⟩
  ·have hm03:Mod A.S w w3:=hm02.out.trans hm3;obtain ⟨k3,l3⟩:=hcell.out w3 hm03;by_cases h0':q.2 = 0
   ·have hC:=vCommit_ok hv (by omega) (hrm.runs hr (by omega));replace hat:=hat.out;rw [if_pos h0'] at hat;obtain ⟨r,hr2⟩:∃ r,vCommit A.Z q.1 = r:=⟨_,rfl⟩
    have hr10:r.2 ≠ 0→r.1 = q.1:=fun hne=>by
     rw [← hr2] at hne ⊢;unfold vCommit at hne ⊢
     split at hne
     ·split at hne
      ·rename_i h1 h2;rw [if_pos h1,if_pos h2]
      ·exact (hne rfl).elim
     ·rename_i h1;rw [if_neg h1]
    have hrl:r.1.l.length≤10:=by
     rw [← hr2];unfold vCommit
     split
     ·split
      ·exact hln
      ·exact Nat.zero_le _
     ·exact hln
    simp only [hr2] at hat hC;rw [h0'];refine hid7 ?_ hC hv hr hm3 hm03 hk hr10;clear hC hv hr hm3 hm03 hk hr10;intro hC hv hr hm3 hm03 hk hr10;go_wp2_with fail;refine hC.out.mono ?_;rintro e w4 hc4;rcases hc4 with ⟨m2,j2,rfl,hv4,hk4,hr4,hm4⟩ | ⟨m2,f,rfl,hfe,hd,hst,hm4⟩
    ·have hm04:Mod A.S w w4:=hm03.out.trans hm4;obtain ⟨k4,l4⟩:=hcell.out w4 hm04;have hrr:=hr.out.trans hr4;have hkk:j + j2≤K + vcost A:=by have:=hk.out;omega
     by_cases hr0:r.2 = 0
     ·rw [if_pos hr0] at hat
      have hfin:PC (fun f=>f = s.f ∨ f = (vAtomic A.Z s F).1.f) w A m (vAtomic A.Z s F).1 (vAtomic A.Z s F).2 (K + vcost A) (.returned (errno 0)) w4:=by
       rw [hat];exact .inl ⟨m2,j + j2,by rw [hr0];rfl,hv4,hkk,hrr,hm04⟩
      rw [hr0];refine hid6 ?_ hfin hv4 hr4 hm4 hm04 hrr;clear hfin hv4 hr4 hm4 hm04 hrr;intro hfin hv4 hr4 hm4 hm04 hrr;go_wp2;go_ret;exact hfin.out
     ·rw [if_neg hr0] at hat;have hz:(((r.2:Nat):Int) != 0) = true:=by simp;omega
      have hB:=vAbort_is hv4
      have hfin:∀ w5,VRep w5 A m2 (vAbort r.1).1→Mod A.S w4 w5→PC (fun f=>f = s.f ∨ f = (vAtomic A.Z s F).1.f) w A m (vAtomic A.Z s F).1 (vAtomic A.Z s F).2 (K + vcost A) (.returned (errno r.2)) w5:=by
       intro w5 hv5 hm5;rw [hat];exact .inl ⟨m2,j + j2,rfl,hv5,hkk,hrr,hm04.trans hm5⟩
      refine hid7 ?_ hfin hB hv4 hr4 hm4 hm04 hrr;clear hfin hB hv4 hr4 hm4 hm04 hrr;intro hfin hB hv4 hr4 hm4 hm04 hrr;go_wp2_with fail;refine hB.out.mono ?_;rintro e w5 ⟨rfl,hv5,hm5⟩;have hfn:=hfin.out w5 hv5 hm5;refine hid3 ?_ hfn hv5 hm5;clear hfn hv5 hm5;intro hfn hv5 hm5;go_wp2;go_ret;exact hfn.out
    ·have hm04:Mod A.S w w4:=hm03.out.trans hm4;obtain ⟨k4,l4⟩:=hcell.out w4 hm04;have hB:=sAbort_ok (Shut.dead hd)
     have hDf:f = s.f ∨ f = (vAtomic A.Z s F).1.f:=by
      rw [hat];rcases hfe with rfl | rfl
      ·exact .inl hFf.out
      ·by_cases hr0:r.2 = 0
       ·rw [if_pos hr0];exact .inr rfl
       ·rw [hr10.out hr0];exact .inl hFf.out
     have hfin:∀ w5,Mod Nowhere w4 w5→PC (fun f=>f = s.f ∨ f = (vAtomic A.Z s F).1.f) w A m (vAtomic A.Z s F).1 (vAtomic A.Z s F).2 (K + vcost A) (.returned (errno 7)) w5:=fun w5 hm5=>.inr ⟨m2,f,rfl,hDf,hd.fresh hm5,hr.out.stopped hst (by have:=hk.out;omega),hm04.trans hm5.nowhere⟩;refine hid7 ?_ hfin hB hd hst hm4 hm04 hDf;clear hfin hB hd hst hm4 hm04 hDf;intro hfin hB hd hst hm4 hm04 hDf;clear hfe;go_wp2_with fail;refine hB.out.mono ?_;rintro e w5 ⟨rfl,hm5⟩;have hfn:=hfin.out w5 hm5;refine hid2 ?_ hfn hm5;clear hfn hm5;intro hfn hm5;go_wp2;go_ret;exact hfn.out
   ·have hz:(((q.2:Nat):Int) != 0) = true:=by simp;omega
    have hz2:(((q.2:Nat):Int) == 0) = false:=by simp;omega
    replace hat:=hat.out;rw [if_neg h0'] at hat;have hB:=vAbort_is hv
    have hfin:∀ w5,VRep w5 A m' (vAbort q.1).1→Mod A.S w3 w5→PC (fun f=>f = s.f ∨ f = (vAtomic A.Z s F).1.f) w A m (vAtomic A.Z s F).1 (vAtomic A.Z s F).2 (K + vcost A) (.returned (errno q.2)) w5:=by
     intro w5 hv5 hm5;rw [hat];exact .inl ⟨m',j,rfl,hv5,by omega,hr,hm03.trans hm5⟩
    refine hid7 ?_ hfin hB hv hr hm3 hm03 hk;clear hfin hB hv hr hm3 hm03 hk;intro hfin hB hv hr hm3 hm03 hk;go_wp2_with fail;refine hB.out.mono ?_;rintro e w5 ⟨rfl,hv5,hm5⟩;have hfn:=hfin.out w5 hv5 hm5;refine hid3 ?_ hfn hv5 hm5;clear hfn hv5 hm5;intro hfn hv5 hm5;go_wp2;go_ret;exact hfn.out
  ·have hm03:Mod A.S w w3:=hm02.out.trans hm3;obtain ⟨k3,l3⟩:=hcell.out w3 hm03;have hB:=sAbort_ok (Shut.dead hd);have hfin:∀ w5,Mod Nowhere w3 w5→PC (fun f=>f = s.f ∨ f = (vAtomic A.Z s F).1.f) w A m (vAtomic A.Z s F).1 (vAtomic A.Z s F).2 (K + vcost A) (.returned (errno 7)) w5:=fun w5 hm5=>.inr ⟨m',f,rfl,.inl hfe,hd.fresh hm5,hst.mono (by omega),hm03.trans hm5.nowhere⟩;refine hid6 ?_ hfin hB hd hst hm3 hm03;clear hfin hB hd hst hm3 hm03;intro hfin hB hd hst hm3 hm03;clear hfe;go_wp2_with fail;refine hB.out.mono ?_;rintro e w5 ⟨rfl,hm5⟩;have hfn:=hfin.out w5 hm5;refine hid2 ?_ hfn hm5;clear hfn hm5;intro hfn hm5
   go_wp2;go_ret;exact hfn.out
 ·rw [hact] at hAc;have hSv:=fun W (hm:Mod Nowhere w W)=>vSave_ok (h.fresh hm);have hfs:=fun W (hm:Mod Nowhere w W)=>hf W s hm.nowhere (h.fresh hm) hact rfl (.inl rfl);have hln:=hF s;obtain ⟨q,hq⟩:∃ q,F s = q:=⟨_,rfl⟩;simp only [hq] at hfs hln;obtain ⟨n,hn⟩:∃ n,s.l.length = n:=⟨_,rfl⟩;simp only [hn] at hSv hln;refine hid12 ?_ hSv hfs hAc h hp hF hf hcell hq hn hact hln;clear hSv hfs hAc h hp hF hf hcell hq hn hact hln;intro hSv hfs hAc h hp hF hf hcell hq hn hact hln;go_enter Tryz.func63,Tryz.ntmps63;go_wp2_with fail;refine hAc.out.mono ?_;rintro e w1 ⟨rfl,hm1⟩;have hS1:=hSv.out w1 hm1;obtain ⟨k1,l1⟩:=hcell.out w1 hm1.nowhere
  refine hid2 ?_ hS1 hm1;clear hS1 hm1;intro hS1 hm1;go_wp2_with fail;refine hS1.out.mono ?_;rintro e w2 ⟨rfl,hm2⟩;have hm12:=hm1.out.trans hm2;have hf2:=hfs.out w2 hm12;refine hid3 ?_ hm2 hm12 hf2;clear hm2 hm12 hf2;intro hm2 hm12 hf2;go_wp2_with fail;refine hf2.out.mono ?_;rintro e w3 hc;rcases hc with ⟨m',j,rfl,hv,hk,hr,hm3⟩ | ⟨m',f,rfl,hfe,hd,hst,hm3⟩
  ·have hm03:Mod A.S w w3:=hm12.out.nowhere.trans hm3;obtain ⟨k3,l3⟩:=hcell.out w3 hm03;by_cases h0':q.2 = 0
   ·have hfin:PC (fun f=>f = s.f ∨ f = (vAtomic A.Z s F).1.f) w A m (vAtomic A.Z s F).1 (vAtomic A.Z s F).2 (K + vcost A) (.returned (errno 0)) w3:=by
     unfold vAtomic;rw [if_pos hact.out,hq.out,if_pos h0'];exact .inl ⟨m',j,by rw [h0'];rfl,hv,by omega,hr,hm03⟩
    rw [h0'];refine hid6 ?_ hfin hv hr hm3 hm03 hk;clear hfin hv hr hm3 hm03 hk;intro hfin hv hr hm3 hm03 hk;go_wp2;go_ret;exact hfin.out
   ·have hz:(((q.2:Nat):Int) != 0) = true:=by simp;omega
    have hB:=vBack_is hv (by have:=hln.out;have:=hn.out;omega) (n:Int)
    have hfin:∀ w4,VRep w4 A m' (vBack q.1 (n:Int)).1→Mod A.S w3 w4→PC (fun f=>f = s.f ∨ f = (vAtomic A.Z s F).1.f) w A m (vAtomic A.Z s F).1 (vAtomic A.Z s F).2 (K + vcost A) (.returned (errno q.2)) w4:=by
     intro w4 hv4 hm4;unfold vAtomic;rw [if_pos hact.out,hq.out,if_neg h0',hn.out];exact .inl ⟨m',j,rfl,hv4,by omega,hr,hm03.trans hm4⟩
    refine hid7 ?_ hfin hB hv hr hm3 hm03 hk;clear hfin hB hv hr hm3 hm03 hk;intro hfin hB hv hr hm3 hm03 hk;go_wp2_with fail;refine hB.out.mono ?_;rintro e w4 ⟨rfl,hv4,hm4⟩;have hfn:=hfin.out w4 hv4 hm4;refine hid3 ?_ hfn hv4 hm4;clear hfn hv4 hm4;intro hfn hv4 hm4;go_wp2;go_ret;exact hfn.out
  ·have hm03:Mod A.S w w3:=hm12.out.nowhere.trans hm3;obtain ⟨k3,l3⟩:=hcell.out w3 hm03;have hB:=sBack_ok (Shut.dead hd) (n:Int);have hfin:∀ w4,Mod Nowhere w3 w4→PC (fun f=>f = s.f ∨ f = (vAtomic A.Z s F).1.f) w A m (vAtomic A.Z s F).1 (vAtomic A.Z s F).2 (K + vcost A) (.returned (errno 7)) w4:=fun w4 hm4=>.inr ⟨m',f,rfl,.inl hfe,hd.fresh hm4,hst.mono (by omega),hm03.trans hm4.nowhere⟩;refine hid6 ?_ hfin hB hd hst hm3 hm03;clear hfin hB hd hst hm3 hm03;intro hfin hB hd hst hm3 hm03;clear hfe;go_wp2_with fail;refine hB.out.mono ?_;rintro e w4 ⟨rfl,hm4⟩;have hfn:=hfin.out w4 hm4;refine hid2 ?_ hfn hm4;clear hfn hm4;intro hfn hm4
   go_wp2;go_ret;exact hfn.out
def SrcS (A:VAt) (w:World) (v:Value) (d:List Nat):Prop:=∀ W,Mod A.S w W→Src W v d
theorem SrcS.mod {A:VAt} {w w':World} {v:Value} {d:List Nat} (h:SrcS A w v d) (hm:Mod A.S w w'):SrcS A w' v d:=fun W h1=>h W (hm.trans h1)
theorem SrcS.src {A:VAt} {w:World} {v:Value} {d:List Nat} (h:SrcS A w v d):Src w v d:=h w (Mod.refl _ _)
theorem VRep.shunS {w:World} {A:VAt} {m:Mem} {s:VSt} (h:VRep w A m s) {T:TypeId} (hT:T ≠ 167∧T ≠ 3∧T ≠ 85∧T ≠ 208) (hV:T ≠ 90):Shun A.S w T:=by
 obtain ⟨P,p,pc,J,bank,end_,ib,lv,xs,hv⟩:=h.ex;exact hv.shunS hT hV
theorem VRep.lt {w:World} {A:VAt} {m:Mem} {s:VSt} (h:VRep w A m s):∀ k,A.S k→k < w.heap.size:=by
 obtain ⟨P,p,pc,J,bank,end_,ib,lv,xs,hv⟩:=h.ex;exact hv.ltS
theorem DSl.srcS {w:World} {A:VAt} {m:Mem} {s:VSt} (h:VRep w A m s) {v:Value} {d:List Nat} (hd:DSl w v d):SrcS A w v d:=fun W hm=>(hd.mod hm (h.shunS (by decide) (by decide))).src
theorem PnAt.notS {w:World} {pb vb:Nat} (hp:PnAt w pb vb) {A:VAt} {m:Mem} {s:VSt} (h:VRep w A m s):¬ A.S pb:=fun e=>h.shunS (T:=69) (by decide) (by decide) pb e _ hp
theorem vChange_act {Z:Nat} {s:VSt} {r:Rec} (ha:s.act = true):(vChange Z s r).1.f = s.f∧(vChange Z s r).1.act = true:=by
 unfold vChange
 split
 ·exact ⟨rfl,ha⟩
 ·split
  ·exact ⟨rfl,ha⟩
  ·first | exact ⟨rfl,ha⟩ | (rw [if_pos ha];exact ⟨rfl,ha⟩)
theorem vPut_act {Z:Nat} {s:VSt} {id:Int} {d:List Nat} (ha:s.act = true):(vPut Z s id d).1.f = s.f∧(vPut Z s id d).1.act = true:=by
 unfold vPut
 split
 ·exact vChange_act ha
 ·exact ⟨rfl,ha⟩
theorem vDel_act {Z:Nat} {s:VSt} {id:Int} (ha:s.act = true):(vDel Z s id).1.f = s.f∧(vDel Z s id).1.act = true:=by
 unfold vDel
 split
 ·split
  ·exact vChange_act ha
  ·exact ⟨rfl,ha⟩
 ·exact ⟨rfl,ha⟩
theorem pPutIn_act {Z:Nat} {d:PinD} {t u:Nat} {s:VSt} (ha:s.act = true):(pPutIn Z d t u s).1.f = s.f:=by
 unfold pPutIn
 split
 ·exact (vPut_act (vPut_act ha).2).1.trans (vPut_act ha).1
 ·exact (vPut_act ha).1
theorem pDelIn_act {Z:Nat} {id:Nat} {s:VSt} (ha:s.act = true):(pDelIn Z id s).1.f = s.f:=by
 unfold pDelIn
 split
 ·exact (vDel_act (vDel_act ha).2).1.trans (vDel_act ha).1
 ·exact (vDel_act ha).1
theorem putD_act {Z:Nat} {d:PinD} {t u:Nat} {s:VSt} (ha:s.act = true) {f:Items} (h:putD Z d t u s f):f = s.f:=by
 rcases h with h | h | h
 ·exact h
 ·rw [h];exact (vPut_act ha).1
 ·rw [h];exact pPutIn_act ha
theorem delD_act {Z:Nat} {id:Nat} {s:VSt} (ha:s.act = true) {f:Items} (h:delD Z id s f):f = s.f:=by
 rcases h with h | h | h
 ·exact h
 ·rw [h];exact (vDel_act ha).1
 ·rw [h];exact pDelIn_act ha
theorem pPutIn_len (Z:Nat) (d:PinD) (t u:Nat) (s:VSt):(pPutIn Z d t u s).1.l.length≤s.l.length + 10:=by
 have h1:=vPut_len Z s (16 + d.id:Nat) (pinB d);have h2:=vPut_len Z (vPut Z s (16 + d.id:Nat) (pinB d)).1 (24 + d.id:Nat) [t,u];unfold pPutIn
 split <;> omega
theorem pDelIn_len (Z:Nat) (id:Nat) (s:VSt):(pDelIn Z id s).1.l.length≤s.l.length + 10:=by
 have h1:=vDel_len Z s (16 + id:Nat);have h2:=vDel_len Z (vDel Z s (16 + id:Nat)).1 (24 + id:Nat);unfold pDelIn
 split <;> omega
theorem boxes4 (w:World) (l0 l1 l2 l3:List Value) (T0 T1 T2 T3:TypeId) :
  Blk ((((w.alloc (.cells l0.toArray T0)).alloc (.cells l1.toArray T1)).alloc (.cells l2.toArray T2)).alloc (.cells l3.toArray T3)) w.heap.size l0 T0 ∧
  Blk ((((w.alloc (.cells l0.toArray T0)).alloc (.cells l1.toArray T1)).alloc (.cells l2.toArray T2)).alloc (.cells l3.toArray T3)) (w.heap.size + 1) l1 T1 ∧
  Blk ((((w.alloc (.cells l0.toArray T0)).alloc (.cells l1.toArray T1)).alloc (.cells l2.toArray T2)).alloc (.cells l3.toArray T3)) (w.heap.size + 1 + 1) l2 T2 ∧
  Blk ((((w.alloc (.cells l0.toArray T0)).alloc (.cells l1.toArray T1)).alloc (.cells l2.toArray T2)).alloc (.cells l3.toArray T3)) (w.heap.size + 1 + 1 + 1) l3 T3 ∧
  Mod Nowhere w ((((w.alloc (.cells l0.toArray T0)).alloc (.cells l1.toArray T1)).alloc (.cells l2.toArray T2)).alloc (.cells l3.toArray T3)):=by
 have b0:=Blk.new w l0 T0;have z0:(w.alloc (.cells l0.toArray T0)).heap.size = w.heap.size + 1:=by simp
 generalize hw1:w.alloc (.cells l0.toArray T0) = w1 at *;have b1:=Blk.new w1 l1 T1;have z1:(w1.alloc (.cells l1.toArray T1)).heap.size = w1.heap.size + 1:=by simp
 have m1:Mod Nowhere w1 (w1.alloc (.cells l1.toArray T1)):=(Mod.refl _ w1).alloc _;generalize hw2:w1.alloc (.cells l1.toArray T1) = w2 at *;have b2:=Blk.new w2 l2 T2;have z2:(w2.alloc (.cells l2.toArray T2)).heap.size = w2.heap.size + 1:=by simp
 have m2:Mod Nowhere w2 (w2.alloc (.cells l2.toArray T2)):=(Mod.refl _ w2).alloc _;generalize hw3:w2.alloc (.cells l2.toArray T2) = w3 at *;have b3:=Blk.new w3 l3 T3;have m3:Mod Nowhere w3 (w3.alloc (.cells l3.toArray T3)):=(Mod.refl _ w3).alloc _;rw [z2,z1,z0] at b3;rw [z1,z0] at b2;rw [z0] at b1;refine ⟨((b0.mod m1 (fun e=>e)).mod m2 (fun e=>e)).mod m3 (fun e=>e),(b1.mod m2 (fun e=>e)).mod m3 (fun e=>e),b2.mod m3 (fun e=>e),b3,?_⟩;have m0:Mod Nowhere w w1:=by rw [← hw1];exact (Mod.refl _ w).alloc _
 exact ((m0.trans m1).trans m2).trans m3
set_option maxHeartbeats 8000000 in
theorem pinPut_ok {w:World} {pb:Nat} {A:VAt} {m:Mem} {s:VSt} {d:PinD} (hd:POk d) {u1 u2:Value} (hs1:SrcS A w u1 d.value) (hs2:SrcS A w u2 d.code) {t u:Nat} (ht:t≤15) (hu:u≤15) (hp:PnAt w pb A.vb) (h:VRep w A m s) (hxn:s.l.length≤90000) (hrm:Room m (vcost A + vcost A + vcost A)) :
  Calls Tryz.prog 35 #[ptr pb,pinV d u1 u2,.int .i64 t,.int .i64 u] w (PC (fun f=>f = s.f ∨ f = (pPut A.Z s d t u).1.f) w A m (pPut A.Z s d t u).1 (pPut A.Z s d t u).2 (vcost A + vcost A + vcost A)):=by
 have np:=hp.notS h;have hlt:=h.lt;obtain ⟨B,hB⟩:∃ B,w.heap.size = B:=⟨_,rfl⟩
 have hA:∀ W,Mod Nowhere w W→{T0:TypeId}→Blk W B [ptr pb] T0→Blk W (B + 1) (pinCells d u1 u2) 35→Blk W (B + 2) [.int .i64 t] 3→Blk W (B + 3) [.int .i64 u] 3 →
   Calls Tryz.prog 63 #[ptr pb,.func (.func 69) #[] #[ptr B,ptr (B + 1),ptr (B + 2),ptr (B + 3)]] W (PC (fun f=>f = s.f ∨ f = (pPut A.Z s d t u).1.f) w A m (pPut A.Z s d t u).1 (pPut A.Z s d t u).2 (vcost A + vcost A + vcost A)):=by
  intro W hm T0 b0 b1 b2 b3;have nB:∀ k,B≤k→¬ A.S k:=fun k hk e=>by have:=hlt k e;omega
  have:=pinAtomic_ok (hp.fresh hm) (h.fresh hm) hxn (K:=vcost A + vcost A) hrm np 69 #[ptr B,ptr (B + 1),ptr (B + 2),ptr (B + 3)] (fun _ _=>rfl) (pPutIn A.Z d t u) (pPutIn_len _ _ _ _) (pPutIn_act rfl)
   (fun W2 s1 hm2 hv2 ha hfe hor=>by
    have hl:s1.l.length≤100000:=by rcases hor with rfl | rfl;omega;exact Nat.zero_le _
    have:=pinPut1_ok hd (hs1 W2 (hm.nowhere.trans hm2)) (hs2 W2 (hm.nowhere.trans hm2)) ht hu (Blk.mod (hp.fresh hm) hm2 np) hv2 hl (hrm.mono (Nat.le_add_right _ _)) (b0.mod hm2 (nB _ (by omega))) (b1.mod hm2 (nB _ (by omega))) (b2.mod hm2 (nB _ (by omega))) (b3.mod hm2 (nB _ (by omega))) (nB _ (by omega)) (nB _ (by omega)) (nB _ (by omega)) (nB _ (by omega)) np
    exact this.mono fun e w' hc=>hc.mono (fun f hf=>(putD_act ha hf).trans hfe) (Nat.le_refl _))
  exact this.mono fun e w' hc=>hc.from hm.nowhere
 unfold pinV;unfold pinCells at hA;obtain ⟨xa,xc,rfl,-,-,-⟩:=hs1.src;obtain ⟨ya,yc,rfl,-,-,-⟩:=hs2.src;subst hB;refine hid7 ?_ hA h hp hs1 hs2 hd hlt;clear hA h hp hs1 hs2 hd hlt;intro hA h hp hs1 hs2 hd hlt;go_enter Tryz.func35,Tryz.ntmps35;obtain ⟨b0,b1,b2,b3,hmB⟩:=boxes4 w [ptr pb] [.int .i64 d.id,.slice xa d.value.length xc,.int .i64 d.limit,.int .i64 d.lo,.int .i64 d.hi,.slice ya d.code.length yc,.int .i64 d.cl] [.int .i64 t] [.int .i64 u] 26 35 3 3;have hA1:=hA.out _ hmB b0 b1 b2 b3;refine hid6 ?_ hA1 b0 b1 b2 b3 hmB;clear hA1 b0 b1 b2 b3 hmB;intro hA1 b0 b1 b2 b3 hmB
 go_wp2_with fail;refine hA1.out.mono ?_;rintro e w3 hc;obtain ⟨ne,rfl⟩:=hc.no;replace hc:=Lib.hid hc;go_wp2;go_ret;exact hc.out
theorem boxes2 (w:World) (l0 l1:List Value) (T0 T1:TypeId) :
  Blk ((w.alloc (.cells l0.toArray T0)).alloc (.cells l1.toArray T1)) w.heap.size l0 T0 ∧
  Blk ((w.alloc (.cells l0.toArray T0)).alloc (.cells l1.toArray T1)) (w.heap.size + 1) l1 T1 ∧
  Mod Nowhere w ((w.alloc (.cells l0.toArray T0)).alloc (.cells l1.toArray T1)):=by
 have b0:=Blk.new w l0 T0;have z0:(w.alloc (.cells l0.toArray T0)).heap.size = w.heap.size + 1:=by simp
 have m0:Mod Nowhere w (w.alloc (.cells l0.toArray T0)):=(Mod.refl _ w).alloc _;generalize w.alloc (.cells l0.toArray T0) = w1 at *;have b1:=Blk.new w1 l1 T1;have m1:Mod Nowhere w1 (w1.alloc (.cells l1.toArray T1)):=(Mod.refl _ w1).alloc _;rw [z0] at b1;exact ⟨b0.mod m1 (fun e=>e),b1,m0.trans m1⟩
end Go.Proofs.YtjanpegbemepgaaGreat
