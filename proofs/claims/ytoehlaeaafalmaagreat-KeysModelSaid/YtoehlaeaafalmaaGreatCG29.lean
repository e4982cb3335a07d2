/-
  Bytes from any slice.
-/
import Derived.Test.YtoehlaeaafalmaaGreatCSc
import Derived.Test.YtoehlaeaafalmaaGreatCG25
set_option linter.unusedVariables false
set_option linter.unusedSimpArgs false
set_option maxHeartbeats 2000000
set_option maxRecDepth 100000
namespace Go.Proofs.YtoehlaeaafalmaaGreat
open Go.RowKit
open Jn Vn
attribute [local go_sem] Oper.semAt_some
end Go.Proofs.YtoehlaeaafalmaaGreat
/-
 The vault: changes whose data come from any slice; going back.
-/
namespace Go.Proofs.YtoehlaeaafalmaaGreat
open Go.RowKit
open Jn Vn
attribute [local go_sem] Oper.semAt_some
theorem ZgD {w:World} {A:VAt} {m:Mem} {s:VSt} (h:VRep w A m s) (hxn:s.l.length≤1000000) (id:Int) {v:Value} {d:List Nat} (hd:Src w v d) (hb:Bytes d) (hdn:d.length≤1099511627776) (hrm:Room m (vcost A)) :
  Calls Tryz.prog 51 #[ptr A.vb,.int .i64 id,v] w (VCall w A m s (vPut A.Z s id d).1 (vPut A.Z s id d).2 (vcost A)):=by
 obtain ⟨P,p,pc,J,bank,end_,ib,lv,xs,h⟩:=h.ex;have hd0:=hd;obtain ⟨va,vc,rfl,-⟩:=hd;have hBg:=Y4 h.stub id va d.length vc hdn;have hal:alive m p = true:=h.jr.pg.alive_true;rw [hal] at hBg;have hrun:=h.jr.runs;unfold vPut;by_cases hv:validB id d.length = true
 ·rw [if_pos hv];rw [if_pos hv,show ((okE true:Nat):Int) = 0 from rfl] at hBg;obtain ⟨hrok,hid⟩:=Za5 hv hb;have hcl:=fun n=>YW (hd0.fresh ((Mod.refl Nowhere w).drewN n)) hdn;refine hid7 ?_ hBg hcl h hd0 hrok hid hal;clear hBg hcl h hd0 hrok hid hal;intro hBg hcl h hd0 hrok hid hal;obtain ⟨dl,hdl⟩:∃ dl,d.length = dl:=⟨_,rfl⟩;rw [hdl] at hBg hcl ⊢;refine hid2 ?_ hdl hv;clear hdl hv;intro hdl hv;go_enter Tryz.func51,Tryz.ntmps51;go_wp2_with fail;refine hBg.out.mono ?_;rintro e w1 ⟨rfl,k,rfl⟩;have hm1:Mod Nowhere w (w.drewN k):=(Mod.refl _ w).drewN k;have hcl1:=hcl.out k;replace hcl1:=Lib.hid hcl1
  generalize w.drewN k = w1 at *;go_wp2_with fail;refine hcl1.out.mono ?_;rintro e w2 ⟨a2,c2,rfl,hown2,hm2⟩;have hm02:=hm1.trans hm2
  have hds:DSl w2 (.slice a2 dl c2) d:=by
   have h9:=Sl.of_owns hown2;rw [DSl,hdl.out];exact h9
  have hCh:=ZbY (cv:=.slice a2 dl c2) (r:=(id.toNat,some d)) (h.out.fresh hm02) hxn hds hrok.out hrm
  have hag:vAgg ((.slice a2 dl c2:Value),((id.toNat,some d):Rec)) = .agg #[.int .i64 id,.slice a2 dl c2,.bool false]:=by
   unfold vAgg;rw [show (((id.toNat,some d):Rec).1) = id.toNat from rfl,hid.out];rfl
  rw [hag] at hCh;refine hid2 ?_ hCh hm02;clear hCh hm02;intro hCh hm02;clear hown2 hm2 hds hag;go_wp2_with fail;refine hCh.out.mono ?_;rintro e w3 hpost;have hfin:=hpost.from (hm02.out.nowhere (S:=A.S));obtain ⟨ne,rfl⟩:=hfin.errno;replace hfin:=Lib.hid hfin;clear hpost;go_wp2;go_ret;exact hfin.out
 ·rw [if_neg hv];rw [if_neg hv,show (((1:Nat)):Int) = 1 from rfl] at hBg;have hfin:∀ k,VCall w A m s s 1 (vcost A) (.returned (errno 1)) (w.drewN k):=fun k=>VCall.same (h.fresh ((Mod.refl Nowhere w).drewN k)).rep hrun ((Mod.refl A.S w).drewN k);refine hid6 ?_ hBg hfin h hd0 hal hv;clear hBg hfin h hd0 hal hv;intro hBg hfin h hd0 hal hv;go_enter Tryz.func51,Tryz.ntmps51;go_wp2_with fail;refine hBg.out.mono ?_;rintro e w1 ⟨rfl,k,rfl⟩;have hf:=hfin.out k;replace hf:=Lib.hid hf;clear hfin;go_wp2;go_ret;exact hf.out
end Go.Proofs.YtoehlaeaafalmaaGreat
/-
 Vaults on a memory that has room for more writes.
-/
namespace Go.Proofs.YtoehlaeaafalmaaGreat
open Go.RowKit
open Jn Vn
attribute [local go_sem] Oper.semAt_some
structure Vl (w:World) (A:VAt) (m:Mem) (s:VSt) (n:Nat):Prop where
 rep:VRep w A m s
 len:s.l.length≤1000
 room:Room m n
 cost:vcost A≤1022784
 clean:m.Clean
 c240:240≤m.size
 cC:m.size / 24 = A.count
 cN:m.size / 20 = A.frames
 c33:33≤A.count
theorem Vl.fresh {w w':World} {A:VAt} {m:Mem} {s:VSt} {n:Nat} (h:Vl w A m s n) (hm:Mod Nowhere w w'):Vl w' A m s n:={ h with rep:=h.rep.fresh hm }
theorem Vl.less {w:World} {A:VAt} {m:Mem} {s:VSt} {n k:Nat} (h:Vl w A m s n) (hk:k≤n):Vl w A m s k:={ h with room:=h.room.mono hk }
theorem VRep.keepB {w w':World} {A:VAt} {m:Mem} {s:VSt} {b:Nat} {cs:List Value} {T:TypeId} (h:VRep w A m s) (hm:Mod (fun k=>k = b) w w') (hb:Blk w b cs T) (hT:T ≠ 146∧T ≠ 3∧T ≠ 119∧T ≠ 198∧T ≠ 104∧T ≠ 155∧T ≠ 5∧T ≠ 135):VRep w' A m s:=by
 obtain ⟨P,p,pc,J,bank,end_,ib,lv,xs,h⟩:=h.ex;have hsh:∀ U,T ≠ U→Shun (fun k=>k = b) w U:=fun U hU k e cs' hb'=>hU (by rw [e] at hb';exact (hb.inj hb').2)
 have hj:∀ k,(k = A.jb ∨ P.S k ∨ A.M.S k)→¬ k = b:=by
  rintro k (e | e) ev
  ·rw [ev] at e;have hbj:=h.jr.bj;rw [← e] at hbj;exact hT.2.2.2.2.2.1 (hb.inj hbj).2
  ·have hJ:A.J k:=by rw [← h.of.J];exact e
   rw [ev] at hJ;exact h.shunJ ⟨hT.1,hT.2.1,hT.2.2.1,hT.2.2.2.1⟩ b hJ cs hb
 have hbv:¬ A.vb = b:=fun e=>by
  have:=h.bv;rw [e] at this;exact hT.2.2.2.2.1 (hb.inj this).2
 exact ⟨⟨P,p,pc,J,bank,end_,ib,lv,xs,⟨h.jr.keep hm hj (h.jr.pg.rep.bf.off (hsh _ hT.2.1)),h.of,h.st,h.bk,h.bv.mod hm hbv,h.im.mod hm (fun e=>by
  rw [← e] at hb
  exact h.im.noCells hb) (hsh _ hT.2.2.2.2.2.2.1),h.ls.mod hm (hsh _ hT.2.2.2.2.2.2.1) (hsh _ hT.2.2.2.2.2.2.2),h.xl,h.ok,h.idle,h.nx,fun k hk=>Nat.lt_of_lt_of_le (h.xb k hk) hm.size⟩⟩⟩
theorem Zb0 {w:World} {A:VAt} {m:Mem} {s:VSt} (h:VRep w A m s):Calls Tryz.prog 39 #[ptr A.vb] w fun e w'=>e = .returned (.bool true)∧Mod Nowhere w w':=by
 obtain ⟨P,p,pc,J,bank,end_,ib,lv,xs,h⟩:=h.ex;have hA:=ZaR h.stub;rw [h.jr.pg.alive_true] at hA;exact hA.mono fun e w' ⟨a,n,b⟩=>⟨a,by rw [b];exact (Mod.refl Nowhere w).drewN n⟩
theorem Zb1 {w:World} {A:VAt} {m:Mem} {s:VSt} (h:VRep w A m s) (hxn:s.l.length≤1000000) (nd:Int) (h1:-9223372036854775808≤nd) (h2:nd≤9223372036854775807) :
  Calls Tryz.prog 41 #[ptr A.vb,.int .i64 nd] w (GetPost w (at_ (sets s.f s.l) nd)):=by
 obtain ⟨P,p,pc,J,bank,end_,ib,lv,xs,h⟩:=h.ex;have hxl:xs.length = s.l.length:=by rw [← h.xl,ZO]
 exact ZbX h (by omega) nd h1 h2
end Go.Proofs.YtoehlaeaafalmaaGreat
