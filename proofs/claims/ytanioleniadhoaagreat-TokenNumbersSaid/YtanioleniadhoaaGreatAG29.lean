/-
  Bytes from any slice.
-/
import Derived.Test.YtanioleniadhoaaGreatASc
import Derived.Test.YtanioleniadhoaaGreatAG25
set_option linter.unusedVariables false
set_option linter.unusedSimpArgs false
set_option maxHeartbeats 2000000
set_option maxRecDepth 100000
namespace Go.Proofs.YtanioleniadhoaaGreat
open Go.RowKit
open Jn Vn
attribute [local go_sem] Oper.semAt_some
end Go.Proofs.YtanioleniadhoaaGreat
/-
 The vault: changes whose data come from any slice; going back.
-/
namespace Go.Proofs.YtanioleniadhoaaGreat
open Go.RowKit
open Jn Vn
attribute [local go_sem] Oper.semAt_some
theorem vPutS_ok {w:World} {A:VAt} {m:Mem} {s:VSt} (h:VRep w A m s) (hxn:s.l.length≤1000000) (id:Int) {v:Value} {d:List Nat} (hd:Src w v d) (hb:Bytes d) (hdn:d.length≤1099511627776) (hrm:Room m (vcost A)) :
  Calls Tryz.prog 100 #[ptr A.vb,.int .i64 id,v] w (VCall w A m s (vPut A.Z s id d).1 (vPut A.Z s id d).2 (vcost A)):=by
 obtain ⟨P,p,pc,J,bank,end_,ib,lv,xs,h⟩:=h.ex;have hd0:=hd;obtain ⟨va,vc,rfl,-⟩:=hd;have hBg:=vBegun_ok h.stub id va d.length vc hdn;have hal:alive m p = true:=h.jr.pg.alive_true;rw [hal] at hBg;have hrun:=h.jr.runs;unfold vPut;by_cases hv:validB id d.length = true
 ·rw [if_pos hv];rw [if_pos hv,show ((okE true:Nat):Int) = 0 from rfl] at hBg;obtain ⟨hrok,hid⟩:=validB_ok hv hb;have hcl:=fun n=>Clone_src (hd0.fresh ((Mod.refl Nowhere w).drewN n)) hdn;refine hid7 ?_ hBg hcl h hd0 hrok hid hal;clear hBg hcl h hd0 hrok hid hal;intro hBg hcl h hd0 hrok hid hal;obtain ⟨dl,hdl⟩:∃ dl,d.length = dl:=⟨_,rfl⟩;rw [hdl] at hBg hcl ⊢;refine hid2 ?_ hdl hv;clear hdl hv;intro hdl hv;go_enter Tryz.func100,Tryz.ntmps100;go_wp2_with fail;refine hBg.out.mono ?_;rintro e w1 ⟨rfl,k,rfl⟩;have hm1:Mod Nowhere w (w.drewN k):=(Mod.refl _ w).drewN k;have hcl1:=hcl.out k;replace hcl1:=Lib.hid hcl1
  generalize w.drewN k = w1 at *;go_wp2_with fail;refine hcl1.out.mono ?_;rintro e w2 ⟨a2,c2,rfl,hown2,hm2⟩;have hm02:=hm1.trans hm2
  have hds:DSl w2 (.slice a2 dl c2) d:=by
   have h9:=Sl.of_owns hown2;rw [DSl,hdl.out];exact h9
  have hCh:=vChange_ok (cv:=.slice a2 dl c2) (r:=(id.toNat,some d)) (h.out.fresh hm02) hxn hds hrok.out hrm
  have hag:vAgg ((.slice a2 dl c2:Value),((id.toNat,some d):Rec)) = .agg #[.int .i64 id,.slice a2 dl c2,.bool false]:=by
   unfold vAgg;rw [show (((id.toNat,some d):Rec).1) = id.toNat from rfl,hid.out];rfl
  rw [hag] at hCh;refine hid2 ?_ hCh hm02;clear hCh hm02;intro hCh hm02;clear hown2 hm2 hds hag;go_wp2_with fail;refine hCh.out.mono ?_;rintro e w3 hpost;have hfin:=hpost.from (hm02.out.nowhere (S:=A.S));obtain ⟨ne,rfl⟩:=hfin.errno;replace hfin:=Lib.hid hfin;clear hpost;go_wp2;go_ret;exact hfin.out
 ·rw [if_neg hv];rw [if_neg hv,show (((1:Nat)):Int) = 1 from rfl] at hBg;have hfin:∀ k,VCall w A m s s 1 (vcost A) (.returned (errno 1)) (w.drewN k):=fun k=>VCall.same (h.fresh ((Mod.refl Nowhere w).drewN k)).rep hrun ((Mod.refl A.S w).drewN k);refine hid6 ?_ hBg hfin h hd0 hal hv;clear hBg hfin h hd0 hal hv;intro hBg hfin h hd0 hal hv;go_enter Tryz.func100,Tryz.ntmps100;go_wp2_with fail;refine hBg.out.mono ?_;rintro e w1 ⟨rfl,k,rfl⟩;have hf:=hfin.out k;replace hf:=Lib.hid hf;clear hfin;go_wp2;go_ret;exact hf.out
theorem VcSl.take {w:World} {b off n cap:Nat} {xs:List Vx} (h:VcSl w (.slice (some ⟨b,off,none⟩) n cap) xs) {k:Nat} (hk:k≤xs.length):VcSl w (.slice (some ⟨b,off,none⟩) k cap) (xs.take k):=by
 refine ⟨?_,fun x hx=>h.data x (List.mem_of_mem_take hx)⟩;have hl:(xs.take k).length = k:=by rw [List.length_take];omega
 rw [hl];have h1:=vcsCells_len xs
 have e:(vcsCells xs).take (k * 3) = vcsCells (xs.take k):=by
  have h2:=vcsCells_append (xs.take k) (xs.drop k);rw [List.take_append_drop] at h2;rw [h2,List.take_left' (by rw [vcsCells_len,hl])]
 obtain ⟨ha,hb⟩:=h.sl;refine ⟨by rw [vcsCells_len,hl],?_⟩;rcases hb with ⟨hb,_⟩ | ⟨b',off',cap',cs,hb,h3,h4,h5,h6,h7⟩
 ·cases hb
 ·simp at hb;obtain ⟨⟨rfl,rfl⟩,rfl,rfl⟩:=hb;refine .inr ⟨b,off,cap,cs,rfl,h3,by omega,h5,h6,?_⟩;rw [← e,← h7,List.take_take,Nat.min_eq_left (by omega)]
theorem VCall.more {w w':World} {A:VAt} {m:Mem} {s s':VSt} {er n n':Nat} {e:Ending} (h:VCall w A m s s' er n e w') (hn:n≤n'):VCall w A m s s' er n' e w':=by
 rcases h with ⟨m',k,a,b,c,d⟩ | ⟨m',f,a,b,c,d,e⟩
 ·exact .inl ⟨m',k,a,b,Nat.le_trans c hn,d⟩
 ·exact .inr ⟨m',f,a,b,c,d.mono hn,e⟩
end Go.Proofs.YtanioleniadhoaaGreat
/-
 Vaults on a memory that has room for more writes.
-/
namespace Go.Proofs.YtanioleniadhoaaGreat
open Go.RowKit
open Jn Vn
attribute [local go_sem] Oper.semAt_some
structure Vl (w:World) (A:VAt) (m:Mem) (s:VSt) (n:Nat):Prop where
 rep:VRep w A m s
 len:s.l.length≤1000
 room:Room m n
 cost:vcost A≤1022784
 clean:m.Clean
 c240:240≤m.size
 cC:m.size / 24 = A.count
 cN:m.size / 20 = A.frames
 c33:33≤A.count
theorem Vl.fresh {w w':World} {A:VAt} {m:Mem} {s:VSt} {n:Nat} (h:Vl w A m s n) (hm:Mod Nowhere w w'):Vl w' A m s n:={ h with rep:=h.rep.fresh hm }
theorem Vl.less {w:World} {A:VAt} {m:Mem} {s:VSt} {n k:Nat} (h:Vl w A m s n) (hk:k≤n):Vl w A m s k:={ h with room:=h.room.mono hk }
theorem VCall.vl {w w':World} {A:VAt} {m:Mem} {s s':VSt} {er n k:Nat} {e:Ending} (hc:VCall w A m s s' er k e w') (h:Vl w A m s (n + k)) (hl:s'.l.length≤1000) :
  (∃ m',e = .returned (Go.Proofs.YtanioleniadhoaaGreat.errno er)∧Vl w' A m' s' n∧m'.pending = m.pending∧m'.cuts = m.cuts∧m'.off = false∧Mod A.S w w') ∨ (∃ m' f,e = .returned (Go.Proofs.YtanioleniadhoaaGreat.errno 7)∧(f = s.f ∨ f = s'.f)∧VDead w' A m' f∧Stopped m m' k∧Mod A.S w w'):=by
 rcases hc with ⟨m',j,a,b,c,d,g⟩ | ⟨m',f,a,b,c,d,g⟩
 ·exact .inl ⟨m',a,⟨b,hl,h.room.runs d (by omega),h.cost,d.clean h.clean,by rw [d.size];exact h.c240,by rw [d.size];exact h.cC,by rw [d.size];exact h.cN,h.c33⟩,d.pend,d.cuts,d.off,g⟩
 ·exact .inr ⟨m',f,a,b,c,d,g⟩
theorem VCall.sure {w w':World} {A:VAt} {m:Mem} {s s':VSt} {er n k:Nat} {e:Ending} (hc:VCall w A m s s' er k e w') (h:Vl w A m s (n + k)) (hl:s'.l.length≤1000) (hp:m.pending = false) :
  ∃ m',e = .returned (Go.Proofs.YtanioleniadhoaaGreat.errno er)∧Vl w' A m' s' n∧m'.pending = false∧Mod A.S w w':=by
 rcases hc.vl h hl with ⟨m',a,b,c,-,-,d⟩ | ⟨m',f,-,-,-,d,-⟩
 ·exact ⟨m',a,b,c.trans hp,d⟩
 ·have:=d.pend;rw [hp] at this;cases this
theorem VRep.iok {w:World} {A:VAt} {m:Mem} {s:VSt} (h:VRep w A m s):IOk s.f∧(∀ r ∈ s.l,ROk r)∧(s.act = false→s.l = []):=by
 obtain ⟨P,p,pc,J,bank,end_,ib,lv,xs,hV⟩:=h.ex;exact ⟨hV.bk.iok,hV.ok,hV.idle⟩
theorem vAlive_rep {w:World} {A:VAt} {m:Mem} {s:VSt} (h:VRep w A m s):Calls Tryz.prog 66 #[ptr A.vb] w fun e w'=>e = .returned (.bool true)∧Mod Nowhere w w':=by
 obtain ⟨P,p,pc,J,bank,end_,ib,lv,xs,h⟩:=h.ex;have hA:=vAlive_ok h.stub;rw [h.jr.pg.alive_true] at hA;exact hA.mono fun e w' ⟨a,n,b⟩=>⟨a,by rw [b];exact (Mod.refl Nowhere w).drewN n⟩
theorem vGet_rep {w:World} {A:VAt} {m:Mem} {s:VSt} (h:VRep w A m s) (hxn:s.l.length≤1000000) (nd:Int) (h1:-9223372036854775808≤nd) (h2:nd≤9223372036854775807) :
  Calls Tryz.prog 99 #[ptr A.vb,.int .i64 nd] w (GetPost w (at_ (sets s.f s.l) nd)):=by
 obtain ⟨P,p,pc,J,bank,end_,ib,lv,xs,h⟩:=h.ex;have hxl:xs.length = s.l.length:=by rw [← h.xl,recs_len]
 exact vGet_ok h (by omega) nd h1 h2
end Go.Proofs.YtanioleniadhoaaGreat
