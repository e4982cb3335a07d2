/-
  A vault whose memory has another plan for a cut; a vault that is not alive any more.
-/
import Derived.Test.YtoehlaeaafalmaaGreatCG18
import Derived.Test.YtoehlaeaafalmaaGreatCG19
set_option linter.unusedVariables false
set_option linter.unusedSimpArgs false
set_option maxHeartbeats 2000000
set_option maxRecDepth 100000
namespace Go.Proofs.YtoehlaeaafalmaaGreat
open Go.RowKit
open Jn Vn
attribute [local go_sem] Oper.semAt_some
section
variable {w w' : World} {A : VAt} {m m' : Mem} {s : VSt} {f : Items}
theorem VRep.mem (h:VRep w A m s):MemRep w A.M m∧m.off = false∧m.Good∧m.cuts = A.cuts:=by
 obtain ⟨P,p,pc,J,bank,end_,ib,lv,xs,h⟩:=h.ex;exact ⟨h.jr.pg.ctx.mem,h.jr.pg.ctx.off,h.jr.pg.ctx.good,h.jr.pg.alive.symm.trans h.of.cuts⟩
theorem VDead.stub (h:VDead w A m f):∃ P p,VStub w A m P p∧alive m p = false:=by
 obtain ⟨P,p,pc,J,bank,end_,hP,hO,_⟩:=h.ex;obtain ⟨b,e,ib,act,lv,hbv⟩:=h.bv;refine ⟨P,p,⟨hbv.cell 0,⟨by rw [hO.pb];exact h.bj,hP.bp⟩,h.mem⟩,?_⟩;unfold alive;rw [hO.cuts];rcases h.off with e | e
 ·rw [e];rfl
 ·have:(m.cuts == A.cuts) = false:=by simpa using e
  rw [this];simp
theorem VDead.vmem (h:VDead w A m f):VMem m A.count A.frames f:=by
 obtain ⟨P,p,pc,J,bank,end_,_,_,a,b,c⟩:=h.ex;exact ⟨pc,J,bank,end_,a,b,c⟩
theorem VStub.mod {P:PAt} {p:PSt} (h:VStub w A m P p) (hm:Mod Nowhere w w'):VStub w' A m P p :=
 ⟨(hm.cell (p:=⟨A.vb,0,none⟩) (ZV h.cell) id).trans h.cell,⟨h.jb.bj.mod hm id,h.jb.bp.mod hm id⟩,h.mem.mod hm fun _ _=>id⟩
end
end Go.Proofs.YtoehlaeaafalmaaGreat
/-
 The vault: deleting, and what it tells of itself.
-/
namespace Go.Proofs.YtoehlaeaafalmaaGreat
open Go.RowKit
open Jn Vn
attribute [local go_sem] Oper.semAt_some
theorem ZgA {w:World} {A:VAt} {m:Mem} {s:VSt} (h:VRep w A m s) (hxn:s.l.length≤1000000) (id:Int) (hrm:Room m (vcost A)) :
  Calls Tryz.prog 69 #[ptr A.vb,.int .i64 id] w (VCall w A m s (vDel A.Z s id).1 (vDel A.Z s id).2 (vcost A)):=by
 obtain ⟨P,p,pc,J,bank,end_,ib,lv,xs,h⟩:=h.ex;have hBg:=Y4 h.stub id none 0 0 (by omega);have hal:alive m p = true:=h.jr.pg.alive_true;rw [hal] at hBg;have hrun:=h.jr.runs;have hxl:xs.length = s.l.length:=by rw [← h.xl,ZO]
 have hsame:∀ W er,Mod Nowhere w W→VCall w A m s s er (vcost A) (.returned (errno er)) W:=fun W er hm=>VCall.same (h.fresh hm).rep hrun hm.nowhere;unfold vDel;by_cases hv:validB id 0 = true
 ·rw [if_pos hv];rw [if_pos hv,show ((okE true:Nat):Int) = 0 from rfl] at hBg;obtain ⟨hrok,hid,hi1,hi2⟩:=Ze6 hv;have hG:=fun W (hm:Mod Nowhere w W)=>ZbX (h.fresh hm) (by omega) id (by omega) (by omega);have hCh:=fun W (hm:Mod Nowhere w W)=>ZbY (cv:=.slice none 0 0) (r:=(id.toNat,none)) (h.fresh hm) hxn (Sl.nil _ _ _) hrok hrm
  have hag:vAgg ((.slice none 0 0:Value),((id.toNat,none):Rec)) = .agg #[.int .i64 id,.slice none 0 0,.bool true]:=by
   unfold vAgg;rw [show (((id.toNat,none):Rec).1) = id.toNat from rfl,hid];rfl
  rw [hag] at hCh;refine hid9 ?_ hBg hG hCh hrok hid hal hsame hv hag;clear hBg hG hCh hrok hid hal hsame hv hag;intro hBg hG hCh hrok hid hal hsame hv hag;generalize at_ (sets s.f s.l) id = o at *;replace h:=Lib.hid h
  cases o with
  | none =>
   rw [if_neg (by simp)];go_enter Tryz.func69,Tryz.ntmps69;go_wp2_with fail;refine hBg.out.mono ?_;rintro e w1 ⟨rfl,k,rfl⟩;have hm1:Mod Nowhere w (w.drewN k):=(Mod.refl _ w).drewN k;have hG1:=hG.out _ hm1;replace hG1:=Lib.hid hG1;generalize w.drewN k = w1 at *;go_wp2_with fail;refine hG1.out.mono ?_;rintro e w2 ⟨v2,rfl,hown2,hm2⟩;obtain ⟨a2,c2,rfl,-⟩:=Zf hown2;have hfin:=hsame.out w2 12 (hm1.trans hm2);replace hfin:=Lib.hid hfin;clear hown2;go_wp2;go_ret;exact hfin.out
  | some d0 =>
   rw [if_pos (by rfl)];go_enter Tryz.func69,Tryz.ntmps69;go_wp2_with fail;refine hBg.out.mono ?_;rintro e w1 ⟨rfl,k,rfl⟩;have hm1:Mod Nowhere w (w.drewN k):=(Mod.refl _ w).drewN k;have hG1:=hG.out _ hm1;replace hG1:=Lib.hid hG1;generalize w.drewN k = w1 at *;go_wp2_with fail;refine hG1.out.mono ?_;rintro e w2 ⟨v2,rfl,hown2,hm2⟩;obtain ⟨a2,c2,rfl,-⟩:=Zf hown2;have hm02:=hm1.trans hm2;have hCh2:=hCh.out w2 hm02;refine hid2 ?_ hCh2 hm02;clear hCh2 hm02;intro hCh2 hm02;clear hown2 hm2;go_wp2_with fail;refine hCh2.out.mono ?_;rintro e w3 hpost;have hfin:=hpost.from (hm02.out.nowhere (S:=A.S));obtain ⟨ne,rfl⟩:=hfin.errno
   replace hfin:=Lib.hid hfin;clear hpost;go_wp2;go_ret;exact hfin.out
 ·rw [if_neg hv];rw [if_neg hv,show (((1:Nat)):Int) = 1 from rfl] at hBg;refine hid4 ?_ hBg hsame h hv;clear hBg hsame h hv;intro hBg hsame h hv;go_enter Tryz.func69,Tryz.ntmps69;go_wp2_with fail;refine hBg.out.mono ?_;rintro e w1 ⟨rfl,k,rfl⟩;have hfin:=hsame.out (w.drewN k) 1 ((Mod.refl _ w).drewN k);go_wp2;go_ret;exact hfin
end Go.Proofs.YtoehlaeaafalmaaGreat
/-
 Vaults that cannot be used: not alive any more, nil, or not opened.
-/
namespace Go.Proofs.YtoehlaeaafalmaaGreat
open Go.RowKit
open Jn Vn
attribute [local go_sem] Oper.semAt_some
structure Shut (w:World) (v:Value) (er:Nat) (eb:Int→Nat→Nat):Prop where
 ready:∀ W,Mod Nowhere w W→Calls Tryz.prog 48 #[v] W fun e w'=>e = .returned (errno er)∧Mod Nowhere W w'
 begun:∀ W,Mod Nowhere w W→∀ (id:Int) (a:Option Addr) (n c:Nat),n≤1099511627776→Calls Tryz.prog 79 #[v,.int .i64 id,.slice a n c] W fun e w'=>e = .returned (errno (eb id n))∧Mod Nowhere W w'
 alive:∀ W,Mod Nowhere w W→Calls Tryz.prog 39 #[v] W fun e w'=>e = .returned (.bool false)∧Mod Nowhere W w'
 er7:er = 7 ∨ er = 31
 eb7:∀ id n,eb id n = 1 ∨ eb id n = 7 ∨ eb id n = 31
theorem ZgB {w:World} {v:Value} {er:Nat} {eb:Int→Nat→Nat} (h:Shut w v er eb) :
  Calls Tryz.prog 57 #[v] w fun e w'=>e = .returned (errno er)∧Mod Nowhere w w':=by
 have hR:=h.ready w (Mod.refl _ w);have hE:=h.er7;replace hR:=Lib.hid hR;clear h;rcases hE with rfl | rfl
 all_goals
  go_enter Tryz.func57,Tryz.ntmps57;go_wp2_with fail;refine hR.out.mono ?_;rintro e w1 ⟨rfl,hm1⟩;go_wp2;go_ret;exact ⟨rfl,hm1⟩
theorem ZgC {w:World} {v:Value} {er:Nat} {eb:Int→Nat→Nat} (h:Shut w v er eb) :
  Calls Tryz.prog 20 #[v] w fun e w'=>e = .returned (errno er)∧Mod Nowhere w w':=by
 have hR:=ZgB h;have hE:=h.er7;replace hR:=Lib.hid hR;clear h;rcases hE with rfl | rfl
 all_goals
  go_enter Tryz.func20,Tryz.ntmps20;go_wp2_with fail;refine hR.out.mono ?_;rintro e w1 ⟨rfl,hm1⟩;go_wp2;go_ret;exact ⟨rfl,hm1⟩
theorem Shut.dead {w:World} {A:VAt} {m:Mem} {f:Items} (h:VDead w A m f):Shut w (ptr A.vb) 7 (fun id n=>if validB id n = true then 7 else 1):=by
 obtain ⟨P,p,hs,ha⟩:=h.stub;refine ⟨fun W hm=>?_,fun W hm id a n c hn=>?_,fun W hm=>?_,.inl rfl,fun id n=>?_⟩
 ·have hR:=Yo (hs.mod hm);rw [ha] at hR;exact hR.mono fun e w' ⟨h1,k,h2⟩=>⟨h1,by rw [h2];exact (Mod.refl Nowhere W).drewN k⟩
 ·have hR:=Y4 (hs.mod hm) id a n c hn;rw [ha] at hR;exact hR.mono fun e w' ⟨h1,k,h2⟩=>⟨by rw [h1];cases validB id n <;> rfl,by rw [h2];exact (Mod.refl Nowhere W).drewN k⟩
 ·have hR:=ZaR (hs.mod hm);rw [ha] at hR;exact hR.mono fun e w' ⟨h1,k,h2⟩=>⟨h1,by rw [h2];exact (Mod.refl Nowhere W).drewN k⟩
 ·cases validB id n <;> simp
end Go.Proofs.YtoehlaeaafalmaaGreat
