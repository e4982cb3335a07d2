/-
  A vault whose memory has another plan for a cut; a vault that is not alive any more.
-/
import Derived.Test.YtanioleniadhoaaGreatAG18
import Derived.Test.YtanioleniadhoaaGreatAG19
set_option linter.unusedVariables false
set_option linter.unusedSimpArgs false
namespace Go.Proofs.YtanioleniadhoaaGreat
open Go.RowKit
open Jn Vn
attribute [local go_sem] Oper.semAt_some
theorem Mem.Good.of {m m':Mem} (h:m.Good) (e:m'.words = m.words):m'.Good:=fun a ha=>by
 unfold Mem.size at ha;rw [e] at ha ⊢;exact h a ha
theorem Mem.Clean.of {m m':Mem} (h:m.Clean) (e:m'.words = m.words):m'.Clean:=fun a ha=>by
 unfold Mem.size at ha;rw [e] at ha ⊢;exact h a ha
theorem Mem.D_of {m m':Mem} (e:m'.words = m.words):m'.D = m.D:=by
 funext a;unfold Mem.D;rw [e]
theorem Jr.replan {w w':World} {jb:Nat} {M:MemAt} {m m':Mem} {P:PAt} {p:PSt} {pc:PC} (h:Jr w jb M m P p pc) (hm:Mod M.S w w') (hR:MemRep w' M m') (e1:m'.words = m.words) (e2:m'.writes = m.writes) (e3:m'.cuts = m.cuts) (e4:m'.off = m.off):Jr w' jb M m' P p pc :=
 ⟨⟨⟨hR,h.pg.ctx.blk.mod hm h.pg.ctx.dP,h.pg.ctx.dP,e4.trans h.pg.ctx.off,h.pg.ctx.good.of e1⟩,
  h.pg.rep.mod hm h.pg.rep.dM (fun k hk e=>h.pg.rep.df k hk (.inr e)),
  by rw [Mem.D_of e1,e2];exact h.pg.inv,by have:=h.pg.fit;unfold Mem.size at *;rw [e1];exact this,h.pg.alive.trans e3.symm⟩,
 h.bj.mod hm (fun e=>h.jn (.inr e)),h.jn,h.c33⟩
section
variable {w w' : World} {A : VAt} {m m' : Mem} {s : VSt} {f : Items}
theorem VRep.replan (h:VRep w A m s) (hm:Mod A.M.S w w') (hR:MemRep w' A.M m') (e1:m'.words = m.words) (e2:m'.writes = m.writes) (e3:m'.cuts = m.cuts) (e4:m'.off = m.off):VRep w' A m' s:=by
 obtain ⟨P,p,pc,J,bank,end_,ib,lv,xs,h⟩:=h.ex;exact (h.jmod (bank':=bank) (end':=end_) (hm.mono fun _ _ e=>.inr e) (h.jr.replan hm hR e1 e2 e3 e4) h.of h.st h.bk).rep
theorem VRep.mem (h:VRep w A m s):MemRep w A.M m∧m.off = false∧m.Good∧m.cuts = A.cuts:=by
 obtain ⟨P,p,pc,J,bank,end_,ib,lv,xs,h⟩:=h.ex;exact ⟨h.jr.pg.ctx.mem,h.jr.pg.ctx.off,h.jr.pg.ctx.good,h.jr.pg.alive.symm.trans h.of.cuts⟩
theorem VDead.stub (h:VDead w A m f):∃ P p,VStub w A m P p∧alive m p = false:=by
 obtain ⟨P,p,pc,J,bank,end_,hP,hO,_⟩:=h.ex;obtain ⟨b,e,ib,act,lv,hbv⟩:=h.bv;refine ⟨P,p,⟨hbv.cell 0,⟨by rw [hO.pb];exact h.bj,hP.bp⟩,h.mem⟩,?_⟩;unfold alive;rw [hO.cuts];rcases h.off with e | e
 ·rw [e];rfl
 ·have:(m.cuts == A.cuts) = false:=by simpa using e
  rw [this];simp
theorem VDead.vmem (h:VDead w A m f):VMem m A.count A.frames f:=by
 obtain ⟨P,p,pc,J,bank,end_,_,_,a,b,c⟩:=h.ex;exact ⟨pc,J,bank,end_,a,b,c⟩
theorem VMem.of {C N:Nat} (h:VMem m C N f) (e1:m'.words = m.words) (e2:m'.writes = m.writes):VMem m' C N f:=by
 obtain ⟨pc,J,bank,end_,a,b,c⟩:=h.ex;exact ⟨pc,J,bank,end_,by rw [Mem.D_of e1,e2];exact a,b,c⟩
theorem VStub.mod {P:PAt} {p:PSt} (h:VStub w A m P p) (hm:Mod Nowhere w w'):VStub w' A m P p :=
 ⟨(hm.cell (p:=⟨A.vb,0,none⟩) (cell_lt' h.cell) id).trans h.cell,⟨h.jb.bj.mod hm id,h.jb.bp.mod hm id⟩,h.mem.mod hm fun _ _=>id⟩
end
end Go.Proofs.YtanioleniadhoaaGreat
/-
 The vault: deleting, and what it tells of itself.
-/
namespace Go.Proofs.YtanioleniadhoaaGreat
open Go.RowKit
open Jn Vn
attribute [local go_sem] Oper.semAt_some
end Go.Proofs.YtanioleniadhoaaGreat
/-
 Vaults that cannot be used: not alive any more, nil, or not opened.
-/
namespace Go.Proofs.YtanioleniadhoaaGreat
open Go.RowKit
open Jn Vn
attribute [local go_sem] Oper.semAt_some
structure Shut (w:World) (v:Value) (er:Nat) (eb:Int→Nat→Nat):Prop where
 ready:∀ W,Mod Nowhere w W→Calls Tryz.prog 97 #[v] W fun e w'=>e = .returned (errno er)∧Mod Nowhere W w'
 begun:∀ W,Mod Nowhere w W→∀ (id:Int) (a:Option Addr) (n c:Nat),n≤1099511627776→Calls Tryz.prog 157 #[v,.int .i64 id,.slice a n c] W fun e w'=>e = .returned (errno (eb id n))∧Mod Nowhere W w'
 alive:∀ W,Mod Nowhere w W→Calls Tryz.prog 66 #[v] W fun e w'=>e = .returned (.bool false)∧Mod Nowhere W w'
 er7:er = 7 ∨ er = 31
 eb7:∀ id n,eb id n = 1 ∨ eb id n = 7 ∨ eb id n = 31
theorem Shut.fresh {w w':World} {v:Value} {er:Nat} {eb:Int→Nat→Nat} (h:Shut w v er eb) (hm:Mod Nowhere w w'):Shut w' v er eb :=
 ⟨fun W h1=>h.ready W (hm.trans h1),fun W h1=>h.begun W (hm.trans h1),fun W h1=>h.alive W (hm.trans h1),h.er7,h.eb7⟩
theorem Shut.dead {w:World} {A:VAt} {m:Mem} {f:Items} (h:VDead w A m f):Shut w (ptr A.vb) 7 (fun id n=>if validB id n = true then 7 else 1):=by
 obtain ⟨P,p,hs,ha⟩:=h.stub;refine ⟨fun W hm=>?_,fun W hm id a n c hn=>?_,fun W hm=>?_,.inl rfl,fun id n=>?_⟩
 ·have hR:=vReady_ok (hs.mod hm);rw [ha] at hR;exact hR.mono fun e w' ⟨h1,k,h2⟩=>⟨h1,by rw [h2];exact (Mod.refl Nowhere W).drewN k⟩
 ·have hR:=vBegun_ok (hs.mod hm) id a n c hn;rw [ha] at hR;exact hR.mono fun e w' ⟨h1,k,h2⟩=>⟨by rw [h1];cases validB id n <;> rfl,by rw [h2];exact (Mod.refl Nowhere W).drewN k⟩
 ·have hR:=vAlive_ok (hs.mod hm);rw [ha] at hR;exact hR.mono fun e w' ⟨h1,k,h2⟩=>⟨h1,by rw [h2];exact (Mod.refl Nowhere W).drewN k⟩
 ·cases validB id n <;> simp
end Go.Proofs.YtanioleniadhoaaGreat
