/-
  The registry of the laws: opened on a new vault.
-/
import Derived.Test.YthmahbfmfpjjcaaGreatQG69
set_option linter.unusedVariables false
set_option linter.unusedSimpArgs false
set_option maxHeartbeats 16000000
set_option maxRecDepth 100000
namespace Go.Proofs.YthmahbfmfpjjcaaGreat
open Go.RowKit
open Jn Vn Rg
attribute [local go_sem] Oper.semAt_some
structure RgL (w:World) (A:VAt) (m:Mem) (s:VSt) (M:Md) (rb n:Nat):Prop where
 vl:Vl w A m s n
 at_:RgAt w rb A.vb
 mp:MP s M
 xb:XB 192 32 40 A.Z
section
variable {w w' : World} {A : VAt} {m : Mem} {s : VSt} {M M' : Md} {rb n k er : Nat} {e : Ending}
theorem RgL.fresh (h:RgL w A m s M rb n) (hm:Mod Nowhere w w'):RgL w' A m s M rb n:={ h with vl:=h.vl.fresh hm,at_:=h.at_.fresh hm }
theorem RgL.less (h:RgL w A m s M rb n) (hk:k≤n):RgL w A m s M rb k:={ h with vl:=h.vl.less hk }
theorem RgL.toM (h:RgL w A m s M rb n):RgM w rb A m s M:=⟨h.at_,h.vl.rep,by have:=h.vl.len;omega,h.mp,h.xb⟩
theorem RgL.room (h:RgL w A m s M rb n) (hn:1022784≤n):Room m (vcost A):=h.vl.room.mono (Nat.le_trans h.vl.cost hn)
theorem RgL.reg (h:RgL w A m s M rb n):Reg w rb A m s M.now:=h.toM.reg
theorem RCall.sure (hc:RCall w A m s M' er e w') (h:RgL w A m s M rb (n + 1022784)) (hl:s.l.length≤999) (hp:m.pending = false) :
  e = .returned (Go.Proofs.YthmahbfmfpjjcaaGreat.errno er)∧∃ m' s',RgL w' A m' s' M' rb n∧m'.pending = false∧s'.l.length≤s.l.length + 1∧Mod A.S w w':=by
 obtain ⟨s',h1,h2,h3⟩:=hc;have hv:Vl w A m s (n + vcost A):=h.vl.less (Nat.add_le_add_left h.vl.cost n);obtain ⟨m',a,b,c,d⟩:=h1.sure hv (by omega) hp;exact ⟨a,m',s',⟨b,Blk.mod h.at_ d (h.vl.rep.noS h.at_ (by decide) (by decide)),h2,h.xb⟩,c,h3,d⟩
end
theorem VNew.vl {w w':World} {v:Ending} (h:VNew 16384 1073741824 w v w'):∃ A m,v = .returned (.tuple #[ptr A.M.mb,ptr A.vb,errno 0])∧Vl w' A m (xIdle none_) 1000000000∧(∀ k,A.S k→w.heap.size≤k)∧m.pending = false∧XB 192 32 40 A.Z∧Mod Nowhere w w'∧A.cuts = 0:=by
 obtain ⟨A,m,k,a,b,c,d,e,f,g,i,j⟩:=h;have hb:A.count = 682:=b
 have hcost:vcost A≤1022784:=by
  unfold vcost VAt.Z;rw [hb]
  decide
 have hz:m.size = 16384:=g.size.trans (Mem.new_size _ _);refine ⟨A,m,a,⟨e,Nat.zero_le _,⟨by rw [g.writes,g.endu];show 0 + k + 1000000000≤1073741824;omega,by rw [g.cuts];show 0 < 1099511627776;decide⟩,hcost,g.clean (Mem.new_clean _ _),by rw [hz];decide,by rw [hz,hb],by rw [hz,c],by rw [hb];decide⟩,i,g.pend,⟨by decide,by decide,by decide,?_,by decide⟩,j,d⟩;unfold VAt.Z;rw [hb]
 decide
theorem Zc2 {w:World} {A:VAt} {m:Mem} {s:VSt} (h:VRep w A m s):Calls Tryz.prog 15 #[ptr A.vb] w fun e w'=>∃ rb,e = .returned (.tuple #[ptr rb,errno 0])∧RgAt w' rb A.vb∧w.heap.size≤rb∧Mod Nowhere w w':=by
 have hA:=Jj h;clear h;replace hA:=Lib.hid hA;go_enter Tryz.func15,Tryz.ntmps15;go_wp2_with fail;refine (hA.out).mono ?_;rintro e w1 ⟨rfl,hm⟩;have hb:=Blk.new w1 [ptr A.vb] 75;have hmf:=hm.trans (m1 w1 [ptr A.vb] 75);have hs:=hm.size;refine hid4 ?_ hb hmf hs hm;clear hb hmf hs hm;intro hb hmf hs hm;go_wp2
 go_ret2
 exact ⟨_,rfl,hb.out,hs.out,hmf.out⟩
theorem ZiH {fn:Func} {p u:Tmp} (h:fn.results = #[.cell p 48,.tmp u]) (tmps:Array Value) (w:World) (b:Nat) (c0 c1 c2:Value) (hp:tmps.getD p undef = ptr b) (hb:Blk w b [c0,c1,c2] 48) :
  (results fn tmps).run Tryz.prog w = .ok (.tuple #[.agg #[c0,c1,c2],tmps.getD u undef]) w:=by
 rw [results_cell_tmp h,hp];have k0:=hb.cell 0;have k1:=hb.cell 1;have k2:=hb.cell 2;simp only [gz0,gs0] at k0 k1 k2
 go_simp
theorem setw3 {w2:World} {B:Nat} {T:TypeId} {c0 c1 c2:Value} (hb:Blk w2 B [c0,c1,c2] T) (v0 v1 v2:Value) :
  Blk (((w2.setCell ⟨B,0,none⟩ v0).setCell ⟨B,1,none⟩ v1).setCell ⟨B,2,none⟩ v2) B [v0,v1,v2] T ∧
  Mod (fun j=>j = B) w2 (((w2.setCell ⟨B,0,none⟩ v0).setCell ⟨B,1,none⟩ v1).setCell ⟨B,2,none⟩ v2) :=
 ⟨((hb.setCell 0 v0).setCell 1 v1).setCell 2 v2,(((Mod.refl (fun j=>j = B) w2).setCell (p:=⟨B,0,none⟩) (fun _=>rfl) v0).setCell (p:=⟨B,1,none⟩) (fun _=>rfl) v1).setCell (p:=⟨B,2,none⟩) (fun _=>rfl) v2⟩
def Opened (w:World) (e:Ending) (w':World):Prop :=
 ∃ A m rb,e = .returned (.tuple #[.agg #[ptr A.M.mb,ptr A.vb,ptr rb],.bool true])∧RgL w' A m (xIdle none_) mFirst rb 1000000000∧w.heap.size≤rb∧(∀ k,A.S k→w.heap.size≤k)∧m.pending = false∧Mod Nowhere w w'∧A.cuts = 0
theorem VRep.keepW {w w':World} {A:VAt} {m:Mem} {s:VSt} {b:Nat} {cs:List Value} {T:TypeId} (h:VRep w A m s) (hm:Mod (fun k=>k = b) w w') (hb:Blk w b cs T) (hT:T ≠ 150∧T ≠ 3∧T ≠ 112∧T ≠ 206∧T ≠ 108∧T ≠ 148∧T ≠ 5∧T ≠ 127):VRep w' A m s:=h.keepB hm hb hT
theorem Zc3 (w:World):Calls Tryz.prog 26 #[] w (Opened w):=by
 have hN:=fun W=>ZhQ (w:=W) (n:=16384) (e:=1073741824) (by omega) (by omega) (by omega) (by omega);replace hN:=Lib.hid hN;go_enter Tryz.func26,Tryz.ntmps26;go_wp2_with fail;refine (hN.out _).mono ?_;rintro e w1 hv;obtain ⟨A,m,rfl,hc,hAS,hpd,hxb,hm1,hcu⟩:=hv.vl;replace hcu:=Lib.hid hcu;clear hv;have hO:=Zc2 hc.rep;have bR:Blk w1 w.heap.size [.pointer none,.pointer none,.pointer none] 48:=(Blk.new w [.pointer none,.pointer none,.pointer none] 48).mod hm1 (fun e=>e);refine hid7 ?_ hO hc hAS hpd hm1 bR hxb;clear hO hc hAS hpd hm1 bR hxb;intro hO hc hAS hpd hm1 bR hxb
 go_wp2_with fail;refine hO.out.mono ?_;rintro e w2 ⟨rb,rfl,hp,hpb,hm2⟩;have b2:=bR.out.mod hm2 (fun e=>e);have k0:=b2.cell 0;have k1:=b2.cell 1;have k2:=b2.cell 2;simp only [gz0,gs0] at k0 k1 k2;have kf:=b2.frozen;have kl:=b2.lt;have hm02:Mod Nowhere w w2:=(((Mod.refl _ w).alloc _).trans hm1.out).trans hm2;obtain ⟨b3,m3⟩:=setw3 b2 (ptr A.M.mb) (ptr A.vb) (ptr rb);have hvk:=(hc.out.fresh hm2).rep.keepW m3 b2 (by decide)
 have hrk:RgAt _ rb A.vb:=Blk.mod hp m3 (fun e=>by
  have hp':Blk w2 rb [ptr A.vb] 75:=hp;have e:rb = w.heap.size:=e;rw [e] at hp';have:=(hp'.inj b2).2
  exact absurd this (by decide))
 have hsz:=hm1.out.size;simp only [World.size_alloc] at hsz
 have hfin:Opened w (.returned (.tuple #[.agg #[ptr A.M.mb,ptr A.vb,ptr rb],.bool true])) (((w2.setCell ⟨w.heap.size,0,none⟩ (ptr A.M.mb)).setCell ⟨w.heap.size,1,none⟩ (ptr A.vb)).setCell ⟨w.heap.size,2,none⟩ (ptr rb)) :=
  ⟨A,m,rb,rfl,⟨{ hc.out with rep:=hvk },hrk,MP.first,hxb.out⟩,by omega,fun k hk=>by have:=hAS.out k hk;simp only [World.size_alloc] at this;omega,hpd.out,hm02.own m3 (Nat.le_refl _),hcu.out⟩
 clear hvk hrk m3 hsz;refine hid7 ?_ hp hm2 b2 hm02 b3 hfin hpb;clear hp hm2 b2 hm02 b3 hfin hpb;intro hp hm2 b2 hm02 b3 hfin hpb;go_wp2;refine bodyPost_ret (ZiH rfl _ _ w.heap.size _ _ _ rfl b3.out) rfl ?_;exact hfin.out
end Go.Proofs.YthmahbfmfpjjcaaGreat
/-
 The law of the registry: the chapter's example.
-/
namespace Go.Proofs.YthmahbfmfpjjcaaGreat
open Go.RowKit
open Jn Vn Rg
attribute [local go_sem] Oper.semAt_some
def idC (k:Int):List Value:=[.int .u8 160,.int .u8 0,.int .u8 0,.int .u8 0,.int .u8 k]
theorem ZiI (k:Nat):idC k = u8s [160,0,0,0,k]:=rfl
theorem Zm {w:World} {b:Nat} {k:Nat} (h:Blk w b (idC k) 5):DSl w (.slice (some ⟨b,0,none⟩) 5 5) [160,0,0,0,k]:=Zfe (by rw [← ZiI];exact h) (by simp [u8s]) (by unfold maxLen;decide)
theorem ZiJ (w:World):Calls Tryz.prog 38 #[] w fun e w'=>e = .returned (.agg #[.slice (some ⟨w.heap.size + 1,0,none⟩) 5 5,.int .i64 1,.int .i64 4,.int .i64 0,.int .i64 0,.slice (some ⟨w.heap.size + 1,0,none⟩) 5 5,.int .i64 0,.int .i64 0])∧Blk w' (w.heap.size + 1) (idC 1) 5∧Mod Nowhere w w':=by
 have hm2:=m2z w [.slice (some ⟨w.heap.size + 1,0,none⟩) 5 5,.int .i64 1,.int .i64 4,.int .i64 0,.int .i64 0,.slice (some ⟨w.heap.size + 1,0,none⟩) 5 5,.int .i64 0,.int .i64 0] (idC 1) 24 5;have hB:=blk_b (w:=w) [.slice (some ⟨w.heap.size + 1,0,none⟩) 5 5,.int .i64 1,.int .i64 4,.int .i64 0,.int .i64 0,.slice (some ⟨w.heap.size + 1,0,none⟩) 5 5,.int .i64 0,.int .i64 0] (idC 1) 24 5;obtain ⟨b1,b2⟩:=hB _ (Mod.refl _ _);clear hB;unfold idC at *;refine hid3 ?_ hm2 b1 b2;clear hm2 b1 b2;intro hm2 b1 b2;go_enter Tryz.func38,Tryz.ntmps38;go_wp2;refine bodyPost_ret (XP rfl _ _ w.heap.size _ _ _ _ _ _ _ _ rfl b1.out) rfl ?_;exact ⟨rfl,b2.out,hm2.out⟩
def RSure (W:World) (A:VAt) (s:VSt) (M':Md) (rb n er:Nat) (x:Ending) (W':World):Prop :=
 x = .returned (errno er)∧∃ m' s',RgL W' A m' s' M' rb n∧m'.pending = false∧s'.l.length≤s.l.length + 1∧Mod A.S W W'
section
variable {W : World} {A : VAt} {m : Mem} {s : VSt} {M : Md} {rb n er : Nat} {l' : List En}
theorem addW (h:RgL W A m s M rb (n + 1022784)) (hp:m.pending = false) (hl:s.l.length≤999) {u v:Value} {e:En} (he:EOk e) (hi:InE W u v e.raw) (hr:rAdd M.now e = (l',er)) :
  Calls Tryz.prog 19 #[ptr rb,.agg (eCells u v e.raw).toArray] W (RSure W A s { M with now:=l' } rb n er):=by
 have:=Zc1 h.toM he hi (h.room (by omega));rw [hr] at this;exact this.mono fun x W' hc=>hc.sure h hl hp
theorem removeW (h:RgL W A m s M rb (n + 1022784)) (hp:m.pending = false) (hl:s.l.length≤999) {t:Value} {a:List Nat} (ht:Src W t a) (ba:Bytes a) (hr:rRemove M.now a = (l',er)) :
  Calls Tryz.prog 20 #[ptr rb,t] W (RSure W A s { M with now:=l' } rb n er):=by
 have:=Zc0 h.toM ht ba (h.room (by omega));rw [hr] at this;exact this.mono fun x W' hc=>hc.sure h hl hp
theorem lockW (h:RgL W A m s M rb (n + 1022784)) (hp:m.pending = false) (hl:s.l.length≤999) {t:Value} {a:List Nat} (ht:Src W t a) (ba:Bytes a) (b:Bool) (hr:rChange M.now a (fLock b) = (l',er)) :
  Calls Tryz.prog 22 #[ptr rb,t,.bool b] W (RSure W A s { M with now:=l' } rb n er):=by
 have:=Jt h.toM ht ba (h.room (by omega)) b;rw [hr] at this;exact this.mono fun x W' hc=>hc.sure h hl hp
end
structure WkB (W:World) (A:VAt) (rb N K:Nat):Prop where
 bw:Blk W N [ptr A.M.mb,ptr A.vb,ptr rb] 48
 i1:Blk W (N + 1 + 1) (idC 1) 5
 b3:Blk W K [.slice (some ⟨N + 1 + 1,0,none⟩) 5 5,.int .i64 1,.int .i64 4,.int .i64 0,.int .i64 0,.slice (some ⟨N + 1 + 1,0,none⟩) 5 5,.int .i64 0,.int .i64 0] 24
 i2:Blk W (K + 1) (idC 2) 5
 b4:Blk W (K + 1 + 1) [.slice (some ⟨K + 1,0,none⟩) 5 5,.int .i64 3,.int .i64 1,.int .i64 0,.int .i64 0,.slice (some ⟨N + 1 + 1,0,none⟩) 5 5,.int .i64 1,.int .i64 0] 24
 i3:Blk W (K + 1 + 1 + 1) (idC 3) 5
 b5:Blk W (K + 1 + 1 + 1 + 1) [.slice (some ⟨K + 1 + 1 + 1,0,none⟩) 5 5,.int .i64 2,.int .i64 3,.int .i64 0,.int .i64 0,.slice (some ⟨N + 1 + 1,0,none⟩) 5 5,.int .i64 1,.int .i64 5] 24
section
variable {W W' : World} {A : VAt} {m : Mem} {s : VSt} {rb N K : Nat}
theorem WkB.fresh (h:WkB W A rb N K) (hm:Mod Nowhere W W'):WkB W' A rb N K:=⟨h.bw.mod hm id,h.i1.mod hm id,h.b3.mod hm id,h.i2.mod hm id,h.b4.mod hm id,h.i3.mod hm id,h.b5.mod hm id⟩
theorem WkB.step (h:WkB W A rb N K) (hr:VRep W A m s) (hm:Mod A.S W W'):WkB W' A rb N K :=
 ⟨h.bw.mod hm (hr.noS h.bw (by decide) (by decide)),h.i1.mod hm (hr.noS h.i1 (by decide) (by decide)),h.b3.mod hm (hr.noS h.b3 (by decide) (by decide)),h.i2.mod hm (hr.noS h.i2 (by decide) (by decide)),h.b4.mod hm (hr.noS h.b4 (by decide) (by decide)),h.i3.mod hm (hr.noS h.i3 (by decide) (by decide)),h.b5.mod hm (hr.noS h.b5 (by decide) (by decide))⟩
theorem WkB.inF (h:WkB W A rb N K):InE W (.slice (some ⟨N + 1 + 1,0,none⟩) 5 5) (.slice (some ⟨N + 1 + 1,0,none⟩) 5 5) exF.raw:=⟨(Zm h.i1).src,(Zm h.i1).src,Zh.1,Zh.2.1⟩
theorem WkB.inP (h:WkB W A rb N K):InE W (.slice (some ⟨K + 1,0,none⟩) 5 5) (.slice (some ⟨N + 1 + 1,0,none⟩) 5 5) exP.raw:=⟨(Zm h.i2).src,(Zm h.i1).src,Zh.2.2.1,Zh.2.2.2.1⟩
theorem WkB.inA (h:WkB W A rb N K):InE W (.slice (some ⟨K + 1 + 1 + 1,0,none⟩) 5 5) (.slice (some ⟨N + 1 + 1,0,none⟩) 5 5) exA.raw:=⟨(Zm h.i3).src,(Zm h.i1).src,Zh.2.2.2.2.1,Zh.2.2.2.2.2⟩
def WkF (W:World) (A:VAt) (rb N K:Nat):Prop:=(W.cell? ⟨N,2,none⟩ = some (ptr rb)∧N < W.heap.size)∧(W.cell? ⟨K,0,none⟩ = some (.slice (some ⟨N + 1 + 1,0,none⟩) 5 5)∧W.cell? ⟨K,1,none⟩ = some (.int .i64 1)∧W.cell? ⟨K,2,none⟩ = some (.int .i64 4)∧W.cell? ⟨K,3,none⟩ = some (.int .i64 0)∧W.cell? ⟨K,4,none⟩ = some (.int .i64 0)∧W.cell? ⟨K,5,none⟩ = some (.slice (some ⟨N + 1 + 1,0,none⟩) 5 5)∧W.cell? ⟨K,6,none⟩ = some (.int .i64 0)∧W.cell? ⟨K,7,none⟩ = some (.int .i64 0)∧K < W.heap.size)∧(W.cell? ⟨K + 1 + 1,0,none⟩ = some (.slice (some ⟨K + 1,0,none⟩) 5 5)∧W.cell? ⟨K + 1 + 1,1,none⟩ = some (.int .i64 3)∧W.cell? ⟨K + 1 + 1,2,none⟩ = some (.int .i64 1)∧W.cell? ⟨K + 1 + 1,3,none⟩ = some (.int .i64 0)∧W.cell? ⟨K + 1 + 1,4,none⟩ = some (.int .i64 0)∧W.cell? ⟨K + 1 + 1,5,none⟩ = some (.slice (some ⟨N + 1 + 1,0,none⟩) 5 5)∧W.cell? ⟨K + 1 + 1,6,none⟩ = some (.int .i64 1)∧W.cell? ⟨K + 1 + 1,7,none⟩ = some (.int .i64 0)∧K + 1 + 1 < W.heap.size)∧(W.cell? ⟨K + 1 + 1 + 1 + 1,0,none⟩ = some (.slice (some ⟨K + 1 + 1 + 1,0,none⟩) 5 5)∧W.cell? ⟨K + 1 + 1 + 1 + 1,1,none⟩ = some (.int .i64 2)∧W.cell? ⟨K + 1 + 1 + 1 + 1,2,none⟩ = some (.int .i64 3)∧W.cell? ⟨K + 1 + 1 + 1 + 1,3,none⟩ = some (.int .i64 0)∧W.cell? ⟨K + 1 + 1 + 1 + 1,4,none⟩ = some (.int .i64 0)∧W.cell? ⟨K + 1 + 1 + 1 + 1,5,none⟩ = some (.slice (some ⟨N + 1 + 1,0,none⟩) 5 5)∧W.cell? ⟨K + 1 + 1 + 1 + 1,6,none⟩ = some (.int .i64 1)∧W.cell? ⟨K + 1 + 1 + 1 + 1,7,none⟩ = some (.int .i64 5)∧K + 1 + 1 + 1 + 1 < W.heap.size)
theorem WkB.f (h:WkB W A rb N K):WkF W A rb N K :=
 ⟨⟨h.bw.cell 2,h.bw.lt⟩,⟨h.b3.cell 0,h.b3.cell 1,h.b3.cell 2,h.b3.cell 3,h.b3.cell 4,h.b3.cell 5,h.b3.cell 6,h.b3.cell 7,h.b3.lt⟩,⟨h.b4.cell 0,h.b4.cell 1,h.b4.cell 2,h.b4.cell 3,h.b4.cell 4,h.b4.cell 5,h.b4.cell 6,h.b4.cell 7,h.b4.lt⟩,⟨h.b5.cell 0,h.b5.cell 1,h.b5.cell 2,h.b5.cell 3,h.b5.cell 4,h.b5.cell 5,h.b5.cell 6,h.b5.cell 7,h.b5.lt⟩⟩
end
end Go.Proofs.YthmahbfmfpjjcaaGreat
/-
 The law of the registry: the chapter's example works.
-/
namespace Go.Proofs.YthmahbfmfpjjcaaGreat
open Go.RowKit
open Jn Vn Rg
attribute [local go_sem] Oper.semAt_some
theorem Zc4:(fun e:En=>begB [] e.aid) = fun _=>true:=by
 funext e
 unfold begB;simp
theorem ex_en:EOk exF∧EOk exP∧EOk exA:=by
 obtain ⟨h1,h2,h3⟩:=ex_ok;obtain ⟨b1,b2,b3,b4,b5,b6⟩:=Zh;exact ⟨(((Yg _).1 h1).en b1 b2).1,(((Yg _).1 h2).en b3 b4).1,(((Yg _).1 h3).en b5 b6).1⟩
theorem Zc5 (W:World):Src W (.slice none 0 0) []:=⟨none,0,rfl,Nat.le_refl _,by decide,fun h=>by simp at h⟩
theorem ZiK {w1 w2:World} {A:VAt} {rb:Nat} (hw:Blk w2 w1.heap.size [ptr A.M.mb,ptr A.vb,ptr rb] 48) (hi:Blk w2 (w1.heap.size + 1 + 1) (idC 1) 5) :
  WkB (((((w2.alloc (.cells #[.slice (some ⟨w1.heap.size + 1 + 1,0,none⟩) 5 5,.int .i64 1,.int .i64 4,.int .i64 0,.int .i64 0,.slice (some ⟨w1.heap.size + 1 + 1,0,none⟩) 5 5,.int .i64 0,.int .i64 0] 24)).alloc (.cells #[.int .u8 160,.int .u8 0,.int .u8 0,.int .u8 0,.int .u8 2] 5)).alloc (.cells #[.slice (some ⟨w2.heap.size + 1,0,none⟩) 5 5,.int .i64 3,.int .i64 1,.int .i64 0,.int .i64 0,.slice (some ⟨w1.heap.size + 1 + 1,0,none⟩) 5 5,.int .i64 1,.int .i64 0] 24)).alloc (.cells #[.int .u8 160,.int .u8 0,.int .u8 0,.int .u8 0,.int .u8 3] 5)).alloc (.cells #[.slice (some ⟨w2.heap.size + 1 + 1 + 1,0,none⟩) 5 5,.int .i64 2,.int .i64 3,.int .i64 0,.int .i64 0,.slice (some ⟨w1.heap.size + 1 + 1,0,none⟩) 5 5,.int .i64 1,.int .i64 5] 24)) A rb w1.heap.size w2.heap.size∧Mod Nowhere w2 (((((w2.alloc (.cells #[.slice (some ⟨w1.heap.size + 1 + 1,0,none⟩) 5 5,.int .i64 1,.int .i64 4,.int .i64 0,.int .i64 0,.slice (some ⟨w1.heap.size + 1 + 1,0,none⟩) 5 5,.int .i64 0,.int .i64 0] 24)).alloc (.cells #[.int .u8 160,.int .u8 0,.int .u8 0,.int .u8 0,.int .u8 2] 5)).alloc (.cells #[.slice (some ⟨w2.heap.size + 1,0,none⟩) 5 5,.int .i64 3,.int .i64 1,.int .i64 0,.int .i64 0,.slice (some ⟨w1.heap.size + 1 + 1,0,none⟩) 5 5,.int .i64 1,.int .i64 0] 24)).alloc (.cells #[.int .u8 160,.int .u8 0,.int .u8 0,.int .u8 0,.int .u8 3] 5)).alloc (.cells #[.slice (some ⟨w2.heap.size + 1 + 1 + 1,0,none⟩) 5 5,.int .i64 2,.int .i64 3,.int .i64 0,.int .i64 0,.slice (some ⟨w1.heap.size + 1 + 1,0,none⟩) 5 5,.int .i64 1,.int .i64 5] 24)):=by
 have z1:=Blk.new w2 [.slice (some ⟨w1.heap.size + 1 + 1,0,none⟩) 5 5,.int .i64 1,.int .i64 4,.int .i64 0,.int .i64 0,.slice (some ⟨w1.heap.size + 1 + 1,0,none⟩) 5 5,.int .i64 0,.int .i64 0] 24;have z2:=Blk.new (w2.alloc (.cells #[.slice (some ⟨w1.heap.size + 1 + 1,0,none⟩) 5 5,.int .i64 1,.int .i64 4,.int .i64 0,.int .i64 0,.slice (some ⟨w1.heap.size + 1 + 1,0,none⟩) 5 5,.int .i64 0,.int .i64 0] 24)) [.int .u8 160,.int .u8 0,.int .u8 0,.int .u8 0,.int .u8 2] 5;have z3:=Blk.new ((w2.alloc (.cells #[.slice (some ⟨w1.heap.size + 1 + 1,0,none⟩) 5 5,.int .i64 1,.int .i64 4,.int .i64 0,.int .i64 0,.slice (some ⟨w1.heap.size + 1 + 1,0,none⟩) 5 5,.int .i64 0,.int .i64 0] 24)).alloc (.cells #[.int .u8 160,.int .u8 0,.int .u8 0,.int .u8 0,.int .u8 2] 5)) [.slice (some ⟨w2.heap.size + 1,0,none⟩) 5 5,.int .i64 3,.int .i64 1,.int .i64 0,.int .i64 0,.slice (some ⟨w1.heap.size + 1 + 1,0,none⟩) 5 5,.int .i64 1,.int .i64 0] 24;have z4:=Blk.new (((w2.alloc (.cells #[.slice (some ⟨w1.heap.size + 1 + 1,0,none⟩) 5 5,.int .i64 1,.int .i64 4,.int .i64 0,.int .i64 0,.slice (some ⟨w1.heap.size + 1 + 1,0,none⟩) 5 5,.int .i64 0,.int .i64 0] 24)).alloc (.cells #[.int .u8 160,.int .u8 0,.int .u8 0,.int .u8 0,.int .u8 2] 5)).alloc (.cells #[.slice (some ⟨w2.heap.size + 1,0,none⟩) 5 5,.int .i64 3,.int .i64 1,.int .i64 0,.int .i64 0,.slice (some ⟨w1.heap.size + 1 + 1,0,none⟩) 5 5,.int .i64 1,.int .i64 0] 24)) [.int .u8 160,.int .u8 0,.int .u8 0,.int .u8 0,.int .u8 3] 5
 have z5:=Blk.new ((((w2.alloc (.cells #[.slice (some ⟨w1.heap.size + 1 + 1,0,none⟩) 5 5,.int .i64 1,.int .i64 4,.int .i64 0,.int .i64 0,.slice (some ⟨w1.heap.size + 1 + 1,0,none⟩) 5 5,.int .i64 0,.int .i64 0] 24)).alloc (.cells #[.int .u8 160,.int .u8 0,.int .u8 0,.int .u8 0,.int .u8 2] 5)).alloc (.cells #[.slice (some ⟨w2.heap.size + 1,0,none⟩) 5 5,.int .i64 3,.int .i64 1,.int .i64 0,.int .i64 0,.slice (some ⟨w1.heap.size + 1 + 1,0,none⟩) 5 5,.int .i64 1,.int .i64 0] 24)).alloc (.cells #[.int .u8 160,.int .u8 0,.int .u8 0,.int .u8 0,.int .u8 3] 5)) [.slice (some ⟨w2.heap.size + 1 + 1 + 1,0,none⟩) 5 5,.int .i64 2,.int .i64 3,.int .i64 0,.int .i64 0,.slice (some ⟨w1.heap.size + 1 + 1,0,none⟩) 5 5,.int .i64 1,.int .i64 5] 24;simp only [World.size_alloc] at z2 z3 z4 z5
 exact ⟨⟨((((hw.alloc _).alloc _).alloc _).alloc _).alloc _,((((hi.alloc _).alloc _).alloc _).alloc _).alloc _,(((z1.alloc _).alloc _).alloc _).alloc _,((z2.alloc _).alloc _).alloc _,(z3.alloc _).alloc _,z4.alloc _,z5⟩,
  (((((Mod.refl _ w2).alloc _).alloc _).alloc _).alloc _).alloc _⟩
theorem Ju (w:World):Calls Tryz.prog 10 #[] w fun e w'=>e = .returned (.bool true)∧Mod Nowhere w w':=by
 have hO:=Zc3 w;have hI:=fun W=>ZiJ W;refine hid2 ?_ hO hI;clear hO hI;intro hO hI;go_enter Tryz.func10,Tryz.ntmps10;go_wp2_with fail;refine (hO.out).mono ?_;rintro e w1 ⟨A,m0,rb,rfl,h0,hrb,hAS,hp0,hm1,-⟩;have hbw:=Blk.new w1 [ptr A.M.mb,ptr A.vb,ptr rb] 48;have hb1:=m1 w1 [ptr A.M.mb,ptr A.vb,ptr rb] 48;refine hid7 ?_ h0 hrb hAS hp0 hm1 hbw hb1;clear h0 hrb hAS hp0 hm1 hbw hb1;intro h0 hrb hAS hp0 hm1 hbw hb1;go_wp2_with fail;refine (hI.out _).mono ?_;rintro e w2 ⟨rfl,hi2,hm2⟩;simp only [World.size_alloc] at hi2 ⊢;obtain ⟨hk,hmX⟩:=ZiK (hbw.out.mod hm2 id) hi2;have hwX:=(hb1.out.trans hm2).trans hmX;refine hid5 ?_ hi2 hm2 hk hmX hwX;clear hi2 hm2 hk hmX hwX;intro hi2 hm2 hk hmX hwX
 go_upto_region 7 with (fail)
 generalize ((((w2.alloc (.cells #[.slice (some ⟨w1.heap.size + 1 + 1,0,none⟩) 5 5,.int .i64 1,.int .i64 4,.int .i64 0,.int .i64 0,.slice (some ⟨w1.heap.size + 1 + 1,0,none⟩) 5 5,.int .i64 0,.int .i64 0] 24)).alloc (.cells #[.int .u8 160,.int .u8 0,.int .u8 0,.int .u8 0,.int .u8 2] 5)).alloc (.cells #[.slice (some ⟨w2.heap.size + 1,0,none⟩) 5 5,.int .i64 3,.int .i64 1,.int .i64 0,.int .i64 0,.slice (some ⟨w1.heap.size + 1 + 1,0,none⟩) 5 5,.int .i64 1,.int .i64 0] 24)).alloc (.cells #[.int .u8 160,.int .u8 0,.int .u8 0,.int .u8 0,.int .u8 3] 5)).alloc (.cells #[.slice (some ⟨w2.heap.size + 1 + 1 + 1,0,none⟩) 5 5,.int .i64 2,.int .i64 3,.int .i64 0,.int .i64 0,.slice (some ⟨w1.heap.size + 1 + 1,0,none⟩) 5 5,.int .i64 1,.int .i64 5] 24) = WX at *;have g0:RgL WX A m0 (xIdle none_) mFirst rb (9000000 + 1022784 + 1022784 + 1022784 + 1022784 + 1022784 + 1022784):=(h0.out.fresh hwX.out).less (by decide)
 have q1:=addW g0 hp0.out (by have:(xIdle none_).l.length = 0:=rfl;omega) (ex_en.2.1) hk.out.inP ex1;obtain ⟨⟨k0,kl⟩,⟨a0,a1,a2,a3,a4,a5,a6,a7,al⟩,⟨b0,b1,b2,b3,b4,b5,b6,b7,bl⟩,⟨c0,c1,c2,c3,c4,c5,c6,c7,cl⟩⟩:=hk.out.f;refine hid2 ?_ q1 g0;clear q1 g0;intro q1 g0;go_wp2_with fail;refine (q1.out).mono ?_;rintro e W1 ⟨rfl,mm1,s1,g1,p1,l1,hS1⟩;have hk1:=hk.out.step g0.out.vl.rep hS1;have l1':s1.l.length≤1:=by have:(xIdle none_).l.length = 0:=rfl;have:=l1;omega
 have hT1:=hS1;clear k0 kl a0 a1 a2 a3 a4 a5 a6 a7 al b0 b1 b2 b3 b4 b5 b6 b7 bl c0 c1 c2 c3 c4 c5 c6 c7 cl;refine hid6 ?_ g1 p1 l1 hS1 hk1 hT1;clear g1 p1 l1 hS1 hk1 hT1;intro g1 p1 l1 hS1 hk1 hT1;have q2:=addW g1.out p1.out (by omega) (ex_en.1) hk1.out.inF ex2;obtain ⟨⟨k0,kl⟩,⟨a0,a1,a2,a3,a4,a5,a6,a7,al⟩,⟨b0,b1,b2,b3,b4,b5,b6,b7,bl⟩,⟨c0,c1,c2,c3,c4,c5,c6,c7,cl⟩⟩:=hk1.out.f;refine hid2 ?_ q2 g1;clear q2 g1;intro q2 g1;go_wp2_with fail;refine (q2.out).mono ?_;rintro e W2 ⟨rfl,mm2,s2,g2,p2,l2,hS2⟩;have hk2:=hk1.out.step g1.out.vl.rep hS2;have l2':s2.l.length≤2:=by have:=l2;have:=l1';omega
 have hT2:=hT1.out.trans hS2;clear k0 kl a0 a1 a2 a3 a4 a5 a6 a7 al b0 b1 b2 b3 b4 b5 b6 b7 bl c0 c1 c2 c3 c4 c5 c6 c7 cl;refine hid6 ?_ g2 p2 l2 hS2 hk2 hT2;clear g2 p2 l2 hS2 hk2 hT2;intro g2 p2 l2 hS2 hk2 hT2;have q3:=addW g2.out p2.out (by omega) (ex_en.2.1) hk2.out.inP ex3;obtain ⟨⟨k0,kl⟩,⟨a0,a1,a2,a3,a4,a5,a6,a7,al⟩,⟨b0,b1,b2,b3,b4,b5,b6,b7,bl⟩,⟨c0,c1,c2,c3,c4,c5,c6,c7,cl⟩⟩:=hk2.out.f;refine hid2 ?_ q3 g2;clear q3 g2;intro q3 g2;go_wp2_with fail;refine (q3.out).mono ?_;rintro e W3 ⟨rfl,mm3,s3,g3,p3,l3,hS3⟩;have hk3:=hk2.out.step g2.out.vl.rep hS3;have l3':s3.l.length≤3:=by have:=l3;have:=l2';omega
 have hT3:=hT2.out.trans hS3;clear k0 kl a0 a1 a2 a3 a4 a5 a6 a7 al b0 b1 b2 b3 b4 b5 b6 b7 bl c0 c1 c2 c3 c4 c5 c6 c7 cl;refine hid6 ?_ g3 p3 l3 hS3 hk3 hT3;clear g3 p3 l3 hS3 hk3 hT3;intro g3 p3 l3 hS3 hk3 hT3;have q4:=addW g3.out p3.out (by omega) (ex_en.2.2) hk3.out.inA ex4;obtain ⟨⟨k0,kl⟩,⟨a0,a1,a2,a3,a4,a5,a6,a7,al⟩,⟨b0,b1,b2,b3,b4,b5,b6,b7,bl⟩,⟨c0,c1,c2,c3,c4,c5,c6,c7,cl⟩⟩:=hk3.out.f;refine hid2 ?_ q4 g3;clear q4 g3;intro q4 g3;go_wp2_with fail;refine (q4.out).mono ?_;rintro e W4 ⟨rfl,mm4,s4,g4,p4,l4,hS4⟩;have hk4:=hk3.out.step g3.out.vl.rep hS4;have l4':s4.l.length≤4:=by have:=l4;have:=l3';omega
 have hT4:=hT3.out.trans hS4;clear k0 kl a0 a1 a2 a3 a4 a5 a6 a7 al b0 b1 b2 b3 b4 b5 b6 b7 bl c0 c1 c2 c3 c4 c5 c6 c7 cl;refine hid6 ?_ g4 p4 l4 hS4 hk4 hT4;clear g4 p4 l4 hS4 hk4 hT4;intro g4 p4 l4 hS4 hk4 hT4;have q5:=removeW g4.out p4.out (by omega) (Zm hk4.out.i1).src Zh.1 ex5;obtain ⟨⟨k0,kl⟩,⟨a0,a1,a2,a3,a4,a5,a6,a7,al⟩,⟨b0,b1,b2,b3,b4,b5,b6,b7,bl⟩,⟨c0,c1,c2,c3,c4,c5,c6,c7,cl⟩⟩:=hk4.out.f;refine hid2 ?_ q5 g4;clear q5 g4;intro q5 g4;go_wp2_with fail;refine (q5.out).mono ?_;rintro e W5 ⟨rfl,mm5,s5,g5,p5,l5,hS5⟩;have hk5:=hk4.out.step g4.out.vl.rep hS5;have l5':s5.l.length≤5:=by have:=l5;have:=l4';omega
 have hT5:=hT4.out.trans hS5;clear k0 kl a0 a1 a2 a3 a4 a5 a6 a7 al b0 b1 b2 b3 b4 b5 b6 b7 bl c0 c1 c2 c3 c4 c5 c6 c7 cl;refine hid6 ?_ g5 p5 l5 hS5 hk5 hT5;clear g5 p5 l5 hS5 hk5 hT5;intro g5 p5 l5 hS5 hk5 hT5;have n1:=ZcV g5.out.reg (Zc5 _) (Zm hk5.out.i1).src bytes_nil Zh.1;rw [Zc4,show rNext _ _ _ = some exA from ex6] at n1;obtain ⟨⟨k0,kl⟩,⟨a0,a1,a2,a3,a4,a5,a6,a7,al⟩,⟨b0,b1,b2,b3,b4,b5,b6,b7,bl⟩,⟨c0,c1,c2,c3,c4,c5,c6,c7,cl⟩⟩:=hk5.out.f;replace n1:=Lib.hid n1
 go_upto_region 9 with (fail)
 go_wp2_with fail;refine (n1.out).mono ?_;rintro e W6 ⟨u,v,rfl,d1,d2,hn6⟩;clear k0 kl a0 a1 a2 a3 a4 a5 a6 a7 al b0 b1 b2 b3 b4 b5 b6 b7 bl c0 c1 c2 c3 c4 c5 c6 c7 cl;obtain ⟨r1,t1,hu,-⟩:=Sl.len d1;have hu:u = .slice r1 5 t1:=hu;obtain ⟨r2,t2,hv,-⟩:=Sl.len d2;have hv:v = .slice r2 5 t2:=hv;subst hu hv;have hz:rOf (some exA) = ⟨2,3,0,0,1,5,[160,0,0,0,3],[160,0,0,0,1]⟩:=rfl;rw [hz];unfold eCells;dsimp only;have hA6:=m1 W6 [.slice r1 5 t1,.int .i64 2,.int .i64 3,.int .i64 0,.int .i64 0,.slice r2 5 t2,.int .i64 1,.int .i64 5] 24;have hb6:=Blk.new W6 [.slice r1 5 t1,.int .i64 2,.int .i64 3,.int .i64 0,.int .i64 0,.slice r2 5 t2,.int .i64 1,.int .i64 5] 24;have hn56:=hn6.trans hA6
 have g6:=g5.out.fresh hn56;have hk6:=hk5.out.fresh hn56;have D1:=d1.fresh hA6;have D2:=d2.fresh hA6;have hl5:=l5';have q7:=lockW (n:=9000000) g6 p5.out (by omega) (Zm hk6.i3).src Zh.2.2.2.2.1 true ex7;obtain ⟨⟨k0,kl⟩,⟨a0,a1,a2,a3,a4,a5,a6,a7,al⟩,⟨b0,b1,b2,b3,b4,b5,b6,b7,bl⟩,⟨c0,c1,c2,c3,c4,c5,c6,c7,cl⟩⟩:=hk6.f;clear d1 d2 hz;refine hid9 ?_ hA6 hb6 hn56 g6 hk6 D1 D2 q7 hn6;clear hA6 hb6 hn56 g6 hk6 D1 D2 q7 hn6;intro hA6 hb6 hn56 g6 hk6 D1 D2 q7 hn6
 go_upto_region 10 with (fail)
 go_wp2_with fail;refine (q7.out).mono ?_;rintro e W7 ⟨rfl,mm7,s7,g7,p7,l7,hS7⟩;have hk7:=hk6.out.step g6.out.vl.rep hS7;have hb7:=hb6.out.mod hS7 (g6.out.vl.rep.noS hb6.out (by decide) (by decide));have D3:=DSl.mod D1.out hS7 (g6.out.vl.rep.shunT (by decide) (by decide));have D4:=DSl.mod D2.out hS7 (g6.out.vl.rep.shunT (by decide) (by decide));have n8:=Jo g7.reg (Zm hk7.i3).src Zh.2.2.2.2.1;rw [show rFind _ _ = some exL from ex8] at n8;clear k0 kl a0 a1 a2 a3 a4 a5 a6 a7 al b0 b1 b2 b3 b4 b5 b6 b7 bl c0 c1 c2 c3 c4 c5 c6 c7 cl;obtain ⟨⟨k0,kl⟩,⟨a0,a1,a2,a3,a4,a5,a6,a7,al⟩,⟨b0,b1,b2,b3,b4,b5,b6,b7,bl⟩,⟨c0,c1,c2,c3,c4,c5,c6,c7,cl⟩⟩:=hk7.f;refine hid9 ?_ hk7 hb7 D3 D4 n8 g7 p7 l7 hS7;clear hk7 hb7 D3 D4 n8 g7 p7 l7 hS7;intro hk7 hb7 D3 D4 n8 g7 p7 l7 hS7
 go_upto_region 11 with (fail)
 go_wp2_with fail;refine (n8.out).mono ?_;rintro e W8 ⟨u,v,rfl,d1,d2,hn8⟩;obtain ⟨r3,t3,hu,-⟩:=Sl.len d1;have hu:u = .slice r3 5 t3:=hu;obtain ⟨r4,t4,hv,-⟩:=Sl.len d2;have hv:v = .slice r4 5 t4:=hv;subst hu hv;have hz:rOf (some exL) = ⟨2,5,3,0,1,5,[160,0,0,0,3],[160,0,0,0,1]⟩:=rfl;rw [hz];unfold eCells;dsimp only;have hA8:=m1 W8 [.slice r3 5 t3,.int .i64 2,.int .i64 5,.int .i64 3,.int .i64 0,.slice r4 5 t4,.int .i64 1,.int .i64 5] 24;have hb8:=Blk.new W8 [.slice r3 5 t3,.int .i64 2,.int .i64 5,.int .i64 3,.int .i64 0,.slice r4 5 t4,.int .i64 1,.int .i64 5] 24;have hn78:=hn8.trans hA8
 have g8:=g7.out.fresh hn78;have hk8:=hk7.out.fresh hn78;have n9:=ZcV g8.reg (Zc5 _) (Zm hk8.i1).src bytes_nil Zh.1;rw [Zc4,show rNext _ _ _ = none from ex9] at n9;clear k0 kl a0 a1 a2 a3 a4 a5 a6 a7 al b0 b1 b2 b3 b4 b5 b6 b7 bl c0 c1 c2 c3 c4 c5 c6 c7 cl d1 d2 hz;obtain ⟨⟨k0,kl⟩,⟨a0,a1,a2,a3,a4,a5,a6,a7,al⟩,⟨b0,b1,b2,b3,b4,b5,b6,b7,bl⟩,⟨c0,c1,c2,c3,c4,c5,c6,c7,cl⟩⟩:=hk8.f;refine hid7 ?_ hA8 hb8 hn78 g8 hk8 n9 hn8;clear hA8 hb8 hn78 g8 hk8 n9 hn8;intro hA8 hb8 hn78 g8 hk8 n9 hn8
 go_upto_region 12 with (fail)
 go_wp2_with fail;refine (n9.out).mono ?_;rintro e W9 ⟨u,v,rfl,d1,d2,hn9⟩;obtain ⟨r5,t5,hu,-⟩:=Sl.len d1;have hu:u = .slice r5 0 t5:=hu;obtain ⟨r6,t6,hv,-⟩:=Sl.len d2;have hv:v = .slice r6 0 t6:=hv;subst hu hv;have hz:rOf none = ⟨0,0,0,0,0,0,[],[]⟩:=rfl;rw [hz];unfold eCells;dsimp only;have hA9:=m1 W9 [.slice r5 0 t5,.int .i64 0,.int .i64 0,.int .i64 0,.int .i64 0,.slice r6 0 t6,.int .i64 0,.int .i64 0] 24;have hn89:=hn9.trans hA9;have hn79:=hn78.out.trans hn89;have hk9:=hk8.out.fresh hn89;have x6:=hb7.out.mod hn79 id;have x8:=hb8.out.mod hn89 id;have D5:=D3.out.fresh hn79
 have D6:=D4.out.fresh hn79
 have hfin:Mod Nowhere w (W9.alloc (.cells #[.slice r5 0 t5,.int .i64 0,.int .i64 0,.int .i64 0,.int .i64 0,.slice r6 0 t6,.int .i64 0,.int .i64 0] 24)) :=
  ((((hm1.out.trans hwX.out).step hT5.out (fun i hi e=>by have:=hAS.out i e;omega)).trans hn56.out).step hS7.out (fun i hi e=>by have:=hAS.out i e;omega)).trans hn79
 have q9:=XQ (x:=((.slice r1 5 t1,.slice r2 5 t2),exA.raw)) (y:=((.slice (some ⟨w2.heap.size + 1 + 1 + 1,0,none⟩) 5 5,.slice (some ⟨w1.heap.size + 1 + 1,0,none⟩) 5 5),exA.raw)) (ExD.s ⟨D5,D6⟩ Zh.2.2.2.2.1 Zh.2.2.2.2.2) ⟨(Zm hk9.i3).src,(Zm hk9.i1).src,Zh.2.2.2.2.1,Zh.2.2.2.2.2⟩ (by show 5≤1000;decide) (by show 5≤1000;decide) (by show 5≤1000;decide) (by show 5≤1000;decide);rw [decide_eq_true rfl] at q9;have y0:=x6.cell 0;have y1:=x6.cell 1;have y2:=x6.cell 2;have y3:=x6.cell 3;have y4:=x6.cell 4;have y5:=x6.cell 5;have y6:=x6.cell 6;have y7:=x6.cell 7;have yl:=x6.lt;simp only [gz0,gs0] at y0 y1 y2 y3 y4 y5 y6 y7
 clear k0 kl a0 a1 a2 a3 a4 a5 a6 a7 al b0 b1 b2 b3 b4 b5 b6 b7 bl c0 c1 c2 c3 c4 c5 c6 c7 cl d1 d2 hz;obtain ⟨⟨k0,kl⟩,⟨a0,a1,a2,a3,a4,a5,a6,a7,al⟩,⟨b0,b1,b2,b3,b4,b5,b6,b7,bl⟩,⟨c0,c1,c2,c3,c4,c5,c6,c7,cl⟩⟩:=hk9.f;refine hid11 ?_ hA9 hn89 hn79 hk9 x6 x8 D5 D6 hfin q9 hn9;clear hA9 hn89 hn79 hk9 x6 x8 D5 D6 hfin q9 hn9;intro hA9 hn89 hn79 hk9 x6 x8 D5 D6 hfin q9 hn9
 go_upto_region 13 with (fail)
 go_wp2_with fail;refine (q9.out).mono ?_;rintro e W10 ⟨rfl,hm10⟩;have x10:=x8.out.mod hm10 id;have v2:=x10.cell 2;have v3:=x10.cell 3;have vl:=x10.lt;simp only [gz0,gs0] at v2 v3;have hfin2:=hfin.out.trans hm10;refine hid3 ?_ hfin2 x10 hm10;clear hfin2 x10 hm10;intro hfin2 x10 hm10;go_wp2;go_ret;exact ⟨rfl,hfin2.out⟩
end Go.Proofs.YthmahbfmfpjjcaaGreat
