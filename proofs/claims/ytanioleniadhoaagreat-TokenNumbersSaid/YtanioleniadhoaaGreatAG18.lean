/-
  The vault: loading.
-/
import Derived.Test.YtanioleniadhoaaGreatAG16
set_option linter.unusedVariables false
set_option linter.unusedSimpArgs false
set_option maxHeartbeats 8000000
set_option maxRecDepth 100000
namespace Go.Proofs.YtanioleniadhoaaGreat
open Go.RowKit
open Jn Vn
attribute [local go_sem] Oper.semAt_some
theorem sp_still {C:Nat} {pc:PC} {J:Nat→Nat} (h:Still C pc J) (o n:Nat) (hn:o + n≤(C - 32) * 48):rd pc 32 o n = sp J o n:=by
 rw [rd_sp];exact sp_congr fun k h1 h2=>h.is k (by omega)
theorem hdB_parts (b e:Nat):(hdB b e).take 1 = [b]∧((hdB b e).drop 1).take 4 = be 4 e∧(hdB b e).drop 5 = [0,0,0]:=by
 have h:=be_len 4 e;unfold hdB;refine ⟨rfl,?_,?_⟩
 ·show (be 4 e ++ List.replicate 3 0).take 4 = _
  rw [List.take_left' h]
 ·show (be 4 e ++ List.replicate 3 0).drop 4 = _
  rw [List.drop_left' h];rfl
theorem vLoad_ok {w:World} {A:VAt} {m:Mem} {P:PAt} {p:PSt} {pc:PC} {J:Nat→Nat} {bank end_ ib:Nat} {f:Items} (hj:Jr w A.jb A.M m P p pc) (hO:A.Of P p) (hst:Still A.count pc J) (hB:Banks A.Z J f bank end_)
  (hbv:Blk w A.vb (vCells A 0 0 ib false (.slice none 0 0)) 162) (hmp:VMap w ib none_) :
  Calls Tryz.prog 177 #[ptr A.vb] w fun e w'=>e = .returned (errno 0)∧Jr w' A.jb A.M m P p pc∧Blk w' A.vb (vCells A bank end_ ib false (.slice none 0 0)) 162∧VMap w' ib f∧Mod (fun k=>k = A.vb ∨ k = ib ∨ k = A.pb) w w':=by
 have h33:33≤A.count:=by have:=hj.c33;rw [hO.count] at this;exact this
 have h16:A.count≤65536:=by have:=hj.pg.rep.c16;rw [hO.count] at this;exact this
 have hZ1:48≤A.Z:=by unfold VAt.Z;omega
 have hZ2:A.Z≤3145728:=by unfold VAt.Z;omega
 have hZe:(A.count - 32) * 48 = A.Z:=rfl;have hvJ:¬ A.J A.vb:=fun e=>JR.shunJ (T:=162) hj hO (by decide) _ e _ hbv;have hvp:A.vb ≠ A.pb:=fun e=>hvJ (.inl (.inl e));have hvi:A.vb ≠ ib:=fun e=>by rw [e] at hbv;exact hmp.noCells hbv
 have hip:¬ A.J ib:=fun e=>by
  obtain ⟨cs,T,hb⟩:=JR.cells hj hO _ e;exact hmp.noCells hb
 have hSz:=jSize_ok hj.jblk (by rw [hO.count];omega) (by rw [hO.count];omega);rw [hO.count,hZe] at hSz;have hRd:=jRead_ok hj 0 8 (by rw [hO.count,hZe];omega);have hbk1:=hB.one;have hbk2:=hB.le;have hbl:=bank_le (Z:=A.Z) hB.one (by omega);rw [show rd pc 32 0 8 = hdB bank end_ by rw [sp_still hst 0 8 (by rw [hZe];omega),hB.head]] at hRd;have c0:w.cell? ⟨A.vb,0,none⟩ = some (ptr A.jb):=hbv.cell 0;have hvl:=hbv.lt;have hz8:¬ ((A.Z:Int) < 8):=by omega
 rw [show ((0:Nat):Int) = 0 from rfl,show ((8:Nat):Int) = 8 from rfl] at hRd;refine hid9 ?_ hSz hRd hj hO hst hB hbv hmp hZe;clear hSz hRd hj hO hst hB hbv hmp hZe;intro hSz hRd hj hO hst hB hbv hmp hZe;go_enter Tryz.func177,Tryz.ntmps177
 go_wp2_with (go_at_call 160;refine hSz.out.mono ?_;rintro e w1 ⟨rfl,rfl⟩)
 refine hRd.out.mono ?_;rintro e w1 ⟨v1,rfl,hown,hj1,hm1⟩;rw [hO.out.pb] at hm1;have hbv1:=hbv.out.mod hm1 hvp;obtain ⟨g,cap,cs,rfl,hg,hB1,hc1,hc2,hcl,hct⟩:=owns_open hown (by omega);have hsl:=Sl.of_owns hown;have hgz:=hB1.frozen;have hgl:=hB1.lt;obtain ⟨hp1,hp2,hp3⟩:=hdB_parts bank end_;have s4:=hsl.mid 1 5 (by omega) (by omega);have s3:=hsl.mid 5 8 (by omega) (by omega);rw [u8s_drop,u8s_take,hp2,Nat.zero_add] at s4;rw [u8s_drop,u8s_take,hp3,Nat.zero_add] at s3;have hbe4:(be 4 end_).length = 4:=be_len 4 end_;have hbsb:bs A.Z≤1572864:=by unfold bs;omega
 have hnum4:num (be 4 end_) = end_:=num_be_lt (by omega);have hnum3:num [0,0,0] = 0:=rfl;have hgv:¬ A.vb = g:=by have:=hbv1.lt;omega
 have hgv2:¬ g = A.vb:=fun e=>hgv e.symm;have hN4:=quiet_world (vnumber_ok (w:=w1.drew) (v:=.slice (some ⟨g,1,none⟩) 4 (cap - 1)) (l:=be 4 end_) (by rw [hbe4];exact s4.mod ((Mod.refl Nowhere w1).drew) (fun _ _=>id)) (be_bytes _ _) (by omega) (by rw [hnum4];omega));rw [hnum4] at hN4
 have g0:w1.cell? ⟨g,0,none⟩ = some (.int .u8 (bank:Int)):=by
  rw [hB1.cell];have e1:cs[0]? = (cs.take (8 * 1))[0]?:=by rw [List.getElem?_take,if_pos (by omega)]
  rw [e1,hct];rfl
 have k1:=hbv1.cell 1;have k2:=hbv1.cell 2;have kz:=hbv1.frozen;have kl:=hbv1.lt;have hc8:(8:Int)≤(cap:Int):=by omega
 have hm2:Mod (fun k=>k = A.vb) w1 ((w1.setCell ⟨A.vb,1,none⟩ (.int .i64 bank)).setCell ⟨A.vb,2,none⟩ (.int .i64 end_)).drew:=(((Mod.refl (fun k=>k = A.vb) w1).setCell (p:=⟨A.vb,1,none⟩) (fun _=>rfl) _).setCell (p:=⟨A.vb,2,none⟩) (fun _=>rfl) _).drew;have hbv2:Blk ((w1.setCell ⟨A.vb,1,none⟩ (.int .i64 bank)).setCell ⟨A.vb,2,none⟩ (.int .i64 end_)).drew A.vb (vCells A bank end_ ib false (.slice none 0 0)) 162:=(((hbv1.setCell 1 _).setCell 2 _).conv rfl).drew;simp only [vCells,gs0,gz0] at k1 k2;have hr15:=fun W=>run_mid (P:=Tryz.prog) (t:=22) Tryz.underlying22 info_u8 g 0 8 cap 1 5 (by omega) (by omega) (by omega) W;rw [show ((1:Nat):Int) = 1 from rfl,show ((5:Nat):Int) = 5 from rfl,Nat.zero_add,show 5 - 1 = 4 from rfl] at hr15
 have hwb:IntKind.i64.wrap (bank:Int) = (bank:Int):=by rw [IntKind.wrap_i64];omega
 refine hid11 ?_ hN4 hj1 hbv1 hsl hown s4 s3 hm1 hm2 hbv2 hB1;clear hN4 hj1 hbv1 hsl hown s4 s3 hm1 hm2 hbv2 hB1;intro hN4 hj1 hbv1 hsl hown s4 s3 hm1 hm2 hbv2 hB1;clear hct hp1 hp2 hp3 c0;go_wp2
 go_region_held3 (fun w'=>w'.cell? ⟨g,0,none⟩ = some (.int .u8 (bank:Int))) (simp [*,World.cell?_alloc_some,World.cell?_setCell_far,World.cell?_setCell_other])
  (first | (go_at_call 245;(with_reducible refine hN4.out.mono ?_);rintro e w' ⟨rfl,rfl⟩))
 have hj2:=hj1.out.vset hO.out hbv1.out hm2.out
 have hsl2:=hsl.out.mod hm2.out (fun k hk e=>by
  simp only [Value.ownBlock,Option.some.injEq] at hk
  exact hgv2 (hk.trans e))
 have hm02:Mod (fun k=>k = A.vb ∨ k = ib ∨ k = A.pb) w ((w1.setCell ⟨A.vb,1,none⟩ (.int .i64 bank)).setCell ⟨A.vb,2,none⟩ (.int .i64 end_)).drew:=(hm1.out.mono fun k _ e=>.inr (.inr e)).trans (hm2.out.mono fun k _ e=>.inl e)
 have hmp2:VMap ((w1.setCell ⟨A.vb,1,none⟩ (.int .i64 bank)).setCell ⟨A.vb,2,none⟩ (.int .i64 end_)).drew ib none_ :=
  ((hmp.out.mod hm1.out (fun e=>hip (.inl (.inl e))) (fun k e cs hb=>(JR.shunJ hj.out hO.out (T:=5) (by decide)) k (.inl (.inl e)) cs hb)).mod hm2.out (fun e=>hvi (show A.vb = ib from (show ib = A.vb from e).symm)) (fun k e cs hb=>by
   have e:k = A.vb:=e;subst e
   exact absurd (hb.inj hbv1.out).2 (by decide)))
 replace hbv2:=hbv2.out;clear g0 k1 k2 kz kl hN4 hB1 hbv1 hr15;generalize ((w1.setCell ⟨A.vb,1,none⟩ (.int .i64 bank)).setCell ⟨A.vb,2,none⟩ (.int .i64 end_)).drew = W2 at *;have hstub:VStub W2 A m P p:=⟨hbv2.cell 0,hj2.jblk,hj2.pg.ctx.mem⟩;have hBs:=fun n=>quiet_world (vBankSize_ok (w:=W2.drewN n) (A:=A) (m:=m) ⟨(hbv2.drewN n).cell 0,(hj2.fresh ((Mod.refl Nowhere W2).drewN n) (fun _ _=>id)).jblk,(hj2.fresh ((Mod.refl Nowhere W2).drewN n) (fun _ _=>id)).pg.ctx.mem⟩ hO.out h33 h16);have s3:=hsl2.mid 5 8 (by omega) (by omega);rw [u8s_drop,u8s_take,(hdB_parts bank end_).2.2,Nat.zero_add] at s3;have hN3:=fun n=>quiet_world (vnumber_ok (w:=W2.drewN n) (v:=.slice (some ⟨g,5,none⟩) 3 (cap - 5)) (l:=[0,0,0]) (s3.mod ((Mod.refl Nowhere W2).drewN n) (fun _ _=>id)) (bytes_zeros 3) (by decide) (by rw [hnum3];omega))
 rw [hnum3] at hN3;obtain ⟨B,hBe⟩:∃ B,bs A.Z = B:=⟨_,rfl⟩;rw [hBe] at hBs hbk2 hbsb;have hmx:max (0:Int) (B:Int) = (B:Int):=by omega
 have d1:decide ((1:Int) < (bank:Int)) = false:=by simp;omega
 have d2:decide ((B:Int) < (end_:Int)) = false:=by simp;omega
 have k1:W2.cell? ⟨A.vb,1,none⟩ = some (.int .i64 bank):=hbv2.cell 1;have k2:W2.cell? ⟨A.vb,2,none⟩ = some (.int .i64 end_):=hbv2.cell 2;rw [show ((0:Nat):Int) = 0 from rfl] at hN3;have hr5:=fun W=>run_sub (P:=Tryz.prog) (t:=22) Tryz.underlying22 info_u8 g 0 8 cap 5 (by omega) (by omega) W;rw [show ((5:Nat):Int) = 5 from rfl,Nat.zero_add,show 8 - 5 = 3 from rfl] at hr5;refine hid9 ?_ hBs hN3 hj2 hsl2 hm02 hmp2 hbv2 hBe s3;clear hBs hN3 hj2 hsl2 hm02 hmp2 hbv2 hBe s3;intro hBs hN3 hj2 hsl2 hm02 hmp2 hbv2 hBe s3;clear hstub hnum3;go_wp2
 go_quiet (first | (go_at_call 163;with_reducible exact Calls.quiet_of_same (hBs.out _)) | (go_at_call 245;with_reducible exact Calls.quiet_of_same (hN3.out _)))
 have hj3:=hj2.out.fresh ((Mod.refl Nowhere W2).drewN nq) (fun _ _=>id);have hbv3:=hbv2.out.drewN nq;have hmp3:=hmp2.out.fresh ((Mod.refl Nowhere W2).drewN nq);have hm03:=hm02.out.drewN nq;clear hBs hN3 hr5 k1 k2 hj2 hbv2 hmp2 hm02 hsl2 s3;generalize W2.drewN nq = W3 at *;obtain ⟨l,hl1,hl2,hl3⟩:=hB.out.recs;have hdr:Mod Nowhere W3 W3.drew:=(Mod.refl Nowhere W3).drew;have hj3d:=hj3.fresh hdr (fun _ _=>id);have hSt:=vStart_ok (w:=W3.drew) (A:=A) (m:=m) ⟨hbv3.drew.cell 0,hj3d.jblk,hj3d.pg.ctx.mem⟩ hO.out h33 h16 bank hbk1;have hRd2:=jRead_ok hj3d (8 + bank * bs A.Z) end_ (by rw [hO.out.count,hZe.out,hBe.out];rw [hBe.out] at hbl;omega);rw [sp_still hst.out (8 + bank * bs A.Z) end_ (by rw [hZe.out,hBe.out];rw [hBe.out] at hbl;omega),hl1] at hRd2
 have hel:(encRs l).length = end_:=by rw [← hl1,sp_len]
 obtain ⟨O,hOe⟩:∃ O,8 + bank * bs A.Z = O:=⟨_,rfl⟩;rw [hOe] at hSt hRd2;have k0:W3.cell? ⟨A.vb,0,none⟩ = some (ptr A.jb):=hbv3.cell 0;have k1:W3.cell? ⟨A.vb,1,none⟩ = some (.int .i64 bank):=hbv3.cell 1;have k2:W3.cell? ⟨A.vb,2,none⟩ = some (.int .i64 end_):=hbv3.cell 2;have hvl3:=hbv3.lt;have hiS:¬ (fun k=>k = A.pb) ib:=fun e=>hip (.inl (.inl e));have huS:Shun (fun k=>k = A.pb) W3 5:=fun k e cs hb=>(JR.shunJ hj3 hO.out (T:=5) (by decide)) k (.inl (.inl e)) cs hb;refine hid12 ?_ hSt hRd2 hj3 hj3d hbv3 hmp3 hm03 hl2 hl3 hl1 hel hOe;clear hSt hRd2 hj3 hj3d hbv3 hmp3 hm03 hl2 hl3 hl1 hel hOe;intro hSt hRd2 hj3 hj3d hbv3 hmp3 hm03 hl2 hl3 hl1 hel hOe;refine hid2 ?_ huS hdr;clear huS hdr;intro huS hdr
 go_wp2
 go_region_held3 (fun w'=>w'.cell? ⟨A.vb,0,none⟩ = some (ptr A.jb)∧w'.cell? ⟨A.vb,1,none⟩ = some (.int .i64 bank)∧w'.cell? ⟨A.vb,2,none⟩ = some (.int .i64 end_)) (simp [*,World.cell?_alloc_some,World.cell?_setCell_far,World.cell?_setCell_other])
  (first | (go_at_call 227;(with_reducible refine hSt.out.mono ?_);rintro e w' ⟨rfl,rfl⟩) | (go_at_call 244;(with_reducible refine hRd2.out.mono ?_);rintro e w4 ⟨v4,rfl,hown4,hj4,hm4⟩;rw [hO.out.pb] at hm4;have hbv4:=(hbv3.out.drew).mod hm4 hvp;have z0:w4.cell? ⟨A.vb,0,none⟩ = some (ptr A.jb):=hbv4.cell 0;have z1:w4.cell? ⟨A.vb,1,none⟩ = some (.int .i64 bank):=hbv4.cell 1;have z2:w4.cell? ⟨A.vb,2,none⟩ = some (.int .i64 end_):=hbv4.cell 2;replace hown4:=Lib.hid hown4;replace hj4:=Lib.hid hj4;replace hm4:=Lib.hid hm4;replace hbv4:=Lib.hid hbv4))
 have hmp4:=(hmp3.out.fresh hdr.out).mod hm4.out hiS huS.out
 have hds:DSl w4 v4 (encRs l):=by
  have h:=Sl.of_owns hown4.out;rw [DSl,hel.out];exact h
 have hRp:=vReplay_ok hbv4.out rfl hmp4 hds hl2.out (by rw [hel.out];omega);rw [hl3.out] at hRp;obtain ⟨va,vc,rfl,-⟩:=Sl.len hds;have hm04:Mod (fun k=>k = A.vb ∨ k = ib ∨ k = A.pb) w w4:=hm03.out.trans ((hdr.out.nowhere).trans (hm4.out.mono fun k _ e=>.inr (.inr e)));refine hid3 ?_ hRp hm04 hmp4;clear hRp hm04 hmp4;intro hRp hm04 hmp4;clear hds;go_wp2_with fail;refine hRp.out.mono ?_;rintro e w5 ⟨rfl,hmp5,hm5⟩
 have hfin:Jr w5 A.jb A.M m P p pc∧Blk w5 A.vb (vCells A bank end_ ib false (.slice none 0 0)) 162∧VMap w5 ib f∧Mod (fun k=>k = A.vb ∨ k = ib ∨ k = A.pb) w w5:=by
  refine ⟨hj4.out.keep hm5 (fun k hk e=>?_) (hj4.out.pg.rep.bf.off (hmp4.out.shun _)),hbv4.out.mod hm5 hvi,hmp5,hm04.out.trans (hm5.mono fun k _ e=>.inr (.inl e))⟩;have e:k = ib:=e;subst e;rcases hk with hk | hk
  ·have hb:=hj4.out.bj;rw [← hk] at hb;exact hmp4.out.noCells hb
  ·exact hip (by rw [← hO.out.J];exact hk)
 replace hfin:=Lib.hid hfin;go_wp2;go_ret;exact ⟨rfl,hfin.out⟩
end Go.Proofs.YtanioleniadhoaaGreat
/-
 The vault is opened and mounted.
-/
namespace Go.Proofs.YtanioleniadhoaaGreat
open Go.RowKit
open Jn Vn
attribute [local go_sem] Oper.semAt_some
def atOf (M:MemAt) (P:PAt) (p:PSt) (jb vb:Nat):VAt:={ vb:=vb,jb:=jb,pb:=P.pb,ab:=P.ab,hb:=P.hb,M:=M,count:=p.count,frames:=p.frames,cuts:=p.cuts,X:=fun _=>False }
theorem of_atOf (M:MemAt) (P:PAt) (p:PSt) (jb vb:Nat):(atOf M P p jb vb).Of P p:=⟨rfl,rfl,rfl,rfl,rfl,rfl⟩
def vst0 (f:Items):VSt:={ f:=f,act:=false,l:=[] }
theorem vOpen_ok {w:World} {jb:Nat} {M:MemAt} {m:Mem} {P:PAt} {p:PSt} {pc:PC} {J:Nat→Nat} {f:Items} {bank end_:Nat} (h:Jr w jb M m P p pc) (hst:Still p.count pc J) (hB:Banks ((p.count - 32) * 48) J f bank end_) :
  Calls Tryz.prog 108 #[ptr jb] w fun e w'=>∃ vb,e = .returned (.tuple #[ptr vb,errno 0])∧w.heap.size≤vb∧VRep w' (atOf M P p jb vb) m (vst0 f)∧Mod (fun k=>k = P.pb) w w':=by
 have hA:=jAlive_ok h.pg.ctx.mem h.jblk;rw [h.pg.alive_true] at hA;refine hid4 ?_ hA h hst hB;clear hA h hst hB;intro hA h hst hB;go_enter Tryz.func108,Tryz.ntmps108;go_wp2_with fail;refine hA.out.mono ?_;rintro e w1 ⟨rfl,nd,rfl⟩;have h1:=h.out.fresh ((Mod.refl Nowhere w).drewN nd) (fun _ _=>id);have hm1:Mod Nowhere w (w.drewN nd):=(Mod.refl _ w).drewN nd;have hs1:w.heap.size≤(w.drewN nd).heap.size:=Nat.le_refl _;generalize w.drewN nd = w1 at *;have hmm:=run_makeMap (P:=Tryz.prog) 159 w1;have hm2:Mod Nowhere w1 ((w1.alloc (.map #[] 0)).alloc (.cells #[ptr jb,.int .i64 0,.int .i64 0,.map (some w1.heap.size),.bool false,.slice none 0 0] 162)):=((Mod.refl _ w1).alloc _).alloc _;have hmp2:VMap ((w1.alloc (.map #[] 0)).alloc (.cells #[ptr jb,.int .i64 0,.int .i64 0,.map (some w1.heap.size),.bool false,.slice none 0 0] 162)) w1.heap.size none_:=(VMap.made w1).fresh ((Mod.refl _ _).alloc _)
 have hbv2:Blk ((w1.alloc (.map #[] 0)).alloc (.cells #[ptr jb,.int .i64 0,.int .i64 0,.map (some w1.heap.size),.bool false,.slice none 0 0] 162)) (w1.heap.size + 1) (vCells (atOf M P p jb (w1.heap.size + 1)) 0 0 w1.heap.size false (.slice none 0 0)) 162:=by
  have h:=Blk.new (w1.alloc (.map #[] 0)) [ptr jb,.int .i64 0,.int .i64 0,.map (some w1.heap.size),.bool false,.slice none 0 0] 162;simpa [vCells,atOf] using h
 have hj2:=h1.fresh hm2 (fun _ _=>id);have hL:=vLoad_ok (A:=atOf M P p jb (w1.heap.size + 1)) hj2 (of_atOf M P p jb _) hst.out hB.out hbv2 hmp2;have hlt:=h1.lt P.pb (.inr (.inl (.inl rfl)));have hls:∀ T,T ≠ 162→True:=fun _ _=>trivial;clear hls;refine hid3 ?_ hL hm2 hm1;clear hL hm2 hm1;intro hL hm2 hm1;clear h1 hmp2 hbv2 hj2 hA;go_wp2_with fail;refine hL.out.mono ?_;rintro e w3 ⟨rfl,hj3,hbv3,hmp3,hm3⟩
 have hfin:VRep w3 (atOf M P p jb (w1.heap.size + 1)) m (vst0 f)∧Mod (fun k=>k = P.pb) w w3:=by
  refine ⟨⟨⟨P,p,pc,J,bank,end_,w1.heap.size,.slice none 0 0,[],hj3,of_atOf M P p jb _,hst.out,hB.out,hbv3,hmp3,⟨Sl.nil _ _ _,fun x hx=>(List.not_mem_nil hx).elim⟩,rfl,fun r hr=>(List.not_mem_nil hr).elim,fun _=>rfl,fun e=>e,fun _ e=>e.elim⟩⟩,?_⟩;refine ((hm1.out.trans hm2.out).nowhere (S:=fun k=>k = P.pb)).step hm3 (fun i hi e=>?_);rcases e with e | e | e
  ·have e:i = w1.heap.size + 1:=e;omega
  ·have e:i = w1.heap.size:=e;omega
  ·exact e
 replace hfin:=Lib.hid hfin;clear hj3 hbv3 hmp3 hm3;go_wp2
 go_ret2
 exact ⟨_,rfl,by omega,hfin.out.1,hfin.out.2⟩
structure VMem (m:Mem) (C N:Nat) (f:Items):Prop where
 ex:∃ pc J bank end_,Holds m.D C N m.writes pc∧Holdsj C pc J∧Banks ((C - 32) * 48) J f bank end_
def VMounted (w:World) (M:MemAt) (m:Mem) (C N:Nat) (f:Items) (e:Ending) (w':World):Prop :=
 (∃ A m' k,e = .returned (.tuple #[ptr A.vb,errno 0])∧A.M = M∧A.count = C∧A.frames = N∧A.cuts = m.cuts∧VRep w' A m' (vst0 f)∧k≤62580∧Runs m m' k∧(∀ k,A.S k→M.S k ∨ w.heap.size≤k)∧Mod M.S w w') ∨
 (∃ m',e = .returned (.tuple #[.pointer none,errno 7])∧MemRep w' M m'∧Stopped m m' 62580∧VMem m' C N f∧Mod M.S w w')
theorem vMount_ok {w:World} {M:MemAt} {m:Mem} {C N:Nat} {f:Items} (hR:MemRep w M m) (hoff:m.off = false) (hcl:m.Clean) (hgood:m.Good) (h240:240≤m.size) (hC:m.size / 24 = C) (hN:m.size / 20 = N) (h33:33≤C) (hV:VMem m C N f) (hrm:Room m 62580) :
  Calls Tryz.prog 41 #[ptr M.mb] w (VMounted w M m C N f):=by
 obtain ⟨pc,J,bank,end_,hH,hJ,hB⟩:=hV.ex;have hO:=pOpen_ok hR hoff hcl hgood h240 hC hN hH;have hlt:=hR.lt;refine hid3 ?_ hO hJ hB;clear hO hJ hB;intro hO hJ hB;clear hR hH hV;go_enter Tryz.func41,Tryz.ntmps41;go_wp2_with fail;refine hO.out.mono ?_;rintro e w1 ⟨P,p,rfl,hpg,hc,hn,hm1,n1,n2,n3⟩;have hcu:=hpg.alive;have hJO:=jOpen_ok hpg (by omega) (by rw [hc];exact hJ.out) hrm;refine hid2 ?_ hJO hm1;clear hJO hm1;intro hJO hm1;clear hpg hO;go_wp2_with fail;refine hJO.out.mono ?_;rintro e w2 (⟨jb,m',P',p',k,pc',rfl,a0,a1,a2,a3,a4,a5,a6,a7,a8,a9,a10,a11⟩ | ⟨m',P',p',pc2,rfl,b1,b2,b3,b4,b5,b6,b7,b8,b9,b10,b11,b12⟩)
 ·have hcp:p'.count = C:=a5.trans hc
  have hmS:Mod M.S w w2:=(hm1.out.nowhere (S:=M.S)).step a11 (fun i hi e=>by
   rcases e with (e | e | e) | e
   ·omega
   ·omega
   ·omega
   ·exact e)
  have hVO:=vOpen_ok a1 (by rw [hcp,← hc];exact a10) (by rw [hcp];exact hB.out);have hsz:=hm1.out.size;have hsz2:=a11.size;have hP:P'.pb = P.pb∧P'.ab = P.ab∧P'.hb = P.hb:=⟨a2,a3,a4⟩;refine hid2 ?_ hVO hmS;clear hVO hmS;intro hVO hmS;clear a1 a10 a11;go_wp2_with fail;refine hVO.out.mono ?_;rintro e w3 ⟨vb,rfl,c1,c2,c3⟩
  have hfin:VMounted w M m C N f (.returned (.tuple #[ptr vb,errno 0])) w3:=by
   refine .inl ⟨atOf M P' p' jb vb,m',k,rfl,rfl,hcp,a6.trans hn,(a7.trans hcu),c2,a8,a9,?_,?_⟩
   ·rintro i (e | (e | e | e) | e)
    ·right;have e:i = vb:=e;omega
    ·right;have e:i = P'.pb:=e;omega
    ·right;have e:i = P'.ab:=e;omega
    ·right;have e:i = P'.hb:=e;omega
    ·exact .inl e
   ·exact hmS.out.step c3 (fun i hi e=>by have e:i = P'.pb:=e;omega)
  replace hfin:=Lib.hid hfin;clear c2 c3 hVO;go_wp2
  go_ret2
  exact hfin.out
 ·have hfin:VMounted w M m C N f (.returned (.tuple #[.pointer none,errno 7])) w2:=by
   refine .inr ⟨m',rfl,b1,b9,⟨pc2,J,bank,end_,by rw [← hc,← hn];exact b10,by rw [← hc];exact b11,hB.out⟩,?_⟩
   exact (hm1.out.nowhere (S:=M.S)).step b12 (fun i hi e=>by
    rcases e with (e | e | e) | e
    ·omega
    ·omega
    ·omega
    ·exact e)
  replace hfin:=Lib.hid hfin;clear b1 b2 b10 b11 b12;go_wp2
  go_ret2
  exact hfin.out
end Go.Proofs.YtanioleniadhoaaGreat
/-
 A new memory and the empty vault on it.
-/
namespace Go.Proofs.YtanioleniadhoaaGreat
open Go.RowKit
open Jn Vn
attribute [local go_sem] Oper.semAt_some
theorem Mem.new_word (n e a:Nat):(Mem.new n e).words.getD a 0 = 0:=by
 simp only [Mem.new,gd0,List.getElem?_replicate];split <;> rfl
theorem dec_zero:Ecc.dec 0 = (0,0):=by decide +kernel
theorem Mem.new_size (n e:Nat):(Mem.new n e).size = n:=by simp [Mem.new,Mem.size]
theorem Mem.new_clean (n e:Nat):(Mem.new n e).Clean:=fun a _=>by rw [Mem.new_word,dec_zero]
theorem Mem.new_good (n e:Nat):(Mem.new n e).Good:=fun a _=>by rw [Mem.new_word,dec_zero];decide
theorem Mem.new_D (n e a:Nat):(Mem.new n e).D a = 0:=by unfold Mem.D;rw [Mem.new_word,dec_zero]
theorem Mem.new_invalid (n e f:Nat):¬ Valid (Mem.new n e).D f:=fun h=>h (Mem.new_D n e _)
theorem zeros48_get (i:Nat):zeros48.getD i 0 = 0:=by
 simp only [zeros48,gd0,List.getElem?_replicate];split <;> rfl
theorem VMem.new (n e:Nat):VMem (Mem.new n e) (n / 24) (n / 20) none_:=by
 refine ⟨⟨fun _=>zeros48,fun _=>0,0,0,⟨fun f _=>⟨fun h=>(Mem.new_invalid n e f h).elim,fun h=>(Mem.new_invalid n e f h).elim⟩,fun f g _ _ h=>(Mem.new_invalid n e f h).elim,fun f _ h=>(Mem.new_invalid n e f h).elim,fun i _=>.inr ⟨fun f _ h=>(Mem.new_invalid n e f h).elim,rfl⟩⟩,.inl ⟨by decide,fun o _=>zeros48_get _⟩,Banks.fresh fun _ _=>rfl⟩⟩
def VNew (n e:Nat) (w:World) (v:Ending) (w':World):Prop :=
 ∃ A m k,v = .returned (.tuple #[ptr A.M.mb,ptr A.vb,errno 0])∧A.count = n / 24∧A.frames = n / 20∧A.cuts = 0∧VRep w' A m (vst0 none_)∧k≤62580∧Runs (Mem.new n e) m k∧(∀ k,A.S k→w.heap.size≤k)∧Mod Nowhere w w'
theorem vNew_ok {w:World} {n e:Nat} (h1:792≤n) (h2:n≤65536) (h3:62580≤e) (h4:e≤1099511627776) :
  Calls Tryz.prog 32 #[.agg #[.int .i64 n,.int .i64 e]] w (VNew n e w):=by
 have hN:=fun w=>New_ok w n e (by omega) h2 (by omega) h4;have hsz:∀ o,(w.alloc o).heap.size = w.heap.size + 1:=fun o=>by simp
 refine hid2 ?_ hN hsz;clear hN hsz;intro hN hsz;go_enter Tryz.func32,Tryz.ntmps32;go_wp2_with fail;refine (hN.out _).mono ?_;rintro v w1 ⟨M,rfl,hR,hM,hm1⟩;have hMt:=vMount_ok hR rfl (Mem.new_clean n e) (Mem.new_good n e) (by rw [Mem.new_size];omega) (by rw [Mem.new_size]) (by rw [Mem.new_size]) (by omega) (VMem.new n e) ⟨by show 0 + 62580≤e;omega,by show 0 < 1099511627776;omega⟩;refine hid3 ?_ hMt hm1 hM;clear hMt hm1 hM;intro hMt hm1 hM;clear hR hN;go_wp2_with fail;refine hMt.out.mono ?_;rintro v w2 (⟨A,m',k,rfl,rfl,a2,a3,a4,a5,a6,a7,a8,a9⟩ | ⟨m',rfl,b1,b2,b3,b4⟩)
 ·have hfin:VNew n e w (.returned (.tuple #[ptr A.M.mb,ptr A.vb,errno 0])) w2:=by
   have hs:=hm1.out.size;refine ⟨A,m',k,rfl,a2,a3,a4,a5,a6,a7,?_,?_⟩
   ·intro i hi;rcases a8 i hi with hi | hi
    ·have:=hM.out i hi;simp only [hsz.out] at this hs;omega
    ·simp only [hsz.out] at hs;omega
   ·have h0:Mod Nowhere w w1:=(((Mod.refl _ w).alloc _)).trans hm1.out;refine h0.step a9 fun i hi e=>?_;have:=hM.out i e;simp only [hsz.out] at this;exact absurd hi (by omega)
  replace hfin:=Lib.hid hfin;clear a5 a7 a8 a9;go_wp2
  go_ret3
  exact hfin.out
 ·exact absurd b2.pend Bool.false_ne_true
end Go.Proofs.YtanioleniadhoaaGreat
