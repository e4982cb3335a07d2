/-
  move, Write and Read of the pages.
-/
import Derived.Test.YtanioleniadhoaaGreatAG05
import Derived.RangeFuncNested
import Derived.RangeFuncBound
import Derived.Shelf.RegionOpen
import Derived.OwnWalkIn
import Derived.LoopNIn
import Derived.LoopIn
set_option linter.unusedVariables false
set_option linter.unusedSimpArgs false
set_option maxHeartbeats 2000000
set_option maxRecDepth 100000
namespace Go.Proofs.YtanioleniadhoaaGreat
open Go.RowKit
theorem setPage_same (pc:Nat→List Nat) (i:Nat):setPage pc i (pc i) = pc:=by
 funext j
 unfold setPage
 split
 ·rename_i e;rw [e]
 ·rfl
def PSt.turned (p:PSt):PSt:={ p with turn:=(p.turn + 1) % p.frames }
theorem Pg.turned {w w':World} {M:MemAt} {m:Mem} {P:PAt} {p:PSt} {pc:Nat→List Nat} (h:Pg w M m P p pc)
  (hw:w' = (w.setCell ⟨P.pb,5,none⟩ (.int .i64 ((p.turn + 1) % p.frames:Nat))).drew):Pg w' M m P p.turned pc∧Mod (Only P.pb) w w':=by
 have hm:Mod (Only P.pb) w w':=by rw [hw];exact ((Mod.refl _ w).setCell (fun _=>show Only P.pb P.pb from rfl) _).drew
 have hN:0 < p.frames:=by have:=h.inv.turn;omega
 have hb:PBlk w' M P p.turned:=by
  obtain ⟨fx,hb⟩:=h.ctx.blk;refine ⟨fx,?_⟩;rw [hw];exact (hb.setCell 5 _).drew.conv rfl
 have hr0:=h.rep
 refine ⟨⟨⟨h.ctx.mem.mod hm (fun k hk e=>h.ctx.dP (by have e:k = P.pb:=e;rw [← e];exact hk)),hb,h.ctx.dP,h.ctx.off,h.ctx.good⟩,
  { bp:=hb,ba:=h.rep.ba.mod hm (fun e=>h.rep.d1 (show P.ab = P.pb from e).symm),bh:=h.rep.bh.mod hm (fun e=>h.rep.d2 (show P.hb = P.pb from e).symm),bf:=h.rep.bf.mod hm (fun k hk e=>h.rep.df k hk (.inl (.inl e))),d1:=hr0.d1,d2:=hr0.d2,d3:=hr0.d3,dM:=hr0.dM,df:=hr0.df,al:=hr0.al,hl:=hr0.hl,c16:=hr0.c16,f16:=hr0.f16 },
  { h.inv with turn:=Nat.mod_lt _ hN },h.fit,h.alive⟩,hm⟩
theorem Pg.only {w w':World} {M:MemAt} {m:Mem} {P:PAt} {p:PSt} {pc:Nat→List Nat} (h:Pg w M m P p pc) (hc:PCtx w' M m P p) (hm:Mod (Only P.pb) w w'):Pg w' M m P p pc :=
 ⟨hc,h.rep.only hc.blk hm,h.inv,h.fit,h.alive⟩
theorem WrPost.from {w w1 w':World} {M:MemAt} {m:Mem} {P:PAt} {p:PSt} {n:Nat} {pc pc':Nat→List Nat} {Q:(Nat→List Nat)→Prop} {e:Ending} (p1:PSt)
  (h:WrPost w1 M m P p1 n pc pc' Q e w') (hc:p1.count = p.count) (hf:p1.frames = p.frames) (hcu:p1.cuts = p.cuts) (hm:Mod (fun k=>P.S k ∨ M.S k) w w1):WrPost w M m P p n pc pc' Q e w':=by
 rcases h with ⟨m',P',p',k,e1,e2,e3,e4,e5,e6,e7,e8,e9,e10,e11⟩ | ⟨m',P',p',pc2,e1,e2,e3,e4,e5,e6,e7,e8,e9,e10,e11,e12,e13⟩
 ·exact .inl ⟨m',P',p',k,e1,e2,e3,e4,e5,e6.trans hc,e7.trans hf,e8.trans hcu,e9,e10,hm.trans e11⟩
 ·exact .inr ⟨m',P',p',pc2,e1,e2,e3,e4,e5,e6,e7.trans hc,e8.trans hf,e9.trans hcu,e10,by rw [← hc,← hf];exact e11,e12,hm.trans e13⟩
theorem move_ok {w:World} {M:MemAt} {m:Mem} {P:PAt} {p:PSt} {pc:Nat→List Nat} (h:Pg w M m P p pc) (hrm:Room m 21) :
  Calls Tryz.prog 306 #[ptr P.pb] w (WrPost w M m P p 21 pc pc fun x=>x = pc):=by
 have h5:=h.rep.bp.f5;have h3:=h.rep.bp.f3;have h7:=h.rep.bp.f7;have hpz:=h.rep.bp.frozen;have hpl:=h.rep.bp.lt;have hhz:=h.rep.bh.frozen;have hhl:=h.rep.bh.lt;have hT:=h.inv.turn;have hf16:=h.rep.f16;have hcell:=zs_cell h.rep.bh (i:=p.turn) (by rw [h.rep.hl];exact hT);have hTu:=fun w'=>@Pg.turned w w' M m P p pc h
 have hrem:Int.tmod ((p.turn:Int) + 1) (p.frames:Int) = (((p.turn + 1) % p.frames:Nat):Int):=by
  rw [Int.tmod_eq_emod_of_nonneg (by omega)];push_cast;rfl
 have hb0:((p.frames:Int) == 0) = false:=by
  have:¬ ((p.frames:Int) = 0):=by omega
  simpa using this
 have d2:=h.rep.d2;have hMlt:=h.ctx.mem.lt;rcases h.inv.holds p.turn hT with ⟨e,_⟩ | ⟨i,hi,e,_⟩
 ·rw [e] at hcell;clear e;refine hid3 ?_ h hrm hMlt;clear h hrm hMlt;intro h hrm hMlt;generalize hq:((p.turn + 1) % p.frames:Nat) = q at hTu hrem;replace hTu:=Lib.hid hTu;generalize p.turn = t at *;generalize p.frames = N at *;go_enter Tryz.func306,Tryz.ntmps306;go_wp2
  go_region
  all_goals go_wp2
  go_ret;obtain ⟨hg,hm⟩:=hTu.out _ rfl;exact .inl ⟨m,P,p.turned,0,rfl,hg,rfl,rfl,rfl,rfl,rfl,rfl,by omega,⟨hg.ctx.off,rfl,rfl,rfl,rfl,rfl,hg.ctx.good,id⟩,hm.mono fun j _ hj=>.inl (.inl hj)⟩
 ·rw [e] at hcell;clear e;refine hid3 ?_ h hrm hMlt;clear h hrm hMlt;intro h hrm hMlt;generalize hq:((p.turn + 1) % p.frames:Nat) = q at hTu hrem;refine hid2 ?_ hTu hi;clear hTu hi;intro hTu hi;generalize p.turn = t at *;generalize p.frames = N at *;go_enter Tryz.func306,Tryz.ntmps306;go_wp2
  go_region
  all_goals
   go_wp2_with fail;obtain ⟨hg1,hm1⟩:=hTu.out _ rfl;generalize (w.setCell { block:=P.pb,off:=5 } (Value.int IntKind.i64 ↑q)).drew = w1 at hg1 hm1 ⊢;refine (content_ok hg1.ctx hg1.rep hg1.inv hg1.fit i hi.out).mono ?_;rintro e w2 ⟨v,rfl,hown,hc2,hm2⟩;have hg2:Pg w2 M m P p.turned pc:=hg1.only hc2 hm2
   have hoff:Off (fun k=>P.S k ∨ M.S k) v:=fun k hk hj=>by
    have h1:=owns_fresh hown k hk;have h2:=hm1.size;rcases hj with (e | e | e) | e
    ·have:=h.out.rep.bp.lt;omega
    ·have:=h.out.rep.ba.lt;omega
    ·have:=h.out.rep.bh.lt;omega
    ·have:=hMlt.out k e;omega
   have hP:=place_ok hg2 hi.out (Sl.of_owns hown) (hg2.inv.h.len i hi.out) (hg2.inv.h.bytes i hi.out) (fun k hk hj=>hoff k hk (.inr hj)) hrm.out;rw [setPage_same] at hP;replace hP:=Lib.hid hP;have hm12:=hm1.trans hm2;go_wp2_with fail;refine hP.out.mono ?_;rintro e w3 hpost;have hpost2:WrPost w M m P p 21 pc pc (fun x=>x = pc) e w3:=hpost.from p.turned rfl rfl rfl (hm12.mono fun j _ hj=>.inl (.inl hj))
   obtain ⟨n,rfl⟩:∃ n:Int,e = .returned (errno n):=by
    rcases hpost with ⟨_,_,_,_,e,_⟩ | ⟨_,_,_,_,e,_⟩ <;> exact ⟨_,e⟩
   go_wp2;go_ret;exact hpost2
theorem pMade_ok {w:World} {M:MemAt} {P:PAt} {p:PSt} (hb:PBlk w M P p) :
  Calls Tryz.prog 235 #[ptr P.pb] w fun e w'=>e = .returned (.bool true)∧w = w':=by
 have h0:=hb.f0;clear hb;go_enter Tryz.func235,Tryz.ntmps235;go_wp2;go_ret;exact ⟨ret_bool rfl,rfl⟩
theorem alive_true {m:Mem} {p:PSt} (ho:m.off = false) (hc:p.cuts = m.cuts):alive m p = true:=by simp [alive,ho,hc]
theorem Pg.alive_true {w:World} {M:MemAt} {m:Mem} {P:PAt} {p:PSt} {pc:Nat→List Nat} (h:Pg w M m P p pc):Go.Proofs.YtanioleniadhoaaGreat.alive m p = true:=Go.Proofs.YtanioleniadhoaaGreat.alive_true h.ctx.off h.alive
theorem WrPost.errno {w w':World} {M:MemAt} {m:Mem} {P:PAt} {p:PSt} {n:Nat} {pc pc':Nat→List Nat} {Q:(Nat→List Nat)→Prop} {e:Ending} (h:WrPost w M m P p n pc pc' Q e w'):∃ n:Int,e = .returned (errno n):=by
 rcases h with ⟨_,_,_,_,e,_⟩ | ⟨_,_,_,_,e,_⟩ <;> exact ⟨_,e⟩
theorem Pg.drewN {w:World} {M:MemAt} {m:Mem} {P:PAt} {p:PSt} {pc:Nat→List Nat} (h:Pg w M m P p pc) (n:Nat):Pg (w.drewN n) M m P p pc :=
 have hm:Mod Nowhere w (w.drewN n):=(Mod.refl _ w).drewN n
 ⟨h.ctx.keep hm (fun _ _=>id),h.rep.mod hm (fun _ _=>id) (fun _ _=>id),h.inv,h.fit,h.alive⟩
theorem pWrite_ok {w:World} {M:MemAt} {m:Mem} {P:PAt} {p:PSt} {pc:Nat→List Nat} {vb:Value} {b:List Nat} {i:Nat}
  (h:Pg w M m P p pc) (hi:i < p.count) (hvb:Sl w vb 5 1 48 (u8s b)) (hbl:b.length = 48) (hbb:Bytes b) (hob:Off (fun k=>P.S k ∨ M.S k) vb) (hrm:Room m 42) :
  Calls Tryz.prog 282 #[ptr P.pb,.int .i64 i,vb] w (WrPost w M m P p 42 pc (setPage pc i b) fun x=>x = pc):=by
 have hA:=pAccess_ok h.ctx.mem h.rep.bp (i:Int);rw [h.alive_true] at hA;simp only [if_true] at hA;rw [if_pos (by omega)] at hA;have hMd:=pMade_ok h.rep.bp;replace hMd:=Lib.hid hMd;obtain ⟨bb,bo,bcap,rfl,_⟩:=hvb.open (by omega);have hbb0:=hvb.lt _ rfl;refine hid4 ?_ h hvb hA hrm;clear h hvb hA hrm;intro h hvb hA hrm;go_enter Tryz.func282,Tryz.ntmps282;go_wp2_with fail;refine hMd.out.mono ?_;rintro e w1 ⟨rfl,rfl⟩;go_wp2_with fail;refine hA.out.mono ?_;rintro e w1 ⟨rfl,n,rfl⟩;have hmn:Mod (fun k=>P.S k ∨ M.S k) w (w.drewN n):=(Mod.refl _ w).drewN n;have hM:=move_ok (h.out.drewN n) (hrm.out.mono (by omega))
 generalize w.drewN n = w1 at hmn hM ⊢;replace hM:=Lib.hid hM;go_wp2_with fail;refine hM.out.mono ?_;rintro e w2 hpost;replace hpost:=hpost.from (w:=w) p rfl rfl rfl hmn;rcases hpost with ⟨m',P',p',k,rfl,hg2,a1,a2,a3,a4,a5,a6,hk,hrun,hm2⟩ | ⟨m',P',p',pc2,rfl,e2,e3,e4,e5,e6,e7,e8,e9,e10,e11,e12,e13⟩
 ·have hS:P'.S = P.S:=by unfold PAt.S;rw [a1,a2,a3]
  have hP:=place_ok hg2 (i:=i) (by rw [a4];exact hi) (hvb.out.mod hm2 hob) hbl hbb (fun k hk hj=>hob k hk (.inr hj)) (hrm.out.runs hrun (by omega));rw [a1] at hP;refine hid2 ?_ hP hg2;clear hP hg2;intro hP hg2;go_wp2_with fail;refine hP.out.mono ?_;rintro e w3 hpost
  have hpost2:WrPost w M m P p 42 pc (setPage pc i b) (fun x=>x = pc) e w3:=by
   rcases hpost with ⟨m2,P2,p2,k2,e1,e2,e3,e4,e5,e6,e7,e8,e9,e10,e11⟩ | ⟨m2,P2,p2,pc2,e1,e2,e3,e4,e5,e6,e7,e8,e9,e10,e11,e12,e13⟩
   ·exact .inl ⟨m2,P2,p2,k + k2,e1,e2,e3.trans a1,e4.trans a2,e5.trans a3,e6.trans a4,e7.trans a5,e8.trans a6,by omega,hrun.trans e10,hm2.trans (hS ▸ e11)⟩
   ·exact .inr ⟨m2,P2,p2,pc2,e1,e2,e3,e4.trans a1,e5.trans a2,e6.trans a3,e7.trans a4,e8.trans a5,e9.trans a6,hrun.stopped e10 (by omega),by rw [← a4,← a5];exact e11,e12,hm2.trans (hS ▸ e13)⟩
  obtain ⟨n,rfl⟩:=hpost.errno;go_wp2;go_ret;exact hpost2
 ·go_wp2;go_ret;exact .inr ⟨m',P',p',pc2,rfl,e2,e3,e4,e5,e6,e7,e8,e9,e10.mono (by omega),e11,e12,e13⟩
theorem pRead_ok {w:World} {M:MemAt} {m:Mem} {P:PAt} {p:PSt} {pc:Nat→List Nat} {i:Nat} (h:Pg w M m P p pc) (hi:i < p.count) :
  Calls Tryz.prog 174 #[ptr P.pb,.int .i64 i] w fun e w'=>∃ v,e = .returned (.tuple #[v,errno 0])∧w'.ownsRow w.heap.size 5 1 v 48 (u8s (pc i))∧Pg w' M m P p pc∧Mod (Only P.pb) w w':=by
 have hA:=pAccess_ok h.ctx.mem h.rep.bp (i:Int);rw [h.alive_true] at hA;simp only [if_true] at hA;rw [if_pos (by omega)] at hA;have hMd:=pMade_ok h.rep.bp;refine hid3 ?_ hMd h hA;clear hMd h hA;intro hMd h hA;go_enter Tryz.func174,Tryz.ntmps174;go_wp2_with fail;refine hMd.out.mono ?_;rintro e w1 ⟨rfl,rfl⟩;go_wp2_with fail;refine hA.out.mono ?_;rintro e w1 ⟨rfl,n,rfl⟩;have hg1:=h.out.drewN n;have hC:=content_ok hg1.ctx hg1.rep hg1.inv hg1.fit i hi;have hmn:Mod (Only P.pb) w (w.drewN n):=(Mod.refl _ w).drewN n;have hsz:(w.drewN n).heap.size = w.heap.size:=rfl;generalize w.drewN n = w1 at hmn hC hg1 hsz ⊢;refine hid2 ?_ hC hg1;clear hC hg1;intro hC hg1
 go_wp2_with fail;refine hC.out.mono ?_;rintro e w2 ⟨v,rfl,hown,hc2,hm2⟩;go_wp2
 go_ret2
 exact ⟨v,rfl,hsz ▸ hown,hg1.out.only hc2 hm2,hmn.trans hm2⟩
end Go.Proofs.YtanioleniadhoaaGreat
/-
 The header of a frame.
-/
namespace Go.Proofs.YtanioleniadhoaaGreat
open Go.RowKit
def hdr (pg ver:Int) (bad:Bool):Value:=.agg #[.int .i64 pg,.int .i64 ver,.bool bad]
def hdrOf (D:Nat→Nat) (f:Nat):Value:=if fw D f 19 = 0 then hdr (-1) 0 false else hdr (fpage D f) (fver D f) false
theorem ver_word (x y:Nat) (hx:x < 16777216) (hy:y < 16777216) :
  bits .or .i64 ((x:Int) * 16777216) (y:Int) = ((x * 16777216 + y:Nat):Int):=by
 have e1:(x:Int) * 16777216 = ((x * 16777216:Nat):Int):=by omega
 rw [e1,i64_or _ _ (by omega) (by omega),nat_join 24 _ _ (by omega) (by omega)]
theorem header_ok {w:World} {M:MemAt} {m:Mem} {P:PAt} {p:PSt} (h:PCtx w M m P p) (f:Nat) (hf:f < 65536) (ha:f * 20 + 19 < m.size) (hc:p.count≤65536) (hk:FrameOk m.D p.count f) :
  Calls Tryz.prog 231 #[ptr P.pb,.int .i64 f] w fun e w'=>e = .returned (hdrOf m.D f)∧PCtx w' M m P p∧Mod (Fx m P.pb) w w':=by
 have hlt:=h.lt;have hpl:=hlt P.pb (.inr rfl);have hcA:=h.above hlt (Mod.alloc (Mod.refl _ w) (.cells #[.int .i64 0,.int .i64 0,.bool false] 252));have hmA:Mod (Fx m P.pb) w _:=Mod.alloc (Mod.refl _ w) (.cells #[.int .i64 0,.int .i64 0,.bool false] 252);have hbA:=Blk.new w [.int .i64 0,.int .i64 0,.bool false] 252;have hszA:(w.alloc (.cells #[.int .i64 0,.int .i64 0,.bool false] 252)).heap.size = w.heap.size + 1:=by simp
 have hW:=word_ok hcA f 19 hf ha
 have fin:∀ (w1:World) (x y z:Value),Blk w1 w.heap.size [.int .i64 0,.int .i64 0,.bool false] 252→Mod (Fx m P.pb) w w1→PCtx w1 M m P p→∀ w2,w2 = (((w1.setCell ⟨w.heap.size,0,none⟩ x).setCell ⟨w.heap.size,1,none⟩ y).setCell ⟨w.heap.size,2,none⟩ z) →
   w2.heap[w.heap.size]? = some (.cells #[x,y,z] 252 (0,0))∧PCtx w2 M m P p∧Mod (Fx m P.pb) w w2:=by
  rintro w1 x y z hb hm hc _ rfl;exact ⟨((hb.setCell 0 x).setCell 1 y).setCell 2 z,hc.above hlt ((((Mod.refl _ w1).setCell (fun _=>show Above w.heap.size w.heap.size from Nat.le_refl _) x).setCell (fun _=>show Above w.heap.size w.heap.size from Nat.le_refl _) y).setCell (fun _=>show Above w.heap.size w.heap.size from Nat.le_refl _) z),((hm.setCell (fun h=>by have h:w.heap.size < w.heap.size:=h;omega) x).setCell (fun h=>by have h:w.heap.size < w.heap.size:=h;omega) y).setCell (fun h=>by have h:w.heap.size < w.heap.size:=h;omega) z⟩
 replace fin:=Lib.hid fin;by_cases h0:m.D (f * 20 + 19) = 0
 ·rw [h0] at hW;have e0:hdrOf m.D f = hdr (-1) 0 false:=by unfold hdrOf fw;rw [h0];rfl
  rw [e0];refine hid3 ?_ hW hcA hmA;clear hW hcA hmA;intro hW hcA hmA;go_enter Tryz.func231,Tryz.ntmps231;go_wp2_with fail;refine hW.out.mono ?_;rintro e w1 ⟨rfl,hc1,hm1⟩;have hb1:=hbA.mod hm1 (fun e=>by have e:w.heap.size = P.pb:=e.1;omega);have b0:=hb1.cell 0;have b1:=hb1.cell 1;have b2:=hb1.cell 2;have bz:=hb1.frozen;have bl:=hb1.lt;go_wp2;obtain ⟨f1,f2,f3⟩:=fin.out w1 _ _ _ hb1 (hmA.out.trans hm1) hc1 _ rfl;exact bodyPost_ret (results_cell_row rfl _ _ w.heap.size 252 _ (0,0) _ rfl f1 Tryz.underlying252 rfl (by kernel_rfl)) rfl ⟨rfl,f2,f3⟩
 ·have hval:Valid m.D f:=h0;have hseal:=hk.sok hval;have hpg:=hk.page hval;have e0:hdrOf m.D f = hdr (fpage m.D f) (fver m.D f) false:=by exact if_neg h0
  rw [e0];have hR:=fun w1 (hc1:PCtx w1 M m P p)=>read_ok hc1 f hf ha;unfold ReadPost at hR;have hbe:(m.D (f * 20 + 19) == sealOf (fwords m.D f)) = true:=by simpa [fw] using hseal
  rw [hbe] at hR;have l16:=m.D_lt (f * 20 + 16);have l17:=m.D_lt (f * 20 + 17);have l18:=m.D_lt (f * 20 + 18);have g16:(fwords m.D f).getD 16 0 = m.D (f * 20 + 16):=rfl;have g17:(fwords m.D f).getD 17 0 = m.D (f * 20 + 17):=rfl;have g18:(fwords m.D f).getD 18 0 = m.D (f * 20 + 18):=rfl;have hlen:=fwords_len m.D f;have hpg':m.D (f * 20 + 16) < p.count:=hpg;have hE:hdr (fpage m.D f) (fver m.D f) false = hdr (m.D (f * 20 + 16)) ((m.D (f * 20 + 17) * 16777216 + m.D (f * 20 + 18):Nat)) false:=rfl;rw [hE];generalize hws:fwords m.D f = ws at hR g16 g17 g18 hlen;replace hR:=Lib.hid hR
  generalize m.D (f * 20 + 16) = d16 at l16 g16 hpg' ⊢;generalize m.D (f * 20 + 17) = d17 at l17 g17 ⊢;generalize m.D (f * 20 + 18) = d18 at l18 g18 ⊢;have hvw:=ver_word d17 d18 l17 l18;have hn0:((m.D (f * 20 + 19):Nat):Int) ≠ 0:=by omega
  generalize m.D (f * 20 + 19) = d19 at hW hn0;have hnb:((d19:Int) == 0) = false:=by simpa using hn0
  clear hn0 hbe hseal hpg hE e0 h0 hval hk hws;refine hid3 ?_ hW hcA hmA;clear hW hcA hmA;intro hW hcA hmA;go_enter Tryz.func231,Tryz.ntmps231;go_wp2_with fail;refine hW.out.mono ?_;rintro e w1 ⟨rfl,hc1,hm1⟩;have hb1:=hbA.mod hm1 (fun e=>by have e:w.heap.size = P.pb:=e.1;omega);replace hc1:=Lib.hid hc1;go_wp2_with fail;refine (hR.out w1 hc1.out).mono ?_;rintro e w2 ⟨v,rfl,hown,hc2,hm2⟩;have hb2:=hb1.mod hm2 (fun e=>by have e:w.heap.size = P.pb:=e.1;omega);have hb2':w2.heap[w.heap.size]? = some (.cells #[.int .i64 0,.int .i64 0,.bool false] 252 (0,0)):=hb2;obtain ⟨b,o,cap,rfl,_,_,_,hcell,_⟩:=(Sl.of_owns hown).open (by omega);have c16:=hcell 16 (by omega)
  have c17:=hcell 17 (by omega);have c18:=hcell 18 (by omega);rw [ints_getD _ _ (by omega)] at c16 c17 c18;rw [g16] at c16;rw [g17] at c17;rw [g18] at c18;have h2c:=hc2.blk.f2;clear hcell hown;generalize p.count = C at *;have b0:=hb2.cell 0;have b1:=hb2.cell 1;have b2:=hb2.cell 2;have bz:=hb2.frozen;have bl:=hb2.lt;go_wp2
  go_region
  all_goals go_wp2
  go_region
  all_goals go_wp2
  obtain ⟨f1,f2,f3⟩:=fin.out w2 _ _ _ hb2 ((hmA.out.trans hm1).trans hm2) hc2 _ rfl;exact bodyPost_ret (results_cell_row rfl _ _ w.heap.size 252 _ (0,0) _ rfl f1 Tryz.underlying252 rfl (by kernel_rfl)) rfl ⟨rfl,f2.above hlt (((Mod.refl _ _).drew).drew),f3.drew.drew⟩
end Go.Proofs.YtanioleniadhoaaGreat
/-
 The iterator over the headers of all frames.
-/
namespace Go.Proofs.YtanioleniadhoaaGreat
open Go.RowKit Go.Shelf
attribute [local go_sem] Oper.semAt_some
structure KpH (M:MemAt) (P:PAt) (Bn:Nat) (W W':World):Prop where
 size:W.heap.size≤W'.heap.size
 mem:∀ k,M.S k ∨ k = Bn→W'.heap[k]? = W.heap[k]?
 blk:∀ p,PBlk W M P p→∃ v,PBlk W' M P { p with version:=v }
theorem KpH.refl {M:MemAt} {P:PAt} {Bn:Nat} (W:World):KpH M P Bn W W:=⟨Nat.le_refl _,fun _ _=>rfl,fun p h=>⟨p.version,h⟩⟩
theorem KpH.trans {M:MemAt} {P:PAt} {Bn:Nat} {A B C:World} (h:KpH M P Bn A B) (k:KpH M P Bn B C):KpH M P Bn A C :=
 ⟨Nat.le_trans h.size k.size,fun j hj=>(k.mem j hj).trans (h.mem j hj),fun p hp=>by
  obtain ⟨v,h1⟩:=h.blk p hp;obtain ⟨v',h2⟩:=k.blk _ h1
  exact ⟨v',h2⟩⟩
def encH (D:Nat→Nat) (N:Nat) (x:Nat):Array Value:=#[.int .i64 (x % N:Nat),hdrOf D (x % N)]
theorem grown_of_mod {w w':World} (h:Mod Nowhere w w'):w.grownBy w' none :=
 ⟨h.os,h.tape,h.output,h.size,fun k hk _=>h.block k hk id⟩
theorem MemRep.same {w w':World} {M:MemAt} {m:Mem} (h:MemRep w M m) (hm:∀ k,M.S k→w'.heap[k]? = w.heap[k]?):MemRep w' M m :=
 { h with bm:=(hm _ (.inl rfl)).trans h.bm,bw:=(hm _ (.inr (.inl rfl))).trans h.bw,br:=(hm _ (.inr (.inr rfl))).trans h.br }
structure HIt (W:World) (M:MemAt) (m:Mem) (P:PAt) (N C Bn:Nat):Prop where
 ctx:∃ p,p.count = C∧p.frames = N∧PCtx W M m P p
 box:W.cell? ⟨Bn,0,none⟩ = some (ptr P.pb)
theorem HIt.keep {W W':World} {M:MemAt} {m:Mem} {P:PAt} {N C Bn:Nat} (h:HIt W M m P N C Bn) (k:KpH M P Bn W W'):HIt W' M m P N C Bn:=by
 obtain ⟨p,h1,h2,hc⟩:=h.ctx;obtain ⟨v,hb⟩:=k.blk p hc.blk;exact ⟨⟨{ p with version:=v },h1,h2,⟨hc.mem.same (fun j hj=>k.mem j (.inl hj)),hb,hc.dP,hc.off,hc.good⟩⟩,(World.cell?_of_block (k.mem Bn (.inr rfl))).trans h.box⟩
theorem HIt.nowhere {W W':World} {M:MemAt} {m:Mem} {P:PAt} {N C Bn:Nat} (h:HIt W M m P N C Bn) (hB:Bn < W.heap.size) (k:Mod Nowhere W W'):HIt W' M m P N C Bn:=by
 obtain ⟨p,h1,h2,hc⟩:=h.ctx;exact ⟨⟨p,h1,h2,hc.keep k (fun _ _=>id)⟩,(k.cell (p:=⟨Bn,0,none⟩) hB id).trans h.box⟩
theorem HIt.lt {W:World} {M:MemAt} {m:Mem} {P:PAt} {N C Bn:Nat} (h:HIt W M m P N C Bn):Bn < W.heap.size:=by
 have h:=h.box;by_cases hb:Bn < W.heap.size
 ·exact hb
 ·simp [World.cell?,Array.getElem?_eq_none (Nat.le_of_not_lt hb)] at h
theorem range_snoc (k:Nat):List.range k ++ [k] = List.range (k + 1):=List.range_succ.symm
theorem headers_stops (n:Nat) (hn:2≤n) {w:World} {M:MemAt} {m:Mem} {P:PAt} {N C Bn:Nat} (hI:HIt w M m P N C Bn) (hcl:m.Clean) (hN:N≤65536) (hC:C≤65536) (hfit:N * 20≤m.size) (hok:∀ f,f < N→FrameOk m.D C f) :
  SeqStopsK Fence.wide n Tryz.prog 230 #[.pointer (some ⟨Bn,0,none⟩)] (encH m.D N) (KpH M P Bn) (fun xs=>xs = List.range N) (fun _=>True) N w:=by
 intro l J Jx W hW hJ hJx hY h0;have hI0:HIt W M m P N C Bn:=hI.nowhere hI.lt (Mod.of_below hW);clear hI
 have hd1:=fun k (hk:k < N) W1 (h1:HIt W1 M m P N C Bn)=>(show ∃ p:PSt,p.count = C∧p.frames = N∧Calls Tryz.prog 231 #[ptr P.pb,.int .i64 k] W1 (fun e w'=>e = .returned (hdrOf m.D k)∧Mod Nowhere W1 w') from by
  obtain ⟨p,e1,e2,hc⟩:=h1.ctx
  exact ⟨p,e1,e2,(header_ok hc k (by omega) (by omega) (by omega) (by rw [e1];exact hok k hk)).mono fun e w' ⟨a,b,c⟩=>⟨a,c.clean hcl⟩⟩)
 have hY':∀ k W1,J (List.range k) W1→k < N→YieldAt Fence.wide (n - 1) Tryz.prog l #[.int .i64 k,hdrOf m.D k] W1 fun e W' =>
   (e = .returned (.bool true)∧J (List.range (k + 1)) W'∧KpH M P Bn W1 W') ∨ (e = .returned (.bool false)∧Jx (List.range (k + 1)) W'):=by
  intro k W1 hJ1 hk;have:=hY (List.range k) k W1 hJ1 (by simpa using hk);unfold encH at this;rw [range_snoc,Nat.mod_eq_of_lt hk] at this;exact this
 have hn1:1≤n:=by omega
 obtain ⟨p,e1,e2,hc⟩:=hI0.ctx;have h3:=hc.blk.f3;have hbx:=hI0.box;rw [e2] at h3;refine hid3 ?_ hd1 hY' hI0;clear hd1 hY' hI0;intro hd1 hY' hI0;clear hY hcl hok hc e1 e2;refine callsIn_of_wp Tryz.func230 rfl trivial ?_ rfl;simp only [Tryz.ntmps230,List.size_toArray,List.length_cons,List.length_nil,Nat.reduceAdd,Nat.reduceSub,Array.replicate_succ,Array.replicate_zero,List.push_toArray,List.append_toArray,List.nil_append,List.cons_append]
 gi_wp2
 gi_loopw [8] (fun q wr=>∃ k:Nat,k≤N∧q = .int .i64 k∧J (List.range k) wr∧HIt wr M m P N C Bn) (fun q wr=>N - (intOf q).toNat)
 case atStart=>exact ⟨0,by omega,rfl,h0,hI0.out⟩
 case round =>
  obtain ⟨k,hk,rfl,hJk,hIk⟩:=hrel;by_cases hlt:k < N
  ·obtain ⟨p,e1,e2,hcal⟩:=hd1.out k hlt wr hIk;have hyk:=fun W1 hJ1=>hY'.out k W1 hJ1 hlt;generalize hdrOf m.D k = hv at hcal hyk;have hbk:=hIk.box;refine hid2 ?_ hcal hyk;clear hcal hyk;intro hcal hyk
   gi_wp2_with (refine ⟨trivial,?_⟩;gi_at_call 231;refine (callsIn_wide.2 hcal.out).mono ?_;rintro e w1 ⟨rfl,hm1⟩;have hJ1:=hJ _ _ _ none hJk (grown_of_mod hm1) (fun r e=>by cases e);have hI1:=hIk.nowhere hIk.lt hm1;obtain ⟨fn,tmps,assign,body,hy,hR⟩:=hyk.out w1 hJ1)
   refine hR.mono ?_;rintro e W3 (⟨rfl,hJ3,hk3⟩ | ⟨rfl,hJx3⟩)
   ·have hI3:=hI1.keep hk3
    gi_wp2
    go_roundw
    case rel=>exact ⟨k + 1,by omega,by go_num,hJ3,hI3⟩
    case measure=>simp [intOf];omega
   ·gi_wp2
    refine bodyPost_ret (results_none rfl _ _ _) rfl ?_;exact ⟨⟨_,rfl⟩,.inr ⟨_,trivial,hJx3⟩⟩
  ·obtain rfl:k = N:=by omega
   gi_wp2
   go_end0
   exact ⟨⟨_,rfl⟩,.inl ⟨_,rfl,hJk⟩⟩
end Go.Proofs.YtanioleniadhoaaGreat
