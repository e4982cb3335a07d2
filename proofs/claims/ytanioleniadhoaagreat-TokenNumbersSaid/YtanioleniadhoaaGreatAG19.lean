/-
  The vault: a change is made.
-/
import Derived.Test.YtanioleniadhoaaGreatAG16
import Derived.Test.YtanioleniadhoaaGreatAG17
set_option linter.unusedVariables false
set_option linter.unusedSimpArgs false
set_option maxHeartbeats 8000000
set_option maxRecDepth 100000
namespace Go.Proofs.YtanioleniadhoaaGreat
open Go.RowKit
open Jn Vn
attribute [local go_sem] Oper.semAt_some
def VCall (w:World) (A:VAt) (m:Mem) (s s':VSt) (er n:Nat) (e:Ending) (w':World):Prop :=
 (∃ m' k,e = .returned (errno er)∧VRep w' A m' s'∧k≤n∧Runs m m' k∧Mod A.S w w') ∨
 (∃ m' f,e = .returned (errno 7)∧(f = s.f ∨ f = s'.f)∧VDead w' A m' f∧Stopped m m' n∧Mod A.S w w')
theorem VPost.call {w w':World} {A:VAt} {m:Mem} {s s':VSt} {n:Nat} {e:Ending} (h:VPost w A m s s' n e w'):VCall w A m s s' 0 n e w':=h
theorem VCall.same {w w':World} {A:VAt} {m:Mem} {s s':VSt} {er n:Nat} (h:VRep w' A m s') (hr:Runs m m 0) (hm:Mod A.S w w'):VCall w A m s s' er n (.returned (errno er)) w':=.inl ⟨m,0,rfl,h,Nat.zero_le _,hr,hm⟩
theorem VCall.from {w w1 w':World} {A:VAt} {m:Mem} {s s':VSt} {er n:Nat} {e:Ending} (h:VCall w1 A m s s' er n e w') (hm:Mod A.S w w1):VCall w A m s s' er n e w':=by
 rcases h with ⟨m',k,a,b,c,d,f⟩ | ⟨m',g,a,b,c,d,f⟩
 ·exact .inl ⟨m',k,a,b,c,d,hm.trans f⟩
 ·exact .inr ⟨m',g,a,b,c,d,hm.trans f⟩
theorem VCall.errno {w w':World} {A:VAt} {m:Mem} {s s':VSt} {er n:Nat} {e:Ending} (h:VCall w A m s s' er n e w'):∃ k:Int,e = .returned (errno k):=by
 rcases h with ⟨_,_,e,_⟩ | ⟨_,_,e,_⟩ <;> exact ⟨_,e⟩
theorem vcsCells_one (xs:List Vx) (x:Vx):vcsCells (xs ++ [x]) = vcsCells xs ++ vcCells x:=by rw [vcsCells_append];simp [vcsCells]
theorem vcs_one (xs:List Vx) (h:∀ x ∈ xs,∃ a n c,x.1 = .slice a n c):∀ u ∈ vcsCells xs,u.oneCell' = true:=by
 intro u hu;obtain ⟨x,hx,hu⟩:=List.mem_flatMap.1 hu;obtain ⟨a,n,c,e⟩:=h x hx;simp only [vcCells,List.mem_cons,List.not_mem_nil,or_false] at hu;rcases hu with rfl | rfl | rfl
 ·rfl
 ·rw [e];rfl
 ·rfl
theorem vChange_ok {w:World} {A:VAt} {m:Mem} {P:PAt} {p:PSt} {pc:PC} {J:Nat→Nat} {bank end_ ib:Nat} {lv cv:Value} {xs:List Vx} {s:VSt} {r:Rec}
  (h:VR w A m P p pc J bank end_ ib lv xs s) (hxn:s.l.length≤1000000) (hd:DSl w cv (r.2.getD [])) (hr:ROk r) (hrm:Room m (vcost A)) :
  Calls Tryz.prog 158 #[ptr A.vb,vAgg (cv,r)] w (VCall w A m s (vChange A.Z s r).1 (vChange A.Z s r).2 (vcost A)):=by
 obtain ⟨i0,hi0,hz0,hz1,hz2⟩:=info_parts info_cl_chg;have hxl:xs.length = s.l.length:=by rw [← h.xl,recs_len]
 obtain ⟨rid,rd⟩:=r;obtain ⟨ca,cc,rfl,-⟩:=Sl.len hd;obtain ⟨dl,hdl⟩:∃ dl,(rd.getD []).length = dl:=⟨_,rfl⟩;obtain ⟨rg,hrg⟩:∃ rg,rd.isNone = rg:=⟨_,rfl⟩;dsimp only [vAgg] at hd ⊢;rw [hdl] at hd ⊢;rw [hrg]
 have hform:∀ x ∈ xs,∃ a n c,x.1 = .slice a n c:=fun x hx=>by
  obtain ⟨a,c,e,_⟩:=Sl.len (h.ls.data x hx);exact ⟨a,_,c,e⟩
 obtain ⟨la,lc,rfl,hl1,hl2,-⟩:=h.ls.sl.gen;have hm0:Mod Nowhere w (w.alloc (.cells #[.int .i64 rid,.slice ca dl cc,.bool rg] 238)):=(Mod.refl _ w).alloc _;have hcb:Blk (w.alloc (.cells #[.int .i64 rid,.slice ca dl cc,.bool rg] 238)) w.heap.size [.int .i64 rid,.slice ca dl cc,.bool rg] 238:=Blk.new w _ _;obtain ⟨W,hW⟩:∃ W,w.alloc (.cells #[.int .i64 rid,.slice ca dl cc,.bool rg] 238) = W:=⟨_,rfl⟩;have hs0:W.heap.size = w.heap.size + 1:=by rw [← hW];simp
 rw [hW] at hm0 hcb;have hV:=h.fresh hm0;have hdW:DSl W (.slice ca dl cc) (rd.getD []):=hd.fresh hm0
 have hCl:∀ W',Mod Nowhere W W'→Calls Tryz.prog 220 #[.slice la xs.length lc] W' (ClonePost W' (.slice la xs.length lc) 238 3 xs.length (vcsCells xs)):=fun W' hm' =>
  Clone_chg (hV.ls.fresh hm').sl (vcs_one xs hform) (by omega)
 obtain ⟨cb,hcbe⟩:∃ cb,w.heap.size = cb:=⟨_,rfl⟩;rw [hcbe] at hcb hs0;have k5:W.cell? ⟨A.vb,5,none⟩ = some (.slice la xs.length lc):=hV.bv.cell 5;have a0:W.cell? ⟨cb,0,none⟩ = some (.int .i64 rid):=hcb.cell 0;have a1:W.cell? ⟨cb,1,none⟩ = some (.slice ca dl cc):=hcb.cell 1;have a2:W.cell? ⟨cb,2,none⟩ = some (.bool rg):=hcb.cell 2;have hvl:=hV.bv.lt;have hcl:cb < W.heap.size:=by omega
 have hxb:xs.length≤1000000:=by omega
 have hna:¬ Above W.heap.size A.vb:=fun e=>by have e:W.heap.size≤A.vb:=e;omega
 have hnc:¬ Above W.heap.size cb:=fun e=>by have e:W.heap.size≤cb:=e;omega
 have hncA:∀ u ∈ ([.int .i64 (rid:Int),.slice ca dl cc,.bool rg]:List Value),u.oneCell' = true:=by simp [Value.oneCell']
 refine hid12 ?_ h hV hdW hCl hcb hm0 hdl hrg hform hr hd hxl;clear h hV hdW hCl hcb hm0 hdl hrg hform hr hd hxl;intro h hV hdW hCl hcb hm0 hdl hrg hform hr hd hxl;refine hid2 ?_ hncA hs0;clear hncA hs0;intro hncA hs0;go_enter Tryz.func158,Tryz.ntmps158;go_wp2;refine hid2 ?_ hW hcbe;clear hW hcbe;intro hW hcbe
 go_cut [5] (fun v w1=>∃ (va:Option Addr) (vc:Nat),v = .slice va (xs.length + 1) vc∧w1.ownsRow W.heap.size 238 3 (.slice va (xs.length + 1) vc) (xs.length + 1) (vcsCells xs ++ [.int .i64 rid,.slice ca dl cc,.bool rg])∧Mod Nowhere W w1)
 case first =>
  have hMd:Mod Nowhere W W.drew:=(Mod.refl Nowhere W).drew;have hMa:Mod Nowhere W (W.alloc (.cells #[.int .i64 (rid:Int),.slice ca dl cc,.bool rg] 238)).drew:=((Mod.refl Nowhere W).alloc _).drew
  go_region_held3 (fun w'=>w'.cell? ⟨A.vb,5,none⟩ = some (.slice la xs.length lc)∧w'.cell? ⟨cb,0,none⟩ = some (.int .i64 rid)∧w'.cell? ⟨cb,1,none⟩ = some (.slice ca dl cc)∧w'.cell? ⟨cb,2,none⟩ = some (.bool rg)) (simp [*,World.cell?_alloc_some,World.cell?_setCell_far,World.cell?_setCell_other])
   (first
    | (go_at_call 220;(with_reducible refine (hCl.out _ hMd).mono ?_);rintro e w5 ⟨v5,rfl,hown5,hnil5,hm5⟩;obtain ⟨va5,vc5,rfl,-⟩:=owns_form hown5;have hmW5:Mod Nowhere W w5:=hMd.trans hm5;have hsz5:=hmW5.size;have hown6:=ownsRow_base_a (base':=W.heap.size) hown5 hMd.size;have q5:w5.cell? ⟨A.vb,5,none⟩ = some (.slice la xs.length lc):=(hmW5.cell (p:=⟨A.vb,5,none⟩) hvl id).trans k5;have q0:w5.cell? ⟨cb,0,none⟩ = some (.int .i64 rid):=(hmW5.cell (p:=⟨cb,0,none⟩) hcl id).trans a0;have q1:w5.cell? ⟨cb,1,none⟩ = some (.slice ca dl cc):=(hmW5.cell (p:=⟨cb,1,none⟩) hcl id).trans a1;have q2:w5.cell? ⟨cb,2,none⟩ = some (.bool rg):=(hmW5.cell (p:=⟨cb,2,none⟩) hcl id).trans a2;replace hmW5:=Lib.hid hmW5;replace hown6:=Lib.hid hown6;clear hnil5 hown5)
    | (go_at_call 220;(with_reducible refine (hCl.out _ hMa).mono ?_);rintro e w5 ⟨v5,rfl,hown5,hnil5,hm5⟩;obtain ⟨va5,vc5,rfl,-⟩:=owns_form hown5;have hmW5:Mod Nowhere W w5:=hMa.trans hm5;have hsz5:=hmW5.size;have hown6:=ownsRow_base_a (base':=W.heap.size) hown5 hMa.size;have q5:w5.cell? ⟨A.vb,5,none⟩ = some (.slice la xs.length lc):=(hmW5.cell (p:=⟨A.vb,5,none⟩) hvl id).trans k5;have q0:w5.cell? ⟨cb,0,none⟩ = some (.int .i64 rid):=(hmW5.cell (p:=⟨cb,0,none⟩) hcl id).trans a0;have q1:w5.cell? ⟨cb,1,none⟩ = some (.slice ca dl cc):=(hmW5.cell (p:=⟨cb,1,none⟩) hcl id).trans a1;have q2:w5.cell? ⟨cb,2,none⟩ = some (.bool rg):=(hmW5.cell (p:=⟨cb,2,none⟩) hcl id).trans a2;replace hmW5:=Lib.hid hmW5;replace hown6:=Lib.hid hown6;clear hnil5 hown5)
    | (refine step_append_lies _ rfl (.tmp 10) (.tmp 12) 160 rfl W.heap.size 238 i0 (.agg #[.int .i64 0,.slice none 0 0,.bool false]) 3 40 Tryz.underlying160 hi0 hz0 hz1 hz2 rfl (by decide) _ xs.length _ (by rfl) (owns_mod hown6.out ((Mod.refl Nowhere w5).alloc _) (fun _ _=>id)) ⟨w5.heap.size,0,none⟩ 1 1 [.int .i64 (rid:Int),.slice ca dl cc,.bool rg] (by rfl) rfl (cells_new w5 _ _) hncA.out (by decide) (by unfold maxLen;omega) (by omega) (by simp;omega) _ rfl ?_;intro g6 cap6 w6 hown7 hgrow6 hat6 hlt6;have hmA6:Mod (Above W.heap.size) W w6:=(hmW5.out.nowhere.trans (((Mod.refl Nowhere w5).alloc _).nowhere)).trans ((Mod.refl (Above W.heap.size) _).app (owns_mod hown6.out ((Mod.refl Nowhere w5).alloc _) (fun _ _=>id)) hgrow6);have r5:w6.cell? ⟨A.vb,5,none⟩ = some (.slice la xs.length lc):=(hmA6.cell (p:=⟨A.vb,5,none⟩) hvl hna).trans k5;have r0:w6.cell? ⟨cb,0,none⟩ = some (.int .i64 rid):=(hmA6.cell (p:=⟨cb,0,none⟩) hcl hnc).trans a0;have r1:w6.cell? ⟨cb,1,none⟩ = some (.slice ca dl cc):=(hmA6.cell (p:=⟨cb,1,none⟩) hcl hnc).trans a1;have r2:w6.cell? ⟨cb,2,none⟩ = some (.bool rg):=(hmA6.cell (p:=⟨cb,2,none⟩) hcl hnc).trans a2;replace hmA6:=Lib.hid hmA6;replace hown7:=Lib.hid hown7;clear hgrow6 hat6)
    | (refine step_append_lies _ rfl (.tmp 10) (.tmp 12) 160 rfl W.heap.size 238 i0 (.agg #[.int .i64 0,.slice none 0 0,.bool false]) 3 40 Tryz.underlying160 hi0 hz0 hz1 hz2 rfl (by decide) _ xs.length _ (by rfl) hown6.out ⟨W.heap.size,0,none⟩ 1 1 [.int .i64 (rid:Int),.slice ca dl cc,.bool rg] (by rfl) rfl (blk_src (((Blk.new W [.int .i64 (rid:Int),.slice ca dl cc,.bool rg] 238).drew).mod hm5 id)) hncA.out (by decide) (by unfold maxLen;omega) (by omega) (by omega) _ rfl ?_;intro g6 cap6 w6 hown7 hgrow6 hat6 hlt6;have hmA6:Mod (Above W.heap.size) W w6:=hmW5.out.nowhere.trans ((Mod.refl (Above W.heap.size) _).app hown6.out hgrow6);have r5:w6.cell? ⟨A.vb,5,none⟩ = some (.slice la xs.length lc):=(hmA6.cell (p:=⟨A.vb,5,none⟩) hvl hna).trans k5;have r0:w6.cell? ⟨cb,0,none⟩ = some (.int .i64 rid):=(hmA6.cell (p:=⟨cb,0,none⟩) hcl hnc).trans a0;have r1:w6.cell? ⟨cb,1,none⟩ = some (.slice ca dl cc):=(hmA6.cell (p:=⟨cb,1,none⟩) hcl hnc).trans a1;have r2:w6.cell? ⟨cb,2,none⟩ = some (.bool rg):=(hmA6.cell (p:=⟨cb,2,none⟩) hcl hnc).trans a2;replace hmA6:=Lib.hid hmA6;replace hown7:=Lib.hid hown7;clear hgrow6 hat6)
    | fail)
  all_goals
   go_wp2;go_meet
   case rel =>
    exact ⟨_,_,rfl,hown7.out,hmA6.out.mono fun i hi e=>by have e:W.heap.size≤i:=e;omega⟩
 case rest =>
  obtain ⟨va,vc,rfl,hown,hm1⟩:=hcut;have hV1:=hV.out.fresh hm1;obtain ⟨ys,hys⟩:∃ ys:List Vx,xs ++ [(.slice ca dl cc,(rid,rd))] = ys:=⟨_,rfl⟩;have hyl:ys.length = xs.length + 1:=by rw [← hys];simp
  have hyr:recs ys = s.l ++ [(rid,rd)]:=by rw [← hys,← h.out.xl];simp [recs]
  have hvc:VcSl wc (.slice va (xs.length + 1) vc) ys:=by
   refine ⟨?_,fun x hx=>?_⟩
   ·rw [hyl,← hys,vcsCells_one];have e:vcCells ((.slice ca dl cc,(rid,rd)):Vx) = [.int .i64 (rid:Int),.slice ca dl cc,.bool rg]:=by rw [← hrg.out];rfl
    rw [e];exact Sl.of_owns hown
   ·rw [← hys] at hx;rcases List.mem_append.1 hx with hx | hx
    ·exact hV1.ls.data x hx
    ·have e:=List.mem_singleton.1 hx;subst e;exact hdW.out.fresh hm1
  have hok:∀ y ∈ ys,ROk y.2:=fun y hy=>by
   have hy2:y.2 ∈ recs ys:=List.mem_map.2 ⟨y,hy,rfl⟩;rw [hyr] at hy2;rcases List.mem_append.1 hy2 with hy2 | hy2
   ·exact h.out.ok _ hy2
   ·rw [List.mem_singleton.1 hy2];exact hr.out
  have hid:∀ y ∈ ys,y.2.1 < 4097:=fun y hy=>by have:=(hok y hy).hi;omega
  have hyn:ys.length≤1099511627776:=by omega
  have hF:IOk (sets s.f (recs ys)):=hV1.bk.iok.sets _ (fun x hx=>by
   obtain ⟨y,hy,rfl⟩:=List.mem_map.1 hx
   exact hok y hy)
  have hNd:=vNeed_ok hvc hok hyn;have hmw:Mod Nowhere w wc:=hm0.out.trans hm1;have h33:33≤A.count:=by have:=hV1.jr.c33;rw [hV1.of.count] at this;exact this
  have h16:A.count≤65536:=by have:=hV1.jr.pg.rep.c16;rw [hV1.of.count] at this;exact this
  have c4:wc.cell? ⟨A.vb,4,none⟩ = some (.bool s.act):=hV1.bv.cell 4;have c2:wc.cell? ⟨cb,2,none⟩ = some (.bool rg):=(hm1.cell (p:=⟨cb,2,none⟩) hcl id).trans a2;have hrun:=hV1.jr.runs;have hcl1:cb < wc.heap.size:=Nat.lt_of_lt_of_le hcl hm1.size;obtain ⟨R,hRe⟩:∃ R,A.Z / 2 = R:=⟨_,rfl⟩;obtain ⟨F,hFe⟩:∃ F,sets s.f (recs ys) = F:=⟨_,rfl⟩;rw [hFe] at hF;have hFl:sets s.f (s.l ++ [(rid,rd)]) = F:=by rw [← hyr];exact hFe
  have hvC:∀ w' s' er,VRep w' A m s'→vChange A.Z s (rid,rd) = (s',er)→Mod A.S w w'→VCall w A m s (vChange A.Z s (rid,rd)).1 (vChange A.Z s (rid,rd)).2 (vcost A) (.returned (errno er)) w':=fun w' s' er a b c=>by
   rw [b];exact VCall.same a hrun c
  refine hid12 ?_ hV1 hyl hyr hvc hok hid hNd hmw hF hRe hFe hFl;clear hV1 hyl hyr hvc hok hid hNd hmw hF hRe hFe hFl;intro hV1 hyl hyr hvc hok hid hNd hmw hF hRe hFe hFl;refine hid2 ?_ hys hvC;clear hys hvC;intro hys hvC;clear hown k5 a0 a1 a2
  cases hact:s.act
  all_goals rw [hact] at c4
  ·have hn1:¬ (s.act = true∧4096 < Vn.need (s.l ++ [(rid,rd)])):=fun e=>by rw [hact] at e;cases e.1
   have hidle:=h.out.idle hact;refine hid3 ?_ hact hn1 hidle;clear hact hn1 hidle;intro hact hn1 hidle;have hm2:Mod Nowhere wc wc:=Mod.refl _ _;have hmB:=hm2;replace hmB:=Lib.hid hmB;have hV2:=hV1.out.fresh hm2;have hvc2:=hvc.out.fresh hm2;have hmw2:=hmw.out.trans hm2;have c42:wc.cell? ⟨A.vb,4,none⟩ = some (.bool s.act):=hV2.bv.cell 4;rw [hact.out] at c42;have c32:wc.cell? ⟨A.vb,3,none⟩ = some (.map (some ib)):=hV2.bv.cell 3;have c52:wc.cell? ⟨A.vb,5,none⟩ = some (.slice la xs.length lc):=hV2.bv.cell 5;have c22:wc.cell? ⟨cb,2,none⟩ = some (.bool rg):=(hm2.cell (p:=⟨cb,2,none⟩) hcl1 id).trans c2;have cz2:=hV2.bv.frozen
   have cl2:=hV2.bv.lt;refine hid3 ?_ hV2 hvc2 hmw2;clear hV2 hvc2 hmw2;intro hV2 hvc2 hmw2;clear hNd hm2
   cases hrd:rd with
   | none =>
    obtain rfl:rg = true:=by rw [← hrg.out,hrd];rfl
    replace hrd:=Lib.hid hrd;have hSt:=vStore_ok hV2.out (show VcSl wc (.slice va (xs.length + 1) vc) ys from hvc2.out) hok.out hyn (by rw [hFe.out];rw [← hFl.out,hidle.out,hrd.out];exact Nat.le_trans (wt_drop s.f rid) h.out.bk.wt) hrm;rw [hFe.out] at hSt;replace hSt:=Lib.hid hSt;go_wp2_with fail;refine hSt.out.mono ?_;rintro e w9 hpost;have hvv:vChange A.Z s (rid,rd) = ({ s with f:=F },0):=by unfold vChange;rw [if_neg hn1.out,if_neg (fun e=>by rw [hrd.out] at e;cases e.1),if_neg (fun e=>by rw [hact.out] at e;cases e),hFl.out]
    have hfin:VCall w A m s (vChange A.Z s (rid,rd)).1 (vChange A.Z s (rid,rd)).2 (vcost A) e w9:=by
     rw [hvv];exact (hpost.call).from (hmw2.out.nowhere)
    obtain ⟨ne,rfl⟩:=hfin.errno;replace hfin:=Lib.hid hfin;clear hpost hvv;go_wp2;go_ret;exact hfin.out
   | some d =>
    obtain rfl:rg = false:=by rw [← hrg.out,hrd];rfl
    replace hrd:=Lib.hid hrd;have hAp:=vApply_ok hV2.out.im (show VcSl wc (.slice va (xs.length + 1) vc) ys from hvc2.out) hid.out hyn;rw [hFe.out] at hAp;replace hAp:=Lib.hid hAp;go_wp2_with fail;refine hAp.out.mono ?_;rintro e w3 ⟨nb,rfl,hnb3,hmp3,hm3⟩;have hWt:=vWeight_ok hmp3 hF.out;replace hWt:=Lib.hid hWt;clear hmp3;go_wp2_with fail;refine hWt.out.mono ?_;rintro e w4 ⟨rfl,hm4⟩;have hm14:=hmB.out.trans (hm3.trans hm4);have hV4:=hV1.out.fresh hm14;have hvc4:=hvc.out.fresh hm14;have hmw4:=hmw.out.trans hm14;have c44:w4.cell? ⟨A.vb,4,none⟩ = some (.bool s.act):=hV4.bv.cell 4;rw [hact.out] at c44
    have c34:w4.cell? ⟨A.vb,3,none⟩ = some (.map (some ib)):=hV4.bv.cell 3;have c54:w4.cell? ⟨A.vb,5,none⟩ = some (.slice la xs.length lc):=hV4.bv.cell 5;have c24:w4.cell? ⟨cb,2,none⟩ = some (.bool false):=(hm14.cell (p:=⟨cb,2,none⟩) hcl1 id).trans c2;have cz4:=hV4.bv.frozen;have cl4:=hV4.bv.lt;refine hid3 ?_ hV4 hvc4 hmw4;clear hV4 hvc4 hmw4;intro hV4 hvc4 hmw4;have hRm:=vRoom_ok hV4.out.stub hV4.out.of h33 h16;rw [hRe.out] at hRm;replace hRm:=Lib.hid hRm;clear hAp hWt hm3 hm4 hm14;by_cases hfu:R < wt F
    ·have hfi:(R:Int) < (wt F:Nat):=by omega
     go_wp2_with (go_at_call 104;(with_reducible refine hRm.out.mono ?_);rintro e w5 ⟨rfl,rfl⟩)
     go_ret;exact hvC.out _ s 10 hV4.out.rep (by unfold vChange;rw [if_neg hn1.out,if_pos ⟨by rw [hrd.out];rfl,by rw [hFl.out,hRe.out];exact hfu⟩]) (hmw4.out.nowhere)
    ·have hfi:¬ (R:Int) < (wt F:Nat):=by omega
     go_wp2_with (go_at_call 104;(with_reducible refine hRm.out.mono ?_);rintro e w5 ⟨rfl,rfl⟩)
     have hSt:=vStore_ok hV4.out (show VcSl w4 (.slice va (xs.length + 1) vc) ys from hvc4.out) hok.out hyn (by rw [hFe.out];rw [hRe.out];omega) hrm;rw [hFe.out] at hSt;replace hSt:=Lib.hid hSt;go_wp2_with fail;refine hSt.out.mono ?_;rintro e w9 hpost;have hvv:vChange A.Z s (rid,rd) = ({ s with f:=F },0):=by unfold vChange;rw [if_neg hn1.out,if_neg (fun e=>by rw [hFl.out,hRe.out] at e;exact hfu e.2),if_neg (fun e=>by rw [hact.out] at e;cases e),hFl.out]
     have hfin:VCall w A m s (vChange A.Z s (rid,rd)).1 (vChange A.Z s (rid,rd)).2 (vcost A) e w9:=by
      rw [hvv];exact (hpost.call).from (hmw4.out.nowhere)
     obtain ⟨ne,rfl⟩:=hfin.errno;replace hfin:=Lib.hid hfin;clear hpost hvv;go_wp2;go_ret;exact hfin.out
  ·replace hact:=Lib.hid hact;by_cases hne:4096 < Vn.need (recs ys)
   ·have hni:(4096:Int) < (Vn.need (recs ys):Nat):=by omega
    go_wp2_with fail;refine hNd.out.mono ?_;rintro e w2 ⟨rfl,hm2⟩;have hV2:=hV1.out.fresh hm2;have hvc2:=hvc.out.fresh hm2;have hmw2:=hmw.out.trans hm2;have c42:w2.cell? ⟨A.vb,4,none⟩ = some (.bool s.act):=hV2.bv.cell 4;rw [hact.out] at c42;have c32:w2.cell? ⟨A.vb,3,none⟩ = some (.map (some ib)):=hV2.bv.cell 3;have c52:w2.cell? ⟨A.vb,5,none⟩ = some (.slice la xs.length lc):=hV2.bv.cell 5;have c22:w2.cell? ⟨cb,2,none⟩ = some (.bool rg):=(hm2.cell (p:=⟨cb,2,none⟩) hcl1 id).trans c2;have cz2:=hV2.bv.frozen;have cl2:=hV2.bv.lt;refine hid3 ?_ hV2 hvc2 hmw2;clear hV2 hvc2 hmw2;intro hV2 hvc2 hmw2
    clear hNd;go_wp2;go_ret;exact hvC.out _ s 11 hV2.out.rep (by unfold vChange;rw [if_pos ⟨hact.out,by rw [← hyr.out];exact hne⟩]) (hmw2.out.nowhere)
   ·have hni:¬ (4096:Int) < (Vn.need (recs ys):Nat):=by omega
    have hn1:¬ (s.act = true∧4096 < Vn.need (s.l ++ [(rid,rd)])):=fun e=>hne (by rw [hyr.out];exact e.2);replace hn1:=Lib.hid hn1;go_wp2_with fail;refine hNd.out.mono ?_;rintro e w2 ⟨rfl,hm2⟩;have hV2:=hV1.out.fresh hm2;have hvc2:=hvc.out.fresh hm2;have hmw2:=hmw.out.trans hm2;have c42:w2.cell? ⟨A.vb,4,none⟩ = some (.bool s.act):=hV2.bv.cell 4;rw [hact.out] at c42;have c32:w2.cell? ⟨A.vb,3,none⟩ = some (.map (some ib)):=hV2.bv.cell 3;have c52:w2.cell? ⟨A.vb,5,none⟩ = some (.slice la xs.length lc):=hV2.bv.cell 5;have c22:w2.cell? ⟨cb,2,none⟩ = some (.bool rg):=(hm2.cell (p:=⟨cb,2,none⟩) hcl1 id).trans c2;have cz2:=hV2.bv.frozen
    have cl2:=hV2.bv.lt;refine hid3 ?_ hV2 hvc2 hmw2;clear hV2 hvc2 hmw2;intro hV2 hvc2 hmw2;have hmB:=hm2;replace hmB:=Lib.hid hmB;clear hNd hm2
    cases hrd:rd with
    | none =>
     obtain rfl:rg = true:=by rw [← hrg.out,hrd];rfl
     replace hrd:=Lib.hid hrd;go_wp2;go_ret;have hms:Mod (fun k=>k = A.vb) w2 (w2.setCell ⟨A.vb,5,none⟩ (.slice va (xs.length + 1) vc)):=(Mod.refl (fun k=>k = A.vb) w2).setCell (p:=⟨A.vb,5,none⟩) (fun _=>rfl) _
     have hVs:=hV2.out.set (bank':=bank) (end':=end_) (lv':=.slice va (xs.length + 1) vc) (xs':=ys) (s':={ s with l:=s.l ++ [(rid,rd)] }) hms ((hV2.out.bv.setCell 5 _).conv rfl) hV2.out.bk hV2.out.im hvc2.out hyr.out (fun x hx=>by
      rw [← hyr.out] at hx;obtain ⟨y,hy,rfl⟩:=List.mem_map.1 hx
      exact hok.out y hy) (fun e=>by rw [hact.out] at e;cases e)
     exact hvC.out _ _ 0 hVs.rep (by unfold vChange;rw [if_neg hn1.out,if_neg (fun e=>by rw [hrd.out] at e;cases e.1),if_pos hact.out]) ((hmw2.out.nowhere).trans (hms.mono fun _ _ h=>.inl h))
    | some d =>
     obtain rfl:rg = false:=by rw [← hrg.out,hrd];rfl
     replace hrd:=Lib.hid hrd;have hAp:=vApply_ok hV2.out.im (show VcSl w2 (.slice va (xs.length + 1) vc) ys from hvc2.out) hid.out hyn;rw [hFe.out] at hAp;replace hAp:=Lib.hid hAp;go_wp2_with fail;refine hAp.out.mono ?_;rintro e w3 ⟨nb,rfl,hnb3,hmp3,hm3⟩;have hWt:=vWeight_ok hmp3 hF.out;replace hWt:=Lib.hid hWt;clear hmp3;go_wp2_with fail;refine hWt.out.mono ?_;rintro e w4 ⟨rfl,hm4⟩;have hm14:=hmB.out.trans (hm3.trans hm4);have hV4:=hV1.out.fresh hm14;have hvc4:=hvc.out.fresh hm14;have hmw4:=hmw.out.trans hm14;have c44:w4.cell? ⟨A.vb,4,none⟩ = some (.bool s.act):=hV4.bv.cell 4;rw [hact.out] at c44
     have c34:w4.cell? ⟨A.vb,3,none⟩ = some (.map (some ib)):=hV4.bv.cell 3;have c54:w4.cell? ⟨A.vb,5,none⟩ = some (.slice la xs.length lc):=hV4.bv.cell 5;have c24:w4.cell? ⟨cb,2,none⟩ = some (.bool false):=(hm14.cell (p:=⟨cb,2,none⟩) hcl1 id).trans c2;have cz4:=hV4.bv.frozen;have cl4:=hV4.bv.lt;refine hid3 ?_ hV4 hvc4 hmw4;clear hV4 hvc4 hmw4;intro hV4 hvc4 hmw4;have hRm:=vRoom_ok hV4.out.stub hV4.out.of h33 h16;rw [hRe.out] at hRm;replace hRm:=Lib.hid hRm;clear hAp hWt hm3 hm4 hm14;by_cases hfu:R < wt F
     ·have hfi:(R:Int) < (wt F:Nat):=by omega
      go_wp2_with (go_at_call 104;(with_reducible refine hRm.out.mono ?_);rintro e w5 ⟨rfl,rfl⟩)
      go_ret;exact hvC.out _ s 10 hV4.out.rep (by unfold vChange;rw [if_neg hn1.out,if_pos ⟨by rw [hrd.out];rfl,by rw [hFl.out,hRe.out];exact hfu⟩]) (hmw4.out.nowhere)
     ·have hfi:¬ (R:Int) < (wt F:Nat):=by omega
      go_wp2_with (go_at_call 104;(with_reducible refine hRm.out.mono ?_);rintro e w5 ⟨rfl,rfl⟩)
      go_ret;have hms:Mod (fun k=>k = A.vb) w4 (w4.setCell ⟨A.vb,5,none⟩ (.slice va (xs.length + 1) vc)):=(Mod.refl (fun k=>k = A.vb) w4).setCell (p:=⟨A.vb,5,none⟩) (fun _=>rfl) _
      have hVs:=hV4.out.set (bank':=bank) (end':=end_) (lv':=.slice va (xs.length + 1) vc) (xs':=ys) (s':={ s with l:=s.l ++ [(rid,rd)] }) hms ((hV4.out.bv.setCell 5 _).conv rfl) hV4.out.bk hV4.out.im hvc4.out hyr.out (fun x hx=>by
       rw [← hyr.out] at hx;obtain ⟨y,hy,rfl⟩:=List.mem_map.1 hx
       exact hok.out y hy) (fun e=>by rw [hact.out] at e;cases e)
      exact hvC.out _ _ 0 hVs.rep (by unfold vChange;rw [if_neg hn1.out,if_neg (fun e=>by rw [hFl.out,hRe.out] at e;exact hfu e.2),if_pos hact.out]) ((hmw4.out.nowhere).trans (hms.mono fun _ _ h=>.inl h))
end Go.Proofs.YtanioleniadhoaaGreat
/-
 The vault: putting, transactions.
-/
namespace Go.Proofs.YtanioleniadhoaaGreat
open Go.RowKit
open Jn Vn
attribute [local go_sem] Oper.semAt_some
theorem vBegun_ok {w:World} {A:VAt} {m:Mem} {P:PAt} {p:PSt} (h:VStub w A m P p) (id:Int) (a:Option Addr) (n c:Nat) (hn:n≤1099511627776) :
  Calls Tryz.prog 157 #[ptr A.vb,.int .i64 id,.slice a n c] w fun e w'=>e = .returned (errno (if validB id n = true then (okE (alive m p):Nat) else (1:Nat)))∧∃ k,w' = w.drewN k:=by
 have hO:=vok_ok h.cell;have hV:=vValid_ok (w:=w) id a n c hn;have hR:=vReady_ok h;generalize okE (alive m p) = ok at *;refine hid3 ?_ hO hV hR;clear hO hV hR;intro hO hV hR;clear h;generalize hvb:validB id n = vb at *;replace hvb:=Lib.hid hvb
 cases vb
 all_goals
  go_enter Tryz.func157,Tryz.ntmps157
  go_wp2_with (first | (go_at_call 140;refine hO.out.mono ?_;rintro e w1 ⟨rfl,rfl⟩) | (go_at_call 219;refine hV.out.mono ?_;rintro e w1 ⟨rfl,rfl⟩) | (go_at_call 97;refine hR.out.mono ?_;rintro e w1 ⟨rfl,k,rfl⟩))
  go_ret
 ·exact ⟨rfl,0,rfl⟩
 ·exact ⟨rfl,k,rfl⟩
theorem vInside_ok {w:World} {A:VAt} {m:Mem} {P:PAt} {p:PSt} {act:Bool} (h:VStub w A m P p) (ha:w.cell? ⟨A.vb,4,none⟩ = some (.bool act)) :
  Calls Tryz.prog 101 #[ptr A.vb] w fun e w'=>e = .returned (errno (if alive m p = true then (if act = true then (0:Nat) else (14:Nat)) else (7:Nat)))∧∃ k,w' = w.drewN k:=by
 have hR:=vReady_ok h;replace hR:=Lib.hid hR;generalize alive m p = al at *;clear h
 cases al
 ·go_enter Tryz.func101,Tryz.ntmps101
  go_wp2_with (go_at_call 97;refine hR.out.mono ?_;rintro e w1 ⟨rfl,k,rfl⟩)
  go_ret;exact ⟨rfl,k,rfl⟩
 ·cases act
  all_goals
   go_enter Tryz.func101,Tryz.ntmps101
   go_wp2_with (go_at_call 97;refine hR.out.mono ?_;rintro e w1 ⟨rfl,k,rfl⟩)
   go_ret;exact ⟨rfl,k,rfl⟩
theorem VR.setTx {w:World} {A:VAt} {m:Mem} {P:PAt} {p:PSt} {pc:PC} {J:Nat→Nat} {bank end_ ib:Nat} {lv:Value} {xs:List Vx} {s:VSt} (h:VR w A m P p pc J bank end_ ib lv xs s) (act:Bool) :
  VR ((w.setCell ⟨A.vb,4,none⟩ (.bool act)).setCell ⟨A.vb,5,none⟩ (.slice none 0 0)) A m P p pc J bank end_ ib (.slice none 0 0) [] { s with act:=act,l:=[] }∧Mod A.S w ((w.setCell ⟨A.vb,4,none⟩ (.bool act)).setCell ⟨A.vb,5,none⟩ (.slice none 0 0)):=by
 have hms:Mod (fun k=>k = A.vb) w ((w.setCell ⟨A.vb,4,none⟩ (.bool act)).setCell ⟨A.vb,5,none⟩ (.slice none 0 0)):=((Mod.refl (fun k=>k = A.vb) w).setCell (p:=⟨A.vb,4,none⟩) (fun _=>rfl) _).setCell (p:=⟨A.vb,5,none⟩) (fun _=>rfl) _;exact ⟨h.set hms (((h.bv.setCell 4 _).setCell 5 _).conv rfl) h.bk h.im ⟨Sl.nil _ _ _,fun x hx=>(List.not_mem_nil hx).elim⟩ rfl (fun r hr=>(List.not_mem_nil hr).elim) (fun _=>rfl),hms.mono fun _ _ e=>.inl e⟩
theorem vBegin_ok {w:World} {A:VAt} {m:Mem} {s:VSt} (h:VRep w A m s) :
  Calls Tryz.prog 34 #[ptr A.vb] w (VCall w A m s (vBegin s).1 (vBegin s).2 0):=by
 obtain ⟨P,p,pc,J,bank,end_,ib,lv,xs,h⟩:=h.ex;have hR:=vReady_ok h.stub;have hal:alive m p = true:=h.jr.pg.alive_true;rw [hal,show ((okE true:Nat):Int) = 0 from rfl] at hR;have hrun:=h.jr.runs;have hk:∀ k,VR (w.drewN k) A m P p pc J bank end_ ib lv xs s:=fun k=>h.fresh ((Mod.refl Nowhere w).drewN k);have hmd:∀ k,Mod A.S w (w.drewN k):=fun k=>(Mod.refl A.S w).drewN k;unfold vBegin;refine hid4 ?_ hR h hk hmd;clear hR h hk hmd;intro hR h hk hmd
 cases hact:s.act
 ·rw [if_neg (by simp)];replace hact:=Lib.hid hact;go_enter Tryz.func34,Tryz.ntmps34;go_wp2_with fail;refine hR.out.mono ?_;rintro e w1 ⟨rfl,k,rfl⟩;have h1:=hk.out k;have hm1:=hmd.out k;generalize w.drewN k = w1 at *;have c4:w1.cell? ⟨A.vb,4,none⟩ = some (.bool s.act):=h1.bv.cell 4;have c5:w1.cell? ⟨A.vb,5,none⟩ = some lv:=h1.bv.cell 5;rw [hact.out] at c4;have cz:=h1.bv.frozen;have cl:=h1.bv.lt;obtain ⟨h2,hm2⟩:=h1.setTx true;have hfin:VCall w A m s { s with act:=true,l:=[] } 0 0 (.returned (errno 0)) ((w1.setCell ⟨A.vb,4,none⟩ (.bool true)).setCell ⟨A.vb,5,none⟩ (.slice none 0 0)):=VCall.same h2.rep hrun (hm1.trans hm2);refine hid2 ?_ hfin h1;clear hfin h1;intro hfin h1
  clear h2 hm2 hm1;go_wp2;go_ret;exact hfin.out
 ·rw [if_pos rfl];replace hact:=Lib.hid hact;go_enter Tryz.func34,Tryz.ntmps34;go_wp2_with fail;refine hR.out.mono ?_;rintro e w1 ⟨rfl,k,rfl⟩;have h1:=hk.out k;have hm1:=hmd.out k;generalize w.drewN k = w1 at *;have c4:w1.cell? ⟨A.vb,4,none⟩ = some (.bool s.act):=h1.bv.cell 4;rw [hact.out] at c4;have hfin:VCall w A m s s 14 0 (.returned (errno 14)) w1:=VCall.same h1.rep hrun hm1;replace hfin:=Lib.hid hfin;clear h1 hm1;go_wp2;go_ret;exact hfin.out
theorem vAbort_ok {w:World} {A:VAt} {m:Mem} {s:VSt} (h:VRep w A m s) :
  Calls Tryz.prog 37 #[ptr A.vb] w (VCall w A m s (vAbort s).1 (vAbort s).2 0):=by
 obtain ⟨P,p,pc,J,bank,end_,ib,lv,xs,h⟩:=h.ex;have hR:=vInside_ok h.stub (show w.cell? ⟨A.vb,4,none⟩ = some (.bool s.act) from h.bv.cell 4);have hal:alive m p = true:=h.jr.pg.alive_true;rw [hal,if_pos rfl] at hR;have hrun:=h.jr.runs;have hk:∀ k,VR (w.drewN k) A m P p pc J bank end_ ib lv xs s:=fun k=>h.fresh ((Mod.refl Nowhere w).drewN k);have hmd:∀ k,Mod A.S w (w.drewN k):=fun k=>(Mod.refl A.S w).drewN k;unfold vAbort;refine hid3 ?_ h hk hmd;clear h hk hmd;intro h hk hmd
 cases hact:s.act
 ·rw [if_neg (by simp)];rw [hact,if_neg (by simp),show (((14:Nat)):Int) = 14 from rfl] at hR;refine hid2 ?_ hact hR;clear hact hR;intro hact hR;go_enter Tryz.func37,Tryz.ntmps37;go_wp2_with fail;refine hR.out.mono ?_;rintro e w1 ⟨rfl,k,rfl⟩;have h1:=hk.out k;have hm1:=hmd.out k;generalize w.drewN k = w1 at *;have hfin:VCall w A m s s 14 0 (.returned (errno 14)) w1:=VCall.same h1.rep hrun hm1;replace hfin:=Lib.hid hfin;clear h1 hm1;go_wp2;go_ret;exact hfin.out
 ·rw [if_pos rfl];rw [hact,if_pos rfl,show (((0:Nat)):Int) = 0 from rfl] at hR;refine hid2 ?_ hact hR;clear hact hR;intro hact hR;go_enter Tryz.func37,Tryz.ntmps37;go_wp2_with fail;refine hR.out.mono ?_;rintro e w1 ⟨rfl,k,rfl⟩;have h1:=hk.out k;have hm1:=hmd.out k;generalize w.drewN k = w1 at *;have c4:w1.cell? ⟨A.vb,4,none⟩ = some (.bool s.act):=h1.bv.cell 4;have c5:w1.cell? ⟨A.vb,5,none⟩ = some lv:=h1.bv.cell 5;rw [hact.out] at c4;have cz:=h1.bv.frozen;have cl:=h1.bv.lt;obtain ⟨h2,hm2⟩:=h1.setTx false;have hfin:VCall w A m s { s with act:=false,l:=[] } 0 0 (.returned (errno 0)) ((w1.setCell ⟨A.vb,4,none⟩ (.bool false)).setCell ⟨A.vb,5,none⟩ (.slice none 0 0)):=VCall.same h2.rep hrun (hm1.trans hm2);refine hid2 ?_ hfin h1;clear hfin h1;intro hfin h1
  clear h2 hm2 hm1;go_wp2;go_ret;exact hfin.out
end Go.Proofs.YtanioleniadhoaaGreat
/-
 The vault: committing; is there a transaction?
-/
namespace Go.Proofs.YtanioleniadhoaaGreat
open Go.RowKit
open Jn Vn
attribute [local go_sem] Oper.semAt_some
theorem vCommit_ok {w:World} {A:VAt} {m:Mem} {s:VSt} (h:VRep w A m s) (hxn:s.l.length≤1000000) (hrm:Room m (vcost A)) :
  Calls Tryz.prog 38 #[ptr A.vb] w (VCall w A m s (vCommit A.Z s).1 (vCommit A.Z s).2 (vcost A)):=by
 obtain ⟨P,p,pc,J,bank,end_,ib,lv,xs,h⟩:=h.ex;have hR:=vInside_ok h.stub (show w.cell? ⟨A.vb,4,none⟩ = some (.bool s.act) from h.bv.cell 4);have hal:alive m p = true:=h.jr.pg.alive_true;rw [hal,if_pos rfl] at hR;have hrun:=h.jr.runs;have hk:∀ k,VR (w.drewN k) A m P p pc J bank end_ ib lv xs s:=fun k=>h.fresh ((Mod.refl Nowhere w).drewN k);have hmd:∀ k,Mod Nowhere w (w.drewN k):=fun k=>(Mod.refl Nowhere w).drewN k;unfold vCommit;have hxl:xs.length = s.l.length:=by rw [← h.xl,recs_len]
 have h33:33≤A.count:=by have:=h.jr.c33;rw [h.of.count] at this;exact this
 have h16:A.count≤65536:=by have:=h.jr.pg.rep.c16;rw [h.of.count] at this;exact this
 have hok:∀ x ∈ xs,ROk x.2:=fun x hx=>h.ok _ (by rw [← h.xl];exact List.mem_map.2 ⟨x,hx,rfl⟩);have hIF:IOk (sets s.f s.l):=h.bk.iok.sets _ h.ok;have hxr:=h.xl;have hxb:xs.length≤1099511627776:=by omega
 replace hxl:=Lib.hid hxl;have hVV:=Lib.hid h;clear h;refine hid5 ?_ hk hmd hok hIF hxr;clear hk hmd hok hIF hxr;intro hk hmd hok hIF hxr
 cases hact:s.act
 ·rw [if_neg (by simp)];rw [hact,if_neg (by simp),show (((14:Nat)):Int) = 14 from rfl] at hR;refine hid2 ?_ hact hR;clear hact hR;intro hact hR;go_enter Tryz.func38,Tryz.ntmps38;go_wp2_with fail;refine hR.out.mono ?_;rintro e w1 ⟨rfl,k,rfl⟩;have h1:=hk.out k;have hm1:=hmd.out k;generalize w.drewN k = w1 at *;have hfin:VCall w A m s s 14 (vcost A) (.returned (errno 14)) w1:=VCall.same h1.rep hrun hm1.nowhere;replace hfin:=Lib.hid hfin;clear h1 hm1;go_wp2;go_ret;exact hfin.out
 ·rw [if_pos rfl];rw [hact,if_pos rfl,show (((0:Nat)):Int) = 0 from rfl] at hR;refine hid2 ?_ hact hR;clear hact hR;intro hact hR;obtain ⟨F,hF⟩:∃ F,sets s.f s.l = F:=⟨_,rfl⟩;obtain ⟨R,hRe⟩:∃ R,A.Z / 2 = R:=⟨_,rfl⟩;rw [hF,hRe];by_cases hfu:R < wt F
  ·rw [if_pos hfu];go_enter Tryz.func38,Tryz.ntmps38;go_wp2_with fail;refine hR.out.mono ?_;rintro e w1 ⟨rfl,k,rfl⟩;have h1:=hk.out k;have hm1:=hmd.out k;generalize w.drewN k = w1 at *;have hSe:=vSeen_ok h1 (by omega);rw [hF] at hSe hIF;refine hid2 ?_ hSe h1;clear hSe h1;intro hSe h1;go_wp2_with fail;refine hSe.out.mono ?_;rintro e w2 ⟨nb,rfl,hnb,hmp,hm2⟩;have hWt:=vWeight_ok hmp hIF.out;replace hWt:=Lib.hid hWt;clear hmp hSe;go_wp2_with fail;refine hWt.out.mono ?_;rintro e w3 ⟨rfl,hm3⟩;have hm03:=(hm1.trans hm2).trans hm3;have h3:=hVV.out.fresh hm03;have hRm:=vRoom_ok h3.stub h3.of h33 h16;rw [hRe] at hRm
   have c5:w3.cell? ⟨A.vb,5,none⟩ = some lv:=h3.bv.cell 5;have hls:=h3.ls;obtain ⟨la,lc,rfl,-,-,-⟩:=h3.ls.sl.gen;refine hid3 ?_ hRm hm03 hls;clear hRm hm03 hls;intro hRm hm03 hls;clear hm1 hm2 hm3 hWt;have hfi:(R:Int) < (wt F:Nat):=by omega
   have hfin:VCall w A m s s 10 (vcost A) (.returned (errno 10)) w3:=VCall.same h3.rep hrun hm03.out.nowhere;refine hid2 ?_ hfin h3;clear hfin h3;intro hfin h3
   go_wp2_with (go_at_call 104;(with_reducible refine hRm.out.mono ?_);rintro e w5 ⟨rfl,rfl⟩)
   go_ret;exact hfin.out
  ·rw [if_neg hfu];go_enter Tryz.func38,Tryz.ntmps38;go_wp2_with fail;refine hR.out.mono ?_;rintro e w1 ⟨rfl,k,rfl⟩;have h1:=hk.out k;have hm1:=hmd.out k;generalize w.drewN k = w1 at *;have hSe:=vSeen_ok h1 (by omega);rw [hF] at hSe hIF;refine hid2 ?_ hSe h1;clear hSe h1;intro hSe h1;go_wp2_with fail;refine hSe.out.mono ?_;rintro e w2 ⟨nb,rfl,hnb,hmp,hm2⟩;have hWt:=vWeight_ok hmp hIF.out;replace hWt:=Lib.hid hWt;clear hmp hSe;go_wp2_with fail;refine hWt.out.mono ?_;rintro e w3 ⟨rfl,hm3⟩;have hm03:=(hm1.trans hm2).trans hm3;have h3:=hVV.out.fresh hm03;have hRm:=vRoom_ok h3.stub h3.of h33 h16;rw [hRe] at hRm
   have c5:w3.cell? ⟨A.vb,5,none⟩ = some lv:=h3.bv.cell 5;have hls:=h3.ls;obtain ⟨la,lc,rfl,-,-,-⟩:=h3.ls.sl.gen;refine hid3 ?_ hRm hm03 hls;clear hRm hm03 hls;intro hRm hm03 hls;clear hm1 hm2 hm3 hWt;have hfi:¬ (R:Int) < (wt F:Nat):=by omega
   have hSt:=vStore_ok h3 hls.out hok.out (by omega) (by rw [hxr.out,hF,hRe];omega) hrm;rw [hxr.out,hF] at hSt;refine hid2 ?_ hSt h3;clear hSt h3;intro hSt h3
   go_wp2_with (go_at_call 104;(with_reducible refine hRm.out.mono ?_);rintro e w5 ⟨rfl,rfl⟩)
   refine hSt.out.mono ?_;rintro e w9 hpost;rcases hpost with ⟨m',k',rfl,hv9,hk9,hr9,hm9⟩ | ⟨m',g,rfl,hg,hd9,hs9,hm9⟩
   ·obtain ⟨P',p',pc',J',bank',end',ib',lv',xs',h9⟩:=hv9.ex;have k4:w9.cell? ⟨A.vb,4,none⟩ = some (.bool s.act):=h9.bv.cell 4;have k5:w9.cell? ⟨A.vb,5,none⟩ = some lv':=h9.bv.cell 5;have kz:=h9.bv.frozen;have kl:=h9.bv.lt;obtain ⟨hst,hms⟩:=h9.setTx false
    have hfin:VCall w A m s { f:=F,act:=false,l:=[] } 0 (vcost A) (.returned (errno 0)) ((w9.setCell ⟨A.vb,4,none⟩ (.bool false)).setCell ⟨A.vb,5,none⟩ (.slice none 0 0)) :=
     .inl ⟨m',k',rfl,hst.rep,hk9,hr9,(hm03.out.nowhere.trans hm9).trans hms⟩
    replace hfin:=Lib.hid hfin;clear h9 hst hms hv9 hr9 hm9 hSt;go_wp2;go_ret;exact hfin.out
   ·have hfin:VCall w A m s { f:=F,act:=false,l:=[] } 0 (vcost A) (.returned (errno 7)) w9 :=
     .inr ⟨m',g,rfl,hg,hd9,hs9,hm03.out.nowhere.trans hm9⟩
    replace hfin:=Lib.hid hfin;clear hd9 hs9 hm9 hSt hg;go_wp2;go_ret;exact hfin.out
end Go.Proofs.YtanioleniadhoaaGreat
