/-
  The vault: is there a change of a number in the transaction?
-/
import Derived.Test.YtoehlaeaafalmaaGreatCG29
set_option linter.unusedVariables false
set_option linter.unusedSimpArgs false
set_option maxHeartbeats 4000000
set_option maxRecDepth 100000
namespace Go.Proofs.YtoehlaeaafalmaaGreat
open Go.RowKit
open Jn Vn
attribute [local go_sem] Oper.semAt_some
theorem ZgM {w:World} {v:Value} {xs:List Vx} (h:VcSl w v xs) (hl:xs.length≤1099511627776) (g:FuncId) (cap:Array Value) (hent:∀ args w,(callFunc g args).run Tryz.prog w = .ok (.enter g args) w) (pd:Vx→Bool)
  (hcall:∀ x ∈ xs,∀ wr,Mod Nowhere w wr→Calls Tryz.prog g (#[.agg #[.int .i64 x.2.1,x.1,.bool x.2.2.isNone]] ++ cap) wr fun e w'=>e = .returned (.bool (pd x))∧Mod Nowhere wr w') :
  Calls Tryz.prog 113 #[v,.func (.func g) #[] cap] w fun e w'=>∃ r:Int,e = .returned (.int .i64 r)∧decide (0≤r) = xs.any pd∧Mod Nowhere w w':=by
 obtain ⟨a,vc,rfl,h1,h2,_⟩:=h.sl.gen;refine hid2 ?_ h hcall;clear h hcall;intro h hcall;go_enter Tryz.func113,Tryz.ntmps113;go_wp2
 go_loopw [8] (fun i wr=>∃ k:Nat,k≤xs.length∧i = .int .i64 k∧(xs.take k).any pd = false∧Mod Nowhere w wr) (fun i _=>xs.length - (intOf i).toNat)
 case atStart=>exact ⟨0,by omega,rfl,rfl,Mod.refl _ _⟩
 case round =>
  obtain ⟨k,hk,rfl,hno,hm⟩:=hrel;replace hno:=Lib.hid hno;by_cases hlt:k < xs.length
  ·obtain ⟨b,off,cap',xa,xc,e0,hb,_,_,c1,c2,c3,e3⟩:=(h.out.fresh hm).at_ hlt;have hC:=hcall.out xs[k] (List.getElem_mem hlt) wr hm;have htk:(xs.take (k + 1)).any pd = ((xs.take k).any pd || pd xs[k]):=by rw [List.take_succ_eq_append_getElem hlt,List.any_append];simp only [List.any_cons,List.any_nil,Bool.or_false]
   obtain ⟨rfl,rfl⟩:a = some ⟨b,off,none⟩∧vc = cap':=by
    simp at e0;exact ⟨e0.1,e0.2⟩
   have hany:pd xs[k] = true→xs.any pd = true:=fun hp=>List.any_eq_true.2 ⟨xs[k],List.getElem_mem hlt,hp⟩;rw [e3] at c2 hC;generalize (xs[k].2.2.getD []).length = q at *;generalize xs[k].2.2.isNone = gn at *;generalize xs[k].2.1 = o at *;refine hid4 ?_ e3 hC hm htk;clear e3 hC hm htk;intro e3 hC hm htk
   cases hp:pd xs[k]
   ·rw [hp] at hC;replace hp:=Lib.hid hp;go_wp2_with fail;refine hC.out.mono ?_;rintro e w1 ⟨rfl,hm1⟩;go_wp2;go_roundw
    case rel=>exact ⟨k + 1,by omega,by go_num,by rw [htk.out,hno.out,hp.out];rfl,hm.out.trans hm1⟩
    case measure=>simp [intOf];omega
   ·rw [hp] at hC;have hany2:=hany hp;replace hany2:=Lib.hid hany2;clear hany;replace hp:=Lib.hid hp;go_wp2_with fail;refine hC.out.mono ?_;rintro e w1 ⟨rfl,hm1⟩;go_wp2;go_ret;exact ⟨_,rfl,by rw [hany2.out];simp,hm.out.trans hm1⟩
  ·obtain rfl:k = xs.length:=by omega
   rw [List.take_length] at hno;replace hm:=Lib.hid hm;go_wp2;go_ret;exact ⟨_,rfl,by rw [hno.out];rfl,hm.out⟩
theorem ZgN {w:World} {v:Value} {xs:List Vx} (h:VcSl w v xs) (hl:xs.length≤1099511627776) (g:FuncId) (cap:Array Value) (hent:∀ args w,(callFunc g args).run Tryz.prog w = .ok (.enter g args) w) (pd:Vx→Bool)
  (hcall:∀ x ∈ xs,∀ wr,Mod Nowhere w wr→Calls Tryz.prog g (#[.agg #[.int .i64 x.2.1,x.1,.bool x.2.2.isNone]] ++ cap) wr fun e w'=>e = .returned (.bool (pd x))∧Mod Nowhere wr w') :
  Calls Tryz.prog 81 #[v,.func (.func g) #[] cap] w fun e w'=>e = .returned (.bool (xs.any pd))∧Mod Nowhere w w':=by
 have hI:=ZgM h hl g cap hent pd hcall;replace hI:=Lib.hid hI;clear hcall h hent;go_enter Tryz.func81,Tryz.ntmps81;go_wp2_with fail;refine hI.out.mono ?_;rintro e w1 ⟨r,rfl,hr,hm1⟩
 cases ha:xs.any pd
 ·rw [ha] at hr;go_wp2;go_ret;exact ⟨Zd ha.symm,hm1⟩
 ·rw [ha] at hr;go_wp2;go_ret;exact ⟨Zd ha.symm,hm1⟩
theorem ZgO {w:World} {bx:Nat} {id:Int} (hbx:w.cell? ⟨bx,0,none⟩ = some (.int .i64 id)) (x:Vx) {a:Option Addr} {c n:Nat} (hx:x.1 = .slice a n c) :
  Calls Tryz.prog 82 #[.agg #[.int .i64 x.2.1,x.1,.bool x.2.2.isNone],.pointer (some ⟨bx,0,none⟩)] w fun e w'=>e = .returned (.bool (decide (((x.2.1:Nat):Int) = id)))∧Mod Nowhere w w':=by
 have hbl:=ZV hbx;rw [hx];generalize x.2.2.isNone = gn;generalize x.2.1 = o;go_enter Tryz.func82,Tryz.ntmps82;go_wp2;go_ret;exact ⟨Zd (by first | rfl | simp),(Mod.refl _ _).alloc _⟩
end Go.Proofs.YtoehlaeaafalmaaGreat
/-
 The vault: going back, changes at once, and all calls.
-/
namespace Go.Proofs.YtoehlaeaafalmaaGreat
open Go.RowKit
open Jn Vn
attribute [local go_sem] Oper.semAt_some
theorem vform {w:World} {lv:Value} {xs:List Vx} (h:VcSl w lv xs):∀ x ∈ xs,∃ a n c,x.1 = .slice a n c:=fun x hx=>by
 obtain ⟨a,c,e,_⟩:=Sl.len (h.data x hx);exact ⟨a,_,c,e⟩
theorem ZgP (nd:Int) (xs:List Vx):(xs.any fun x=>decide (((x.2.1:Nat):Int) = nd)) = (recs xs).any fun r=>decide (((r.1:Nat):Int) = nd):=by
 unfold recs;rw [List.any_map];rfl
theorem ZgQ {w:World} {A:VAt} {m:Mem} {s:VSt} (h:VRep w A m s) (hxn:s.l.length≤1000000) (nd:Int) {v:Value} {d:List Nat} (hd:Src w v d) (hb:Bytes d) (hdn:d.length≤1099511627776) (hrm:Room m (vcost A)) :
  Calls Tryz.prog 54 #[ptr A.vb,.int .i64 nd,v] w (VCall w A m s (vNow A.Z s nd d).1 (vNow A.Z s nd d).2 (vcost A)):=by
 obtain ⟨P,p,pc,J,bank,end_,ib,lv,xs,h⟩:=h.ex;have hd0:=hd;obtain ⟨va,vc,rfl,-⟩:=hd;obtain ⟨W0,hW0⟩:∃ W0,w.alloc (.cells #[.int .i64 nd] 3) = W0:=⟨_,rfl⟩;have hm0:Mod Nowhere w W0:=by rw [← hW0];exact (Mod.refl _ w).alloc _
 have hbx:Blk W0 w.heap.size [.int .i64 nd] 3:=by rw [← hW0];exact Blk.new' rfl rfl
 have hal:alive m p = true:=h.jr.pg.alive_true;have hBg:=Y4 (h.fresh hm0).stub nd va d.length vc hdn;rw [hal] at hBg;have hrun:=h.jr.runs;have hxl:xs.length = s.l.length:=by rw [← h.xl,ZO]
 have hfm:=vform h.ls;have hokx:∀ x ∈ xs,ROk x.2:=fun x hx=>h.ok _ (by rw [← h.xl];exact List.mem_map_of_mem hx);have h33:33≤A.count:=by have:=h.jr.c33;rw [h.of.count] at this;exact this
 have h16:A.count≤65536:=by have:=h.jr.pg.rep.c16;rw [h.of.count] at this;exact this
 have hiok:=h.bk.iok;have hsl:=h.ok;have hV:=fun W (hm:Mod Nowhere W0 W)=>(h.fresh hm0).fresh hm;have kx:W0.cell? ⟨w.heap.size,0,none⟩ = some (.int .i64 nd):=hbx.cell 0;have kl:=hbx.lt;have hkx:∀ W,Mod Nowhere W0 W→W.cell? ⟨w.heap.size,0,none⟩ = some (.int .i64 nd):=fun W hm=>(hbx.mod hm (fun e=>e)).cell 0;have hdW:=fun W (hm:Mod Nowhere W0 W)=>(hd0.fresh hm0).fresh hm;have hany:=ZgP nd xs;rw [h.xl] at hany;obtain ⟨lb,lc,rfl,-,-,-⟩:=h.ls.sl.gen;obtain ⟨q,hq⟩:∃ q,vNow A.Z s nd d = q:=⟨_,rfl⟩;rw [hq];unfold vNow at hq;have hvb:=fun (hv:validB nd d.length = true)=>Za5 hv hb;obtain ⟨bv,hbv⟩:∃ bv,validB nd d.length = bv:=⟨_,rfl⟩
 rw [hbv] at hBg hq hvb
 have hVC:∀ (W:World) (er:Nat),Mod Nowhere w W→q = (s,er)→VCall w A m s q.1 q.2 (vcost A) (.returned (errno er)) W:=fun W er hm e=>by
  rw [e];exact VCall.same (h.fresh hm).rep hrun hm.nowhere
 refine hid12 ?_ hV hm0 hbx hq hvb hbv hkx hdW hfm hokx hany hVC;clear hV hm0 hbx hq hvb hbv hkx hdW hfm hokx hany hVC;intro hV hm0 hbx hq hvb hbv hkx hdW hfm hokx hany hVC;refine hid4 ?_ hal hd0 hiok hsl;clear hal hd0 hiok hsl;intro hal hd0 hiok hsl;have hVV:=Lib.hid h;clear h
 cases bv
 ·rw [if_neg (by simp),show (((1:Nat)):Int) = 1 from rfl] at hBg;have hqq:q = (s,1):=by rw [← hq.out];rfl
  refine hid3 ?_ hqq hBg hxl;clear hqq hBg hxl;intro hqq hBg hxl;generalize d.length = dl at *;go_enter Tryz.func54,Tryz.ntmps54;go_wp2_with fail;replace hW0:=Lib.hid hW0;refine hBg.out.mono ?_;rintro e w1 ⟨rfl,n,rfl⟩;have hfin:=hVC.out (W0.drewN n) 1 (hm0.out.trans ((Mod.refl _ W0).drewN n)) hqq.out;replace hfin:=Lib.hid hfin;go_wp2;go_ret;exact hfin.out
 ·rw [if_pos rfl,show ((okE true:Nat):Int) = 0 from rfl] at hBg;obtain ⟨hrok,hid⟩:=hvb.out rfl;replace hBg:=Lib.hid hBg;obtain ⟨dl,hdl⟩:∃ dl,d.length = dl:=⟨_,rfl⟩;have hCl:=fun W (hm:Mod Nowhere W0 W)=>YW (hdW.out W hm) hdn
  have hCo:=fun W (hm:Mod Nowhere W0 W)=>ZgN (hV.out W hm).ls (by omega) 82 #[.pointer (some ⟨w.heap.size,0,none⟩)] (enters_of Tryz.func82 (by kernel_rfl) rfl) (fun x=>decide (((x.2.1:Nat):Int) = nd)) (fun x hx wr hmr=>by
   obtain ⟨xa,xn,xc,ex⟩:=hfm.out x hx
   exact ZgO (hkx.out wr (hm.trans hmr)) x ex)
  rw [hany.out] at hCo;rw [hdl] at hCl hBg ⊢;obtain ⟨bs_,hbs⟩:∃ bs_,(s.l.any fun r=>decide (((r.1:Nat):Int) = nd)) = bs_:=⟨_,rfl⟩;rw [hbs] at hCo;refine hid7 ?_ hCl hCo hbs hxl hrok hid hdl;clear hCl hCo hbs hxl hrok hid hdl;intro hCl hCo hbs hxl hrok hid hdl
  cases bs_
  case true =>
   have hqq:q = (s,14):=by rw [← hq.out,if_pos rfl,if_pos hbs.out]
   replace hqq:=Lib.hid hqq;go_enter Tryz.func54,Tryz.ntmps54;go_wp2_with fail;replace hW0:=Lib.hid hW0;refine hBg.out.mono ?_;rintro e w1 ⟨rfl,n,rfl⟩;have hm1:Mod Nowhere W0 (W0.drewN n):=(Mod.refl _ W0).drewN n;have c5:(W0.drewN n).cell? ⟨A.vb,5,none⟩ = some (.slice lb xs.length lc):=(hV.out _ hm1).bv.cell 5;have cl:=(hV.out _ hm1).bv.lt;have hC1:=hCo.out _ hm1;replace hC1:=Lib.hid hC1;generalize W0.drewN n = w1 at *;go_wp2_with fail;refine hC1.out.mono ?_;rintro e w2 ⟨rfl,hm2⟩;have hfin:=hVC.out w2 14 ((hm0.out.trans hm1).trans hm2) hqq.out;replace hfin:=Lib.hid hfin
   go_wp2;go_ret;exact hfin.out
  case false =>
   have hne:∀ x ∈ s.l,x.1 ≠ ((nd.toNat,some d):Rec).1:=fun x hx e=>by
    have:=List.any_eq_false.1 hbs.out x hx;have h2:=hid.out;simp only [decide_eq_true_eq] at this
    apply this
    rw [e];exact h2
   obtain ⟨F1,hF1⟩:∃ F1,set1 s.f (nd.toNat,some d) = F1:=⟨_,rfl⟩;obtain ⟨F2,hF2⟩:∃ F2,sets F1 s.l = F2:=⟨_,rfl⟩;have hsw:set1 (sets s.f s.l) (nd.toNat,some d) = F2:=by rw [Za6 _ _ _ hne,hF1,hF2]
   have hI1:IOk F1:=by rw [← hF1];exact hiok.out.set1 hrok.out
   have hI2:IOk F2:=by rw [← hF2];exact hI1.sets _ hsl.out
   have hqq:q = if A.Z / 2 < wt F1 ∨ A.Z / 2 < wt F2 then (s,10) else ({ s with f:=F1 },0):=by
    rw [← hq.out,if_pos rfl,if_neg (by rw [hbs.out];simp),hF1,hF2]
   obtain ⟨R,hRe⟩:∃ R,A.Z / 2 = R:=⟨_,rfl⟩;rw [hRe] at hqq;refine hid8 ?_ hqq hne hsw hI1 hI2 hF1 hF2 hRe;clear hqq hne hsw hI1 hI2 hF1 hF2 hRe;intro hqq hne hsw hI1 hI2 hF1 hF2 hRe;clear hq;go_enter Tryz.func54,Tryz.ntmps54;go_wp2_with fail;replace hW0:=Lib.hid hW0;refine hBg.out.mono ?_;rintro e w1 ⟨rfl,n,rfl⟩;have hm1:Mod Nowhere W0 (W0.drewN n):=(Mod.refl _ W0).drewN n;have c5:(W0.drewN n).cell? ⟨A.vb,5,none⟩ = some (.slice lb xs.length lc):=(hV.out _ hm1).bv.cell 5;have cl:=(hV.out _ hm1).bv.lt;have hC1:=hCo.out _ hm1;replace hC1:=Lib.hid hC1;generalize W0.drewN n = w1 at *;replace hm1:=Lib.hid hm1
   go_wp2_with fail;refine hC1.out.mono ?_;rintro e w2 ⟨rfl,hm2'⟩;have hm2:=hm1.out.trans hm2';have kx2:=hkx.out w2 hm2;have kl2:w.heap.size < w2.heap.size:=Nat.lt_of_lt_of_le kl hm2.size;have hCl2:=hCl.out w2.drew hm2.drew;refine hid2 ?_ hCl2 hm2;clear hCl2 hm2;intro hCl2 hm2;clear hm2' c5 cl hC1;go_wp2_with fail
   go_region_held3 (fun w'=>w'.cell? ⟨w.heap.size,0,none⟩ = some (.int .i64 nd)) (simp [*,World.cell?_alloc_some,World.cell?_setCell_far,World.cell?_setCell_other])
    (first
     | (go_at_call 58;(with_reducible refine hCl2.out.mono ?_);rintro e w3 ⟨ca,cc,rfl,hown,hm3'⟩;have hm3:=hm2.out.drew.trans hm3';have hds:DSl w3 (.slice ca dl cc) d:=(by have h9:=Sl.of_owns hown;rw [DSl,hdl.out];exact h9);have kx3:=hkx.out w3 hm3;replace hm3:=Lib.hid hm3;replace hds:=Lib.hid hds;clear hown hm3')
     | fail)
   have c33:w3.cell? ⟨A.vb,3,none⟩ = some (.map (some ib)):=(hV.out _ hm3.out).bv.cell 3;have cl3:=(hV.out _ hm3.out).bv.lt;obtain ⟨W4,hW4⟩:∃ W4,w3.alloc (.cells #[.int .i64 nd,.slice ca dl cc,.bool false] 135) = W4:=⟨_,rfl⟩;have hm34:Mod Nowhere w3 W4:=by rw [← hW4];exact (Mod.refl _ w3).alloc _
   have hb4:Blk W4 w3.heap.size [.int .i64 nd,.slice ca dl cc,.bool false] 135:=by rw [← hW4];exact Blk.new' rfl rfl
   have hm4:=hm3.out.trans hm34;have hV4:=hV.out W4 hm4;obtain ⟨ys,hys⟩:∃ ys:List Vx,[(.slice ca dl cc,(nd.toNat,some d))] = ys:=⟨_,rfl⟩;have hyr:recs ys = [(nd.toNat,some d)]:=by rw [← hys];rfl
   have hyl:ys.length = 1:=by rw [← hys];rfl
   have hvc4:VcSl W4 (.slice (some ⟨w3.heap.size,0,none⟩) 1 1) ys:=by
    refine ⟨?_,fun x hx=>?_⟩
    ·rw [hyl,← hys,show vcsCells [(Value.slice ca dl cc,(nd.toNat,some d))] = [.int .i64 nd,.slice ca dl cc,.bool false] by
      show [Value.int .i64 ((nd.toNat:Nat):Int),.slice ca dl cc,.bool false] = _
      rw [show ((nd.toNat:Nat):Int) = nd from hid.out]]
     exact ZZ hb4 rfl (by decide)
    ·rw [← hys] at hx;have e:=List.mem_singleton.1 hx;subst e;exact hds.out.fresh hm34
   have hoky:∀ y ∈ ys,ROk y.2:=fun y hy=>by
    rw [← hys] at hy;rw [List.mem_singleton.1 hy];exact hrok.out
   have hidy:∀ y ∈ ys,y.2.1 < 4097:=fun y hy=>by have:=(hoky y hy).hi;omega
   have hA1:=ZW hV4.im hvc4 hidy (by omega);rw [hyr,show sets s.f [(nd.toNat,some d)] = set1 s.f (nd.toNat,some d) from rfl,hF1.out] at hA1;have hcl4:∀ W,Mod Nowhere W4 W→VR W A m P p pc J bank end_ ib (.slice lb xs.length lc) xs s∧VcSl W (.slice (some ⟨w3.heap.size,0,none⟩) 1 1) ys:=fun W hm=>⟨hV4.fresh hm,hvc4.fresh hm⟩;have hmw4:=hm0.out.trans hm4;have c34:W4.cell? ⟨A.vb,3,none⟩ = some (.map (some ib)):=hV4.bv.cell 3;have cl4:=hV4.bv.lt;refine hid8 ?_ hA1 hcl4 hmw4 hoky hidy hyr hyl hys;clear hA1 hcl4 hmw4 hoky hidy hyr hyl hys;intro hA1 hcl4 hmw4 hoky hidy hyr hyl hys
   clear hV4 hvc4 hm4 hm34 hb4 hds;go_wp2_with fail;replace hW4:=Lib.hid hW4;refine hA1.out.mono ?_;rintro e w5 ⟨b5,rfl,-,hmp5,hm5⟩;have hWt5:=ZX hmp5 hI1.out;refine hid2 ?_ hWt5 hm5;clear hWt5 hm5;intro hWt5 hm5;clear hmp5 hA1;go_wp2_with fail;refine hWt5.out.mono ?_;rintro e w6 ⟨rfl,hm6⟩;have hm46:=hm5.out.trans hm6;have hSe:=XY (hcl4.out w6 hm46).1 (by have:=hxl.out;omega);refine hid2 ?_ hSe hm46;clear hSe hm46;intro hSe hm46;clear hm6 hWt5;go_wp2_with fail;refine hSe.out.mono ?_;rintro e w7 ⟨b7,rfl,-,hmp7,hm7⟩;have hm47:=hm46.out.trans hm7;have hA7:=ZW hmp7 (hcl4.out w7 hm47).2 hidy.out (by have:=hyl.out;omega);rw [hyr.out,show sets (sets s.f s.l) [(nd.toNat,some d)] = set1 (sets s.f s.l) (nd.toNat,some d) from rfl,hsw.out] at hA7
   refine hid2 ?_ hA7 hm47;clear hA7 hm47;intro hA7 hm47;clear hmp7 hm7 hSe;go_wp2_with fail;refine hA7.out.mono ?_;rintro e w8 ⟨b8,rfl,-,hmp8,hm8⟩;have hWt8:=ZX hmp8 hI2.out;have hm48:=hm47.out.trans hm8;refine hid2 ?_ hWt8 hm48;clear hWt8 hm48;intro hWt8 hm48;clear hmp8 hm8 hA7;go_wp2_with fail;refine hWt8.out.mono ?_;rintro e w9 ⟨rfl,hm9⟩;have hm49:=hm48.out.trans hm9;have hV9:=(hcl4.out w9 hm49).1;have hRm:=Yp hV9.stub hV9.of h33 h16;rw [hRe.out] at hRm;replace hRm:=Lib.hid hRm;have hm09:=hmw4.out.trans hm49;by_cases hfu:R < wt F1 ∨ R < wt F2
   ·have hfin:=hVC.out w9 10 hm09 (by rw [hqq.out,if_pos hfu]);replace hfin:=Lib.hid hfin;have hmx:(R:Int) < max ((wt F1:Nat):Int) ((wt F2:Nat):Int):=by omega
    clear hm9 hV9
    go_wp2_with (go_at_call 86;(with_reducible refine hRm.out.mono ?_);rintro e w10 ⟨rfl,rfl⟩)
    go_ret;exact hfin.out
   ·have hmx:¬ (R:Int) < max ((wt F1:Nat):Int) ((wt F2:Nat):Int):=by omega
    have hSt:=Y3 hV9 (hcl4.out w9 hm49).2 hoky.out (by have:=hyl.out;omega) (by rw [hyr.out,show sets s.f [(nd.toNat,some d)] = set1 s.f (nd.toNat,some d) from rfl,hF1.out,hRe.out];omega) hrm;rw [hyr.out,show sets s.f [(nd.toNat,some d)] = set1 s.f (nd.toNat,some d) from rfl,hF1.out] at hSt;replace hSt:=Lib.hid hSt;have hq2:q = ({ s with f:=F1 },0):=by rw [hqq.out,if_neg hfu]
    refine hid2 ?_ hq2 hm09;clear hq2 hm09;intro hq2 hm09;clear hm9 hV9 hfu
    go_wp2_with (go_at_call 86;(with_reducible refine hRm.out.mono ?_);rintro e w10 ⟨rfl,rfl⟩)
    refine hSt.out.mono ?_;rintro e w11 hpost
    have hfin:VCall w A m s q.1 q.2 (vcost A) e w11:=by
     rw [hq2.out];exact (hpost.call).from (hm09.out.nowhere)
    obtain ⟨ne,rfl⟩:=hfin.errno;replace hfin:=Lib.hid hfin;clear hpost;go_wp2;go_ret;exact hfin.out
end Go.Proofs.YtoehlaeaafalmaaGreat
