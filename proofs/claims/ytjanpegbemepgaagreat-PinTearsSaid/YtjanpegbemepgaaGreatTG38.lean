/-
  The PINs: the calls, where the vault is alive.
-/
import Derived.Test.YtjanpegbemepgaaGreatTPh
set_option linter.unusedVariables false
set_option linter.unusedSimpArgs false
set_option maxRecDepth 100000
namespace Go.Proofs.YtjanpegbemepgaaGreat
open Go.RowKit
open Jn Vn
attribute [local go_sem] Oper.semAt_some
def PGe (D:Items→Prop) (w:World) (A:VAt) (m:Mem) (s':VSt) (er n:Nat) (e:Ending) (w':World):Prop :=
 (∃ m' k,e = .returned (errno er)∧VRep w' A m' s'∧k≤n∧Runs m m' k∧Mod A.S w w') ∨
 (∃ m' f,e = .returned (errno 7)∧D f∧PGone w' A m' f∧Stopped m m' n∧Mod A.S w w')
section
variable {D D' : Items → Prop} {w w1 w' : World} {A : VAt} {m m1 : Mem} {s' : VSt} {er left n k a b : Nat} {e : Ending}
theorem PC.ge (h:PC D w A m s' er a e w') (hD:∀ f,D f→D' f) (hn:a≤b) (hm:Mod A.S w1 w):PGe D' w1 A m s' er b e w':=by
 rcases h with ⟨m',k,a1,b1,c,d,f⟩ | ⟨m',g,a1,b1,c,d,f⟩
 ·exact .inl ⟨m',k,a1,b1,Nat.le_trans c hn,d,hm.trans f⟩
 ·exact .inr ⟨m',g,a1,hD _ b1,PGone.of c,d.mono hn,hm.trans f⟩
theorem PGd.of (h:PGd D w A m s' left er a e w') (hD:∀ f,D f→D' f) (hn:a≤b) (hm:Mod A.S w1 w):PGd D' w1 A m s' left er b e w':=by
 rcases h with ⟨m',k,a1,b1,c,d,f⟩ | ⟨m',g,a1,b1,c,d,f⟩
 ·exact .inl ⟨m',k,a1,b1,Nat.le_trans c hn,d,hm.trans f⟩
 ·exact .inr ⟨m',g,a1,hD _ b1,c,d.mono hn,hm.trans f⟩
theorem PC2.gd (hr:Runs m m1 k) (hk:k≤a) (hm:Mod A.S w w1) (h:PC2 D w1 A m1 s' left er b e w') (hD:∀ f,D f→D' f):PGd D' w A m s' left er (a + b) e w':=by
 rcases h with ⟨m',j,a1,b1,c,d,f⟩ | ⟨m',g,a1,b1,c,d,f⟩
 ·exact .inl ⟨m',k + j,a1,b1,by omega,hr.trans d,hm.trans f⟩
 ·exact .inr ⟨m',g,a1,hD _ b1,PGone.of c,hr.stopped d (by omega),hm.trans f⟩
theorem PGd.no (h:PGd D w A m s' left er n e w'):∃ i j:Int,e = .returned (.tuple #[.int .i64 i,errno j]):=by
 rcases h with ⟨_,_,e,_⟩ | ⟨_,_,e,_⟩ <;> exact ⟨_,_,e⟩
theorem PGd.modS (h:PGd D w A m s' left er n e w'):Mod A.S w w':=by
 rcases h with ⟨_,_,_,_,_,_,g⟩ | ⟨_,_,_,_,_,_,g⟩ <;> exact g
theorem PC2.modS (h:PC2 D w A m s' left er n e w'):Mod A.S w w':=by
 rcases h with ⟨_,_,_,_,_,_,g⟩ | ⟨_,_,_,_,_,_,g⟩ <;> exact g
end
theorem PGd.same {D:Items→Prop} {w w':World} {A:VAt} {m:Mem} {s:VSt} {left er n:Nat} (h:VRep w A m s) (hm:Mod Nowhere w w'):PGd D w A m s left er n (.returned (.tuple #[.int .i64 left,errno er])) w' :=
 .inl ⟨m,0,rfl,h.fresh hm,Nat.zero_le _,by obtain ⟨P,p,pc,J,bank,end_,ib,lv,xs,hV⟩:=h.ex;exact hV.jr.runs,hm.nowhere⟩
theorem PGe.same {D:Items→Prop} {w w':World} {A:VAt} {m:Mem} {s:VSt} {er n:Nat} (h:VRep w A m s) (hm:Mod Nowhere w w'):PGe D w A m s er n (.returned (errno er)) w' :=
 .inl ⟨m,0,rfl,h.fresh hm,Nat.zero_le _,by obtain ⟨P,p,pc,J,bank,end_,ib,lv,xs,hV⟩:=h.ex;exact hV.jr.runs,hm.nowhere⟩
def midIn (G:Guess):Items→Prop:=fun f=>f ∈ G.mid
def pVer (Z:Nat) (s:VSt) (id:Int) (g:List Nat):Guess:=match atI (pget (view s)) id with
 | none=>⟨s,0,12,[]⟩
 | some d=>pGuard Z s d false g
def pThen (Z:Nat) (d:PinD) (v:List Nat) (G:Guess):Guess :=
 if G.e = 0 then ⟨(pRepl Z G.s d v).1,pLeft d (pRepl Z G.s d v).2,(pRepl Z G.s d v).2,G.mid ++ [G.s.f,(pRepl Z G.s d v).1.f]⟩ else G
def pChg (Z:Nat) (s:VSt) (id:Int) (g v:List Nat):Guess:=match atI (pget (view s)) id with
 | none=>⟨s,0,12,[]⟩
 | some d=>if fitsB v.length d.lo d.hi = true then pThen Z d v (pGuard Z s d false g) else ⟨s,0,2,[]⟩
def pUnb (Z:Nat) (s:VSt) (id:Int) (g v:List Nat):Guess:=match atI (pget (view s)) id with
 | none=>⟨s,0,12,[]⟩
 | some d=>if d.code.length = 0 then ⟨s,0,19,[]⟩ else if fitsB v.length d.lo d.hi = true then pThen Z d v (pGuard Z s d true g) else ⟨s,0,2,[]⟩
def pSet (Z:Nat) (s:VSt) (id:Int) (v:List Nat):VSt × Nat:=match atI (pget (view s)) id with
 | none=>(s,12)
 | some d=>if fitsB v.length d.lo d.hi = true then pRepl Z s d v else (s,2)
theorem Vn.POk.value {d:PinD} (hd:POk d) {v:List Nat} (hf:fitsB v.length d.lo d.hi = true) (hb:Bytes v):POk { d with value:=v }:=by
 unfold fitsB at hf;simp only [Bool.and_eq_true,decide_eq_true_eq] at hf;exact ⟨hd.i1,hd.i8,hd.l1,hd.l15,hd.lo,hd.hi,by show d.lo≤v.length;omega,by show v.length≤d.hi;omega,hd.c,hb,hd.bc⟩
set_option maxHeartbeats 16000000 in
theorem pinVerify_ok {w:World} {pb:Nat} {A:VAt} {m:Mem} {s:VSt} (hp:PnAt w pb A.vb) (h:VRep w A m s) (hxn:s.l.length≤90000) (hS:PS s) (hZ:1800≤A.Z / 2) (hA:A.count + 2≤A.frames) (id:Int) (h1:-9223372036854775808≤id) (h2:id≤9223372036854775807) {ug:Value} {g:List Nat} (hg:SrcS A w ug g) (bg:Bytes g) (hrm:Room m (vcost A + vcost A)) :
  Calls Tryz.prog 13 #[ptr pb,.int .i64 id,ug] w (PGd (midIn (pVer A.Z s id g)) w A m (pVer A.Z s id g).s (pVer A.Z s id g).left (pVer A.Z s id g).e (vcost A + vcost A)):=by
 have hI:=hS.view;have hlt:=h.lt;have npb:=hp.notS h;have hQ:=fun W (hm:Mod Nowhere w W)=>pinAll_ok (hp.fresh hm) (h.fresh hm) (by omega) hI;have hR1:=pinReady_ok hp h.says;have er:readyE true = 0:=rfl;simp only [er] at hR1;clear er;obtain ⟨ga,gc,rfl,-,-,-⟩:=hg.src;obtain ⟨R0,hR0⟩:∃ R0,pVer A.Z s id g = R0:=⟨_,rfl⟩;rw [hR0];refine hid10 ?_ hR0 hQ hR1 h hp hg hlt npb hS hI;clear hR0 hQ hR1 h hp hg hlt npb hS hI;intro hR0 hQ hR1 h hp hg hlt npb hS hI;go_enter Tryz.func13,Tryz.ntmps13;go_wp2_with fail;refine (hR1.out).mono ?_;rintro e w1 ⟨rfl,hm1⟩;have hQ1:=hQ.out _ hm1;refine hid2 ?_ hQ1 hm1;clear hQ1 hm1;intro hQ1 hm1
 go_wp2_with fail;refine (hQ1.out).mono ?_;rintro e w2 ⟨mb,rfl,hpm,hm2⟩;obtain ⟨u,hlk,hlis⟩:=hpm.look h1 h2;have hm12:=hm1.out.trans hm2
 cases ho:atI (pget (view s)) id with
 | none =>
  rw [ho] at hlk hlis;obtain rfl:u = zpin:=hlis;unfold zpin at hlk;simp only [Option.isSome_none] at hlk;clear hpm;have hmx:Mod Nowhere w (w2.alloc (.cells #[.int .i64 0,.slice none 0 0,.int .i64 0,.int .i64 0,.int .i64 0,.slice none 0 0,.int .i64 0] 35)):=hm12.alloc _;have eR:R0 = ⟨s,0,12,[]⟩:=by rw [← hR0.out];unfold pVer;rw [ho]
  have hfin:∀ W,Mod Nowhere w W→PGd (midIn R0) w A m R0.s R0.left R0.e (vcost A + vcost A) (.returned (.tuple #[.int .i64 0,errno 12])) W:=fun W hm=>by rw [eR];exact PGd.same h.out hm
  refine hid7 ?_ hm12 hm2 ho hfin hmx hI hS;clear hm12 hm2 ho hfin hmx hI hS;intro hm12 hm2 ho hfin hmx hI hS;clear hQ hR1 hQ1 hm1;go_wp2
  go_ret2
  exact hfin.out _ hmx.out
 | some d =>
  obtain ⟨rfl,hd,hpg⟩:=atI_some hI ho;rw [ho] at hlk hlis;obtain ⟨xa,xc,ya,yc,rfl,g1,g2⟩:=hlis.form;unfold pinV at hlk;simp only [Option.isSome_some] at hlk;clear hpm hlis;have hbx:Mod Nowhere w2 (w2.alloc (.cells #[.int .i64 d.id,.slice xa d.value.length xc,.int .i64 d.limit,.int .i64 d.lo,.int .i64 d.hi,.slice ya d.code.length yc,.int .i64 d.cl] 35)):=(Mod.refl _ w2).alloc _;have hmx:=hm12.trans hbx;have bP:=Blk.new w2 [.int .i64 d.id,.slice xa d.value.length xc,.int .i64 d.limit,.int .i64 d.lo,.int .i64 d.hi,.slice ya d.code.length yc,.int .i64 d.cl] 35;have hs2:w.heap.size≤w2.heap.size:=hm12.size;obtain ⟨w3,hw3⟩:∃ w3,w2.alloc (.cells #[.int .i64 d.id,.slice xa d.value.length xc,.int .i64 d.limit,.int .i64 d.lo,.int .i64 d.hi,.slice ya d.code.length yc,.int .i64 d.cl] 35) = w3:=⟨_,rfl⟩
  have g1':=(g1.fresh hbx).srcS (h.fresh hmx);have g2':=(g2.fresh hbx).srcS (h.fresh hmx);rw [hw3] at hbx hmx bP g1' g2';have k0:=bP.cell 0;have k1:=bP.cell 1;have k2:=bP.cell 2;have k3:=bP.cell 3;have k4:=bP.cell 4;have k5:=bP.cell 5;have k6:=bP.cell 6;simp only [List.getElem?_cons_zero,List.getElem?_cons_succ] at k0 k1 k2 k3 k4 k5 k6;have kl:=bP.lt;have nP:¬ A.S w2.heap.size:=fun e=>by have:=hlt _ e;omega
  have hG:=pinGuarded_ok hd g1' g2' (hg.out.mod hmx.nowhere) bg false hA (hp.out.fresh hmx) (h.out.fresh hmx) hxn hI hrm;unfold pinV at hG;have hR:pGuard A.Z s d false g = R0:=by rw [← hR0.out];unfold pVer;rw [ho]
  rw [hR] at hG;refine hid12 ?_ hm12 hm2 ho hI hS hbx bP hmx hG hR hd hpg;clear hm12 hm2 ho hI hS hbx bP hmx hG hR hd hpg;intro hm12 hm2 ho hI hS hbx bP hmx hG hR hd hpg;refine hid4 ?_ g1 g2 g1' g2';clear g1 g2 g1' g2';intro g1 g2 g1' g2';clear hQ hR1 hQ1 hm1;go_wp2_with fail;refine hG.out.mono ?_;rintro e w4 hc;obtain ⟨ri,rj,rfl⟩:=hc.no;have hfin:=hc.of (D':=midIn R0) (fun _ h=>h) (Nat.le_refl _) hmx.out.nowhere;clear hc;replace hfin:=Lib.hid hfin;go_wp2
  go_ret2
  exact hfin.out
set_option maxHeartbeats 16000000 in
theorem pinChange_ok {w:World} {pb:Nat} {A:VAt} {m:Mem} {s:VSt} (hp:PnAt w pb A.vb) (h:VRep w A m s) (hxn:s.l.length≤90000) (hS:PS s) (hZ:1800≤A.Z / 2) (hA:A.count + 2≤A.frames) (id:Int) (h1:-9223372036854775808≤id) (h2:id≤9223372036854775807) {ug uv:Value} {g v:List Nat} (hg:SrcS A w ug g) (hv:SrcS A w uv v) (bg:Bytes g) (bv:Bytes v) (hrm:Room m (vcost A + vcost A + (vcost A + vcost A + vcost A))) :
  Calls Tryz.prog 23 #[ptr pb,.int .i64 id,ug,uv] w (PGd (midIn (pChg A.Z s id g v)) w A m (pChg A.Z s id g v).s (pChg A.Z s id g v).left (pChg A.Z s id g v).e (vcost A + vcost A + (vcost A + vcost A + vcost A))):=by
 have hI:=hS.view;have hlt:=h.lt;have npb:=hp.notS h;have hQ:=fun W (hm:Mod Nowhere w W)=>pinAll_ok (hp.fresh hm) (h.fresh hm) (by omega) hI;have hR1:=pinReady_ok hp h.says;have er:readyE true = 0:=rfl;simp only [er] at hR1;clear er;have hF:=fun W a n c lo hi=>pinFits_ok (w:=W) a n c lo hi;obtain ⟨ga,gc,rfl,-,-,-⟩:=hg.src;obtain ⟨va,vc,rfl,-,-,-⟩:=hv.src;obtain ⟨R0,hR0⟩:∃ R0,pChg A.Z s id g v = R0:=⟨_,rfl⟩;rw [hR0];refine hid12 ?_ hR0 hQ hR1 h hp hg hv hF hlt npb hS hI;clear hR0 hQ hR1 h hp hg hv hF hlt npb hS hI;intro hR0 hQ hR1 h hp hg hv hF hlt npb hS hI
 go_enter Tryz.func23,Tryz.ntmps23;go_wp2_with fail;refine (hR1.out).mono ?_;rintro e w1 ⟨rfl,hm1⟩;have hQ1:=hQ.out _ hm1;refine hid2 ?_ hQ1 hm1;clear hQ1 hm1;intro hQ1 hm1;go_wp2_with fail;refine (hQ1.out).mono ?_;rintro e w2 ⟨mb,rfl,hpm,hm2⟩;obtain ⟨u,hlk,hlis⟩:=hpm.look h1 h2;have hm12:=hm1.out.trans hm2
 cases ho:atI (pget (view s)) id with
 | none =>
  rw [ho] at hlk hlis;obtain rfl:u = zpin:=hlis;unfold zpin at hlk;simp only [Option.isSome_none] at hlk;clear hpm;have hmx:Mod Nowhere w (w2.alloc (.cells #[.int .i64 0,.slice none 0 0,.int .i64 0,.int .i64 0,.int .i64 0,.slice none 0 0,.int .i64 0] 35)):=hm12.alloc _;have eR:R0 = ⟨s,0,12,[]⟩:=by rw [← hR0.out];unfold pChg;rw [ho]
  have hfin:∀ W,Mod Nowhere w W→PGd (midIn R0) w A m R0.s R0.left R0.e (vcost A + vcost A + (vcost A + vcost A + vcost A)) (.returned (.tuple #[.int .i64 0,errno 12])) W:=fun W hm=>by rw [eR];exact PGd.same h.out hm
  refine hid7 ?_ hm12 hm2 ho hfin hmx hI hS;clear hm12 hm2 ho hfin hmx hI hS;intro hm12 hm2 ho hfin hmx hI hS;clear hQ hR1 hQ1 hm1;go_wp2
  go_ret2
  exact hfin.out _ hmx.out
 | some d =>
  obtain ⟨rfl,hd,hpg⟩:=atI_some hI ho;rw [ho] at hlk hlis;obtain ⟨xa,xc,ya,yc,rfl,g1,g2⟩:=hlis.form;unfold pinV at hlk;simp only [Option.isSome_some] at hlk;clear hpm hlis;have hbx:Mod Nowhere w2 (w2.alloc (.cells #[.int .i64 d.id,.slice xa d.value.length xc,.int .i64 d.limit,.int .i64 d.lo,.int .i64 d.hi,.slice ya d.code.length yc,.int .i64 d.cl] 35)):=(Mod.refl _ w2).alloc _;have hmx:=hm12.trans hbx;have bP:=Blk.new w2 [.int .i64 d.id,.slice xa d.value.length xc,.int .i64 d.limit,.int .i64 d.lo,.int .i64 d.hi,.slice ya d.code.length yc,.int .i64 d.cl] 35;have hs2:w.heap.size≤w2.heap.size:=hm12.size;obtain ⟨w3,hw3⟩:∃ w3,w2.alloc (.cells #[.int .i64 d.id,.slice xa d.value.length xc,.int .i64 d.limit,.int .i64 d.lo,.int .i64 d.hi,.slice ya d.code.length yc,.int .i64 d.cl] 35) = w3:=⟨_,rfl⟩
  have g1':=(g1.fresh hbx).srcS (h.fresh hmx);have g2':=(g2.fresh hbx).srcS (h.fresh hmx);rw [hw3] at hbx hmx bP g1' g2';have k0:=bP.cell 0;have k1:=bP.cell 1;have k2:=bP.cell 2;have k3:=bP.cell 3;have k4:=bP.cell 4;have k5:=bP.cell 5;have k6:=bP.cell 6;simp only [List.getElem?_cons_zero,List.getElem?_cons_succ] at k0 k1 k2 k3 k4 k5 k6;have kl:=bP.lt;have nP:¬ A.S w2.heap.size:=fun e=>by have:=hlt _ e;omega
  have hF1:=fun W=>hF.out W va v.length vc d.lo d.hi;by_cases hfb:fitsB v.length d.lo d.hi = true
  ·have hdv:=hd.value hfb bv;have eR:R0 = pThen A.Z d v (pGuard A.Z s d false g):=by rw [← hR0.out];unfold pChg;rw [ho];dsimp only;rw [if_pos hfb]
   rw [hfb] at hF1;have hG:=pinGuarded_ok hd g1' g2' (hg.out.mod hmx.nowhere) bg false hA (hp.out.fresh hmx) (h.out.fresh hmx) hxn hI (hrm.mono (Nat.le_add_right _ _));have hGp:=pGuard_ps hS hd hZ false g;unfold pinV at hG;obtain ⟨R,hR⟩:∃ R,pGuard A.Z s d false g = R:=⟨_,rfl⟩;rw [hR] at hG hGp eR;unfold pThen at eR;refine hid12 ?_ hm12 hm2 ho hI hS hbx bP hmx hG hR hd hpg;clear hm12 hm2 ho hI hS hbx bP hmx hG hR hd hpg;intro hm12 hm2 ho hI hS hbx bP hmx hG hR hd hpg;refine hid8 ?_ g1 g2 g1' g2' hF1 hGp hdv eR;clear g1 g2 g1' g2' hF1 hGp hdv eR;intro g1 g2 g1' g2' hF1 hGp hdv eR;clear hQ hR1 hQ1 hm1 hF
   go_wp2_with fail;refine (hF1.out _).mono ?_;rintro e w3' ⟨rfl,rfl⟩;go_wp2_with fail;refine hG.out.mono ?_;rintro e w4 hc;have hm34:=hc.modS;have b4:=bP.out.mod hm34 nP;have k0:=b4.cell 0;have k1:=b4.cell 1;have k2:=b4.cell 2;have k3:=b4.cell 3;have k4:=b4.cell 4;have k5:=b4.cell 5;have k6:=b4.cell 6;simp only [List.getElem?_cons_zero,List.getElem?_cons_succ] at k0 k1 k2 k3 k4 k5 k6;have kl:=b4.lt;have hmw4:Mod A.S w w4:=hmx.out.nowhere.trans hm34;rcases hc with ⟨m',k,rfl,hv4,hk,hr,hm4⟩ | ⟨m',f,rfl,hf,hg4,hst,hm4⟩
   ·by_cases h0:R.e = 0
    ·rw [h0];have eR2:=eR.out;rw [if_pos h0] at eR2;have hP:=pinReplaced_ok hd hdv.out (u1:=.slice xa d.value.length xc) ⟨_,_,_,rfl⟩ (hv.out.mod hmw4) (g2'.out.mod hm34) ((Blk.mod (hp.out.fresh hmx.out) hm34 npb.out)) hv4 (by rw [hGp.out.2.1];exact hxn) hGp.out.1.view (hrm.runs hr (by omega));unfold pinV at hP;obtain ⟨q,hq⟩:∃ q,pRepl A.Z R.s d v = q:=⟨_,rfl⟩;rw [hq] at hP eR2;refine hid10 ?_ hv4 hr hm4 hk b4 hm34 hmw4 hP hq eR2;clear hv4 hr hm4 hk b4 hm34 hmw4 hP hq eR2;intro hv4 hr hm4 hk b4 hm34 hmw4 hP hq eR2;go_wp2_with fail;refine hP.out.mono ?_;rintro e w5 hc5;obtain ⟨ri,rj,rfl⟩:=hc5.no;have hfin:=hc5.gd (D':=midIn ⟨q.1,pLeft d q.2,q.2,R.mid ++ [R.s.f,q.1.f]⟩) hr.out hk.out hmw4.out (by rintro f (rfl | rfl) <;> simp [midIn])
     have hfin2:PGd (midIn R0) w A m R0.s R0.left R0.e (vcost A + vcost A + (vcost A + vcost A + vcost A)) (.returned (.tuple #[.int .i64 ri,errno rj])) w5:=by rw [eR2.out];exact hfin
     clear hfin;clear hc5;replace hfin2:=Lib.hid hfin2;go_wp2
     go_ret2
     exact hfin2.out
    ·have eR2:=eR.out;rw [if_neg h0] at eR2;have hz:(((R.e:Nat):Int) != 0) = true:=by simp;omega
     have hfin:PGd (midIn R0) w A m R0.s R0.left R0.e (vcost A + vcost A + (vcost A + vcost A + vcost A)) (.returned (.tuple #[.int .i64 R.left,errno R.e])) w4:=by rw [eR2];exact .inl ⟨m',k,rfl,hv4,by omega,hr,hmw4⟩
     refine hid8 ?_ hv4 hr hm4 hk b4 hm34 hmw4 hfin;clear hv4 hr hm4 hk b4 hm34 hmw4 hfin;intro hv4 hr hm4 hk b4 hm34 hmw4 hfin;go_wp2
     go_ret2
     exact hfin.out
   ·have hfm:midIn R0 f:=by
     rw [eR.out];unfold midIn
     split
     ·exact List.mem_append_left _ hf
     ·exact hf
    have hfin:PGd (midIn R0) w A m R0.s R0.left R0.e (vcost A + vcost A + (vcost A + vcost A + vcost A)) (.returned (.tuple #[.int .i64 0,errno 7])) w4:=.inr ⟨m',f,rfl,hfm,hg4,hst.mono (by omega),hmw4⟩;clear hf hfm;refine hid7 ?_ hg4 hst hm4 b4 hm34 hmw4 hfin;clear hg4 hst hm4 b4 hm34 hmw4 hfin;intro hg4 hst hm4 b4 hm34 hmw4 hfin;go_wp2
    go_ret2
    exact hfin.out
  ·have hfb':fitsB v.length d.lo d.hi = false:=by simpa using hfb
   have eR:R0 = ⟨s,0,2,[]⟩:=by rw [← hR0.out];unfold pChg;rw [ho];dsimp only;rw [if_neg hfb]
   have hfin:PGd (midIn R0) w A m R0.s R0.left R0.e (vcost A + vcost A + (vcost A + vcost A + vcost A)) (.returned (.tuple #[.int .i64 0,errno 2])) w3:=by rw [eR];exact PGd.same h.out hmx
   rw [hfb'] at hF1;refine hid12 ?_ hm12 hm2 ho hI hS hbx bP hmx hd hpg g1 g2;clear hm12 hm2 ho hI hS hbx bP hmx hd hpg g1 g2;intro hm12 hm2 ho hI hS hbx bP hmx hd hpg g1 g2;refine hid4 ?_ g1' g2' hF1 hfin;clear g1' g2' hF1 hfin;intro g1' g2' hF1 hfin;clear hQ hR1 hQ1 hm1 hF;go_wp2_with fail;refine (hF1.out _).mono ?_;rintro e w3' ⟨rfl,rfl⟩;go_wp2
   go_ret2
   exact hfin.out
set_option maxHeartbeats 16000000 in
theorem pinUnblock_ok {w:World} {pb:Nat} {A:VAt} {m:Mem} {s:VSt} (hp:PnAt w pb A.vb) (h:VRep w A m s) (hxn:s.l.length≤90000) (hS:PS s) (hZ:1800≤A.Z / 2) (hA:A.count + 2≤A.frames) (id:Int) (h1:-9223372036854775808≤id) (h2:id≤9223372036854775807) {ug uv:Value} {g v:List Nat} (hg:SrcS A w ug g) (hv:SrcS A w uv v) (bg:Bytes g) (bv:Bytes v) (hrm:Room m (vcost A + vcost A + (vcost A + vcost A + vcost A))) :
  Calls Tryz.prog 24 #[ptr pb,.int .i64 id,ug,uv] w (PGd (midIn (pUnb A.Z s id g v)) w A m (pUnb A.Z s id g v).s (pUnb A.Z s id g v).left (pUnb A.Z s id g v).e (vcost A + vcost A + (vcost A + vcost A + vcost A))):=by
 have hI:=hS.view;have hlt:=h.lt;have npb:=hp.notS h;have hQ:=fun W (hm:Mod Nowhere w W)=>pinAll_ok (hp.fresh hm) (h.fresh hm) (by omega) hI;have hR1:=pinReady_ok hp h.says;have er:readyE true = 0:=rfl;simp only [er] at hR1;clear er;have hF:=fun W a n c lo hi=>pinFits_ok (w:=W) a n c lo hi;obtain ⟨ga,gc,rfl,-,-,-⟩:=hg.src;obtain ⟨va,vc,rfl,-,-,-⟩:=hv.src;obtain ⟨R0,hR0⟩:∃ R0,pUnb A.Z s id g v = R0:=⟨_,rfl⟩;rw [hR0];refine hid12 ?_ hR0 hQ hR1 h hp hg hv hF hlt npb hS hI;clear hR0 hQ hR1 h hp hg hv hF hlt npb hS hI;intro hR0 hQ hR1 h hp hg hv hF hlt npb hS hI
 go_enter Tryz.func24,Tryz.ntmps24;go_wp2_with fail;refine (hR1.out).mono ?_;rintro e w1 ⟨rfl,hm1⟩;have hQ1:=hQ.out _ hm1;refine hid2 ?_ hQ1 hm1;clear hQ1 hm1;intro hQ1 hm1;go_wp2_with fail;refine (hQ1.out).mono ?_;rintro e w2 ⟨mb,rfl,hpm,hm2⟩;obtain ⟨u,hlk,hlis⟩:=hpm.look h1 h2;have hm12:=hm1.out.trans hm2
 cases ho:atI (pget (view s)) id with
 | none =>
  rw [ho] at hlk hlis;obtain rfl:u = zpin:=hlis;unfold zpin at hlk;simp only [Option.isSome_none] at hlk;clear hpm;have hmx:Mod Nowhere w (w2.alloc (.cells #[.int .i64 0,.slice none 0 0,.int .i64 0,.int .i64 0,.int .i64 0,.slice none 0 0,.int .i64 0] 35)):=hm12.alloc _;have eR:R0 = ⟨s,0,12,[]⟩:=by rw [← hR0.out];unfold pUnb;rw [ho]
  have hfin:∀ W,Mod Nowhere w W→PGd (midIn R0) w A m R0.s R0.left R0.e (vcost A + vcost A + (vcost A + vcost A + vcost A)) (.returned (.tuple #[.int .i64 0,errno 12])) W:=fun W hm=>by rw [eR];exact PGd.same h.out hm
  refine hid7 ?_ hm12 hm2 ho hfin hmx hI hS;clear hm12 hm2 ho hfin hmx hI hS;intro hm12 hm2 ho hfin hmx hI hS;clear hQ hR1 hQ1 hm1;go_wp2
  go_ret2
  exact hfin.out _ hmx.out
 | some d =>
  obtain ⟨rfl,hd,hpg⟩:=atI_some hI ho;rw [ho] at hlk hlis;obtain ⟨xa,xc,ya,yc,rfl,g1,g2⟩:=hlis.form;unfold pinV at hlk;simp only [Option.isSome_some] at hlk;clear hpm hlis;have hbx:Mod Nowhere w2 (w2.alloc (.cells #[.int .i64 d.id,.slice xa d.value.length xc,.int .i64 d.limit,.int .i64 d.lo,.int .i64 d.hi,.slice ya d.code.length yc,.int .i64 d.cl] 35)):=(Mod.refl _ w2).alloc _;have hmx:=hm12.trans hbx;have bP:=Blk.new w2 [.int .i64 d.id,.slice xa d.value.length xc,.int .i64 d.limit,.int .i64 d.lo,.int .i64 d.hi,.slice ya d.code.length yc,.int .i64 d.cl] 35;have hs2:w.heap.size≤w2.heap.size:=hm12.size;obtain ⟨w3,hw3⟩:∃ w3,w2.alloc (.cells #[.int .i64 d.id,.slice xa d.value.length xc,.int .i64 d.limit,.int .i64 d.lo,.int .i64 d.hi,.slice ya d.code.length yc,.int .i64 d.cl] 35) = w3:=⟨_,rfl⟩
  have g1':=(g1.fresh hbx).srcS (h.fresh hmx);have g2':=(g2.fresh hbx).srcS (h.fresh hmx);rw [hw3] at hbx hmx bP g1' g2';have k0:=bP.cell 0;have k1:=bP.cell 1;have k2:=bP.cell 2;have k3:=bP.cell 3;have k4:=bP.cell 4;have k5:=bP.cell 5;have k6:=bP.cell 6;simp only [List.getElem?_cons_zero,List.getElem?_cons_succ] at k0 k1 k2 k3 k4 k5 k6;have kl:=bP.lt;have nP:¬ A.S w2.heap.size:=fun e=>by have:=hlt _ e;omega
  by_cases hc0:d.code.length = 0
  ·have eR:R0 = ⟨s,0,19,[]⟩:=by rw [← hR0.out];unfold pUnb;rw [ho];dsimp only;rw [if_pos hc0]
   have hfin:PGd (midIn R0) w A m R0.s R0.left R0.e (vcost A + vcost A + (vcost A + vcost A + vcost A)) (.returned (.tuple #[.int .i64 0,errno 19])) w3:=by rw [eR];exact PGd.same h.out hmx
   have t0:((d.code.length:Int) == 0) = true:=by rw [hc0];rfl
   refine hid12 ?_ hm12 hm2 ho hI hS hbx bP hmx hd hpg g1 g2;clear hm12 hm2 ho hI hS hbx bP hmx hd hpg g1 g2;intro hm12 hm2 ho hI hS hbx bP hmx hd hpg g1 g2;refine hid4 ?_ g1' g2' hfin hc0;clear g1' g2' hfin hc0;intro g1' g2' hfin hc0;clear hQ hR1 hQ1 hm1;go_wp2
   go_ret2
   exact hfin.out
  have t0:((d.code.length:Int) == 0) = false:=beq_false_of_ne (by omega);have hF1:=fun W=>hF.out W va v.length vc d.lo d.hi;by_cases hfb:fitsB v.length d.lo d.hi = true
  ·have hdv:=hd.value hfb bv;have eR:R0 = pThen A.Z d v (pGuard A.Z s d true g):=by rw [← hR0.out];unfold pUnb;rw [ho];dsimp only;rw [if_neg hc0];rw [if_pos hfb]
   rw [hfb] at hF1;have hG:=pinGuarded_ok hd g1' g2' (hg.out.mod hmx.nowhere) bg true hA (hp.out.fresh hmx) (h.out.fresh hmx) hxn hI (hrm.mono (Nat.le_add_right _ _));have hGp:=pGuard_ps hS hd hZ true g;unfold pinV at hG;obtain ⟨R,hR⟩:∃ R,pGuard A.Z s d true g = R:=⟨_,rfl⟩;rw [hR] at hG hGp eR;unfold pThen at eR;refine hid12 ?_ hm12 hm2 ho hI hS hbx bP hmx hG hR hd hpg;clear hm12 hm2 ho hI hS hbx bP hmx hG hR hd hpg;intro hm12 hm2 ho hI hS hbx bP hmx hG hR hd hpg;refine hid8 ?_ g1 g2 g1' g2' hF1 hGp hdv eR;clear g1 g2 g1' g2' hF1 hGp hdv eR;intro g1 g2 g1' g2' hF1 hGp hdv eR;clear hQ hR1 hQ1 hm1 hF
   go_wp2_with fail;refine (hF1.out _).mono ?_;rintro e w3' ⟨rfl,rfl⟩;go_wp2_with fail;refine hG.out.mono ?_;rintro e w4 hc;have hm34:=hc.modS;have b4:=bP.out.mod hm34 nP;have k0:=b4.cell 0;have k1:=b4.cell 1;have k2:=b4.cell 2;have k3:=b4.cell 3;have k4:=b4.cell 4;have k5:=b4.cell 5;have k6:=b4.cell 6;simp only [List.getElem?_cons_zero,List.getElem?_cons_succ] at k0 k1 k2 k3 k4 k5 k6;have kl:=b4.lt;have hmw4:Mod A.S w w4:=hmx.out.nowhere.trans hm34;rcases hc with ⟨m',k,rfl,hv4,hk,hr,hm4⟩ | ⟨m',f,rfl,hf,hg4,hst,hm4⟩
   ·by_cases h0:R.e = 0
    ·rw [h0];have eR2:=eR.out;rw [if_pos h0] at eR2;have hP:=pinReplaced_ok hd hdv.out (u1:=.slice xa d.value.length xc) ⟨_,_,_,rfl⟩ (hv.out.mod hmw4) (g2'.out.mod hm34) ((Blk.mod (hp.out.fresh hmx.out) hm34 npb.out)) hv4 (by rw [hGp.out.2.1];exact hxn) hGp.out.1.view (hrm.runs hr (by omega));unfold pinV at hP;obtain ⟨q,hq⟩:∃ q,pRepl A.Z R.s d v = q:=⟨_,rfl⟩;rw [hq] at hP eR2;refine hid10 ?_ hv4 hr hm4 hk b4 hm34 hmw4 hP hq eR2;clear hv4 hr hm4 hk b4 hm34 hmw4 hP hq eR2;intro hv4 hr hm4 hk b4 hm34 hmw4 hP hq eR2;go_wp2_with fail;refine hP.out.mono ?_;rintro e w5 hc5;obtain ⟨ri,rj,rfl⟩:=hc5.no;have hfin:=hc5.gd (D':=midIn ⟨q.1,pLeft d q.2,q.2,R.mid ++ [R.s.f,q.1.f]⟩) hr.out hk.out hmw4.out (by rintro f (rfl | rfl) <;> simp [midIn])
     have hfin2:PGd (midIn R0) w A m R0.s R0.left R0.e (vcost A + vcost A + (vcost A + vcost A + vcost A)) (.returned (.tuple #[.int .i64 ri,errno rj])) w5:=by rw [eR2.out];exact hfin
     clear hfin;clear hc5;replace hfin2:=Lib.hid hfin2;go_wp2
     go_ret2
     exact hfin2.out
    ·have eR2:=eR.out;rw [if_neg h0] at eR2;have hz:(((R.e:Nat):Int) != 0) = true:=by simp;omega
     have hfin:PGd (midIn R0) w A m R0.s R0.left R0.e (vcost A + vcost A + (vcost A + vcost A + vcost A)) (.returned (.tuple #[.int .i64 R.left,errno R.e])) w4:=by rw [eR2];exact .inl ⟨m',k,rfl,hv4,by omega,hr,hmw4⟩
     refine hid8 ?_ hv4 hr hm4 hk b4 hm34 hmw4 hfin;clear hv4 hr hm4 hk b4 hm34 hmw4 hfin;intro hv4 hr hm4 hk b4 hm34 hmw4 hfin;go_wp2
     go_ret2
     exact hfin.out
   ·have hfm:midIn R0 f:=by
     rw [eR.out];unfold midIn
     split
     ·exact List.mem_append_left _ hf
     ·exact hf
    have hfin:PGd (midIn R0) w A m R0.s R0.left R0.e (vcost A + vcost A + (vcost A + vcost A + vcost A)) (.returned (.tuple #[.int .i64 0,errno 7])) w4:=.inr ⟨m',f,rfl,hfm,hg4,hst.mono (by omega),hmw4⟩;clear hf hfm;refine hid7 ?_ hg4 hst hm4 b4 hm34 hmw4 hfin;clear hg4 hst hm4 b4 hm34 hmw4 hfin;intro hg4 hst hm4 b4 hm34 hmw4 hfin;go_wp2
    go_ret2
    exact hfin.out
  ·have hfb':fitsB v.length d.lo d.hi = false:=by simpa using hfb
   have eR:R0 = ⟨s,0,2,[]⟩:=by rw [← hR0.out];unfold pUnb;rw [ho];dsimp only;rw [if_neg hc0];rw [if_neg hfb]
   have hfin:PGd (midIn R0) w A m R0.s R0.left R0.e (vcost A + vcost A + (vcost A + vcost A + vcost A)) (.returned (.tuple #[.int .i64 0,errno 2])) w3:=by rw [eR];exact PGd.same h.out hmx
   rw [hfb'] at hF1;refine hid12 ?_ hm12 hm2 ho hI hS hbx bP hmx hd hpg g1 g2;clear hm12 hm2 ho hI hS hbx bP hmx hd hpg g1 g2;intro hm12 hm2 ho hI hS hbx bP hmx hd hpg g1 g2;refine hid4 ?_ g1' g2' hF1 hfin;clear g1' g2' hF1 hfin;intro g1' g2' hF1 hfin;clear hQ hR1 hQ1 hm1 hF;go_wp2_with fail;refine (hF1.out _).mono ?_;rintro e w3' ⟨rfl,rfl⟩;go_wp2
   go_ret2
   exact hfin.out
set_option maxHeartbeats 16000000 in
theorem pinSet_ok {w:World} {pb:Nat} {A:VAt} {m:Mem} {s:VSt} (hp:PnAt w pb A.vb) (h:VRep w A m s) (hxn:s.l.length≤90000) (hS:PS s) (hZ:1800≤A.Z / 2) (hA:A.count + 2≤A.frames) (id:Int) (h1:-9223372036854775808≤id) (h2:id≤9223372036854775807) {uv:Value} {v:List Nat} (hv:SrcS A w uv v) (bv:Bytes v) (hrm:Room m (vcost A + vcost A + vcost A)) :
  Calls Tryz.prog 27 #[ptr pb,.int .i64 id,uv] w (PGe (fun f=>f = s.f ∨ f = (pSet A.Z s id v).1.f) w A m (pSet A.Z s id v).1 (pSet A.Z s id v).2 (vcost A + vcost A + vcost A)):=by
 have hI:=hS.view;have hlt:=h.lt;have npb:=hp.notS h;have hQ:=fun W (hm:Mod Nowhere w W)=>pinAll_ok (hp.fresh hm) (h.fresh hm) (by omega) hI;have hR1:=pinReady_ok hp h.says;have er:readyE true = 0:=rfl;simp only [er] at hR1;clear er;have hF:=fun W a n c lo hi=>pinFits_ok (w:=W) a n c lo hi;obtain ⟨va,vc,rfl,-,-,-⟩:=hv.src;obtain ⟨R0,hR0⟩:∃ R0,pSet A.Z s id v = R0:=⟨_,rfl⟩;rw [hR0];refine hid11 ?_ hR0 hQ hR1 h hp hv hF hlt npb hS hI;clear hR0 hQ hR1 h hp hv hF hlt npb hS hI;intro hR0 hQ hR1 h hp hv hF hlt npb hS hI;go_enter Tryz.func27,Tryz.ntmps27;go_wp2_with fail;refine (hR1.out).mono ?_
 rintro e w1 ⟨rfl,hm1⟩;have hQ1:=hQ.out _ hm1;refine hid2 ?_ hQ1 hm1;clear hQ1 hm1;intro hQ1 hm1;go_wp2_with fail;refine (hQ1.out).mono ?_;rintro e w2 ⟨mb,rfl,hpm,hm2⟩;obtain ⟨u,hlk,hlis⟩:=hpm.look h1 h2;have hm12:=hm1.out.trans hm2
 cases ho:atI (pget (view s)) id with
 | none =>
  rw [ho] at hlk hlis;obtain rfl:u = zpin:=hlis;unfold zpin at hlk;simp only [Option.isSome_none] at hlk;clear hpm;have hmx:Mod Nowhere w (w2.alloc (.cells #[.int .i64 0,.slice none 0 0,.int .i64 0,.int .i64 0,.int .i64 0,.slice none 0 0,.int .i64 0] 35)):=hm12.alloc _;have eR:R0 = (s,12):=by rw [← hR0.out];unfold pSet;rw [ho]
  have hfin:∀ W,Mod Nowhere w W→PGe (fun f=>f = s.f ∨ f = R0.1.f) w A m R0.1 R0.2 (vcost A + vcost A + vcost A) (.returned (errno 12)) W:=fun W hm=>by rw [eR];exact PGe.same h.out hm
  refine hid7 ?_ hm12 hm2 ho hfin hmx hI hS;clear hm12 hm2 ho hfin hmx hI hS;intro hm12 hm2 ho hfin hmx hI hS;clear hQ hR1 hQ1 hm1;go_wp2;go_ret;exact hfin.out _ hmx.out
 | some d =>
  obtain ⟨rfl,hd,hpg⟩:=atI_some hI ho;rw [ho] at hlk hlis;obtain ⟨xa,xc,ya,yc,rfl,g1,g2⟩:=hlis.form;unfold pinV at hlk;simp only [Option.isSome_some] at hlk;clear hpm hlis;have hbx:Mod Nowhere w2 (w2.alloc (.cells #[.int .i64 d.id,.slice xa d.value.length xc,.int .i64 d.limit,.int .i64 d.lo,.int .i64 d.hi,.slice ya d.code.length yc,.int .i64 d.cl] 35)):=(Mod.refl _ w2).alloc _;have hmx:=hm12.trans hbx;have bP:=Blk.new w2 [.int .i64 d.id,.slice xa d.value.length xc,.int .i64 d.limit,.int .i64 d.lo,.int .i64 d.hi,.slice ya d.code.length yc,.int .i64 d.cl] 35;have hs2:w.heap.size≤w2.heap.size:=hm12.size;obtain ⟨w3,hw3⟩:∃ w3,w2.alloc (.cells #[.int .i64 d.id,.slice xa d.value.length xc,.int .i64 d.limit,.int .i64 d.lo,.int .i64 d.hi,.slice ya d.code.length yc,.int .i64 d.cl] 35) = w3:=⟨_,rfl⟩
  have g1':=(g1.fresh hbx).srcS (h.fresh hmx);have g2':=(g2.fresh hbx).srcS (h.fresh hmx);rw [hw3] at hbx hmx bP g1' g2';have k0:=bP.cell 0;have k1:=bP.cell 1;have k2:=bP.cell 2;have k3:=bP.cell 3;have k4:=bP.cell 4;have k5:=bP.cell 5;have k6:=bP.cell 6;simp only [List.getElem?_cons_zero,List.getElem?_cons_succ] at k0 k1 k2 k3 k4 k5 k6;have kl:=bP.lt;have nP:¬ A.S w2.heap.size:=fun e=>by have:=hlt _ e;omega
  have hF1:=fun W=>hF.out W va v.length vc d.lo d.hi;by_cases hfb:fitsB v.length d.lo d.hi = true
  ·have hdv:=hd.value hfb bv;have eR:pRepl A.Z s d v = R0:=by rw [← hR0.out];unfold pSet;rw [ho];dsimp only;rw [if_pos hfb]
   rw [hfb] at hF1;have hP:=pinReplaced_ok hd hdv (u1:=.slice xa d.value.length xc) ⟨_,_,_,rfl⟩ (hv.out.mod hmx.nowhere) g2' (hp.out.fresh hmx) (h.out.fresh hmx) hxn hI hrm;unfold pinV at hP;rw [eR] at hP;refine hid12 ?_ hm12 hm2 ho hI hS hbx bP hmx hP eR hd hpg;clear hm12 hm2 ho hI hS hbx bP hmx hP eR hd hpg;intro hm12 hm2 ho hI hS hbx bP hmx hP eR hd hpg;refine hid6 ?_ g1 g2 g1' g2' hF1 hdv;clear g1 g2 g1' g2' hF1 hdv;intro g1 g2 g1' g2' hF1 hdv;clear hQ hR1 hQ1 hm1 hF;go_wp2_with fail;refine (hF1.out _).mono ?_;rintro e w3' ⟨rfl,rfl⟩;go_wp2_with fail;refine hP.out.mono ?_;rintro e w5 hc5;rcases hc5 with ⟨m',j,rfl,a2,a3,a4,a5⟩ | ⟨m',g,rfl,a2,a3,a4,a5⟩
   ·have hfin:PGe (fun f=>f = s.f ∨ f = R0.1.f) w A m R0.1 R0.2 (vcost A + vcost A + vcost A) (.returned (errno R0.2)) w5:=.inl ⟨m',j,rfl,a2,a3,a4,hmx.out.nowhere.trans a5⟩;refine hid5 ?_ hfin a2 a3 a4 a5;clear hfin a2 a3 a4 a5;intro hfin a2 a3 a4 a5;go_wp2;go_ret;exact hfin.out
   ·have hfin:PGe (fun f=>f = s.f ∨ f = R0.1.f) w A m R0.1 R0.2 (vcost A + vcost A + vcost A) (.returned (errno 7)) w5:=.inr ⟨m',g,rfl,a2,PGone.of a3,a4,hmx.out.nowhere.trans a5⟩;clear a2;refine hid4 ?_ hfin a3 a4 a5;clear hfin a3 a4 a5;intro hfin a3 a4 a5;go_wp2;go_ret;exact hfin.out
  ·have hfb':fitsB v.length d.lo d.hi = false:=by simpa using hfb
   have eR:R0 = (s,2):=by rw [← hR0.out];unfold pSet;rw [ho];dsimp only;rw [if_neg hfb]
   have hfin:PGe (fun f=>f = s.f ∨ f = R0.1.f) w A m R0.1 R0.2 (vcost A + vcost A + vcost A) (.returned (errno 2)) w3:=by rw [eR];exact PGe.same h.out hmx
   rw [hfb'] at hF1;refine hid12 ?_ hm12 hm2 ho hI hS hbx bP hmx hd hpg g1 g2;clear hm12 hm2 ho hI hS hbx bP hmx hd hpg g1 g2;intro hm12 hm2 ho hI hS hbx bP hmx hd hpg g1 g2;refine hid4 ?_ g1' g2' hF1 hfin;clear g1' g2' hF1 hfin;intro g1' g2' hF1 hfin;clear hQ hR1 hQ1 hm1 hF;go_wp2_with fail;refine (hF1.out _).mono ?_;rintro e w3' ⟨rfl,rfl⟩;go_wp2;go_ret;exact hfin.out
structure NilP (w:World) (v:Value):Prop where
 form:∃ q,v = .pointer q
 ready:∀ W,Mod Nowhere w W→Calls Tryz.prog 32 #[v] W fun e w'=>e = .returned (errno 31)∧Mod Nowhere W w'
theorem NilP.fresh {w w':World} {v:Value} (h:NilP w v) (hm:Mod Nowhere w w'):NilP w' v:=⟨h.form,fun W h1=>h.ready W (hm.trans h1)⟩
set_option maxHeartbeats 1000000 in
theorem NilP.nil (w:World):NilP w (.pointer none):=by
 refine ⟨⟨_,rfl⟩,fun W hm=>?_⟩;go_enter Tryz.func32,Tryz.ntmps32;go_wp2;go_ret;exact ⟨rfl,Mod.refl _ _⟩
set_option maxHeartbeats 1000000 in
theorem NilP.empty {w:World} {pb:Nat} (hp:Blk w pb [.pointer none] 69):NilP w (ptr pb):=by
 refine ⟨⟨_,rfl⟩,fun W hm=>?_⟩;have hb:=hp.mod hm (fun e=>e);have c0:=hb.cell 0;have cl:=hb.lt;simp only [List.getElem?_cons_zero] at c0;clear hb;refine hid2 ?_ hm hp;clear hm hp;intro hm hp;go_enter Tryz.func32,Tryz.ntmps32;go_wp2;go_ret;exact ⟨rfl,Mod.refl _ _⟩
section
variable {w : World} {v : Value}
end
theorem pRepl_is {Z:Nat} {s:VSt} (h:PS s) {d:PinD} (hd:POk d) {v:List Nat} (hdv:POk { d with value:=v }) (hZ:1800≤Z / 2):pRepl Z s d v = (putS s { d with value:=v } d.limit (ptry (view s) d.id).2,0) :=
 pPut_is h hdv hd.l15 (h.view.tries hd.i1 hd.i8).2 hZ
theorem VRep.vmem {w:World} {A:VAt} {m:Mem} {s:VSt} (h:VRep w A m s):VMem m A.count A.frames s.f:=by
 obtain ⟨P,p,pc,J,bank,end_,ib,lv,xs,h⟩:=h.ex;have hh:=h.jr.pg.inv.h;rw [h.of.count,h.of.frames] at hh;exact ⟨pc,J,bank,end_,hh,.inl h.st,h.bk⟩
structure Card (w:World) (A:VAt) (m:Mem) (s:VSt) (n c:Nat):Prop where
 rep:VRep w A m s
 psp:PSP s
 clean:m.Clean
 size:m.size = 4096
 cnt:A.count = 170
 frm:A.frames = 204
 wr:m.writes + n≤m.endu
 cu:m.cuts≤c
structure MCard (w:World) (M:MemAt) (m:Mem) (f:Items) (n c:Nat):Prop where
 rep:MemRep w M m
 clean:m.Clean
 good:m.Good
 size:m.size = 4096
 vm:VMem m 170 204 f
 wr:m.writes + n≤m.endu
 cu:m.cuts≤c
section
variable {w w' : World} {A : VAt} {m m' : Mem} {s s' : VSt} {n k c c' : Nat} {f : Items} {M : MemAt}
theorem Card.fresh (h:Card w A m s n c) (hm:Mod Nowhere w w'):Card w' A m s n c:={ h with rep:=h.rep.fresh hm }
theorem Card.less (h:Card w A m s n c) (hk:k≤n) (hc:c≤c'):Card w A m s k c':={ h with wr:=Nat.le_trans (Nat.add_le_add_left hk _) h.wr,cu:=Nat.le_trans h.cu hc }
theorem Card.room (h:Card w A m s n c) (hc:c≤1000) (hk:k≤n):Room m k:=⟨Nat.le_trans (Nat.add_le_add_left hk _) h.wr,Nat.lt_of_le_of_lt h.cu (by omega)⟩
theorem Card.z (h:Card w A m s n c):1800≤A.Z / 2:=by unfold VAt.Z;rw [h.cnt];decide
theorem Card.two (h:Card w A m s n c):A.count + 2≤A.frames:=by rw [h.cnt,h.frm];decide
theorem vcost_170 (h:A.count = 170):vcost A = 255696:=by
 unfold vcost VAt.Z;rw [h]
 rfl
theorem Card.cost (h:Card w A m s n c):vcost A = 255696:=vcost_170 h.cnt
theorem Card.off (h:Card w A m s n c):m.off = false:=h.rep.mem.2.1
theorem Card.mcard (h:Card w A m s n c):MCard w A.M m s.f n c :=
 ⟨h.rep.mem.1,h.clean,h.rep.mem.2.2.1,h.size,by have:=h.rep.vmem;rw [h.cnt,h.frm] at this;exact this,h.wr,h.cu⟩
theorem Card.after {j:Nat} (h:Card w A m s (n + j) c) (hr:Runs m m' k) (hk:k≤j) (hv:VRep w' A m' s') (hp:PSP s'):Card w' A m' s' n c :=
 ⟨hv,hp,hr.clean h.clean,hr.size.trans h.size,h.cnt,h.frm,by have:=h.wr;rw [hr.writes,hr.endu];omega,by rw [hr.cuts];exact h.cu⟩
theorem Card.gone {j:Nat} (h:Card w A m s (n + j) c) (hs:Stopped m m' j) (hg:PGone w' A m' f):MCard w' A.M m' f n (c + 1):=by
 obtain ⟨P,p,hst,-,-⟩:=hg.ex;exact ⟨hst.mem,hs.clean h.clean,hs.good,hs.size.trans h.size,by have:=hg.vm;rw [h.cnt,h.frm] at this;exact this,by have:=h.wr;have:=hs.hi;rw [hs.endu];omega,by rw [hs.cuts];have:=h.cu;omega⟩
theorem Card.plan (h:Card w A m s n c) {q:Nat} (hm:Mod A.M.S w w') (hR:MemRep w' A.M (m.cut q)):Card w' A (m.cut q) s n c :=
 ⟨h.rep.replan hm hR rfl rfl rfl rfl,h.psp,h.clean.of rfl,h.size,h.cnt,h.frm,h.wr,h.cu⟩
theorem MCard.less (h:MCard w M m f n c) (hk:k≤n) (hc:c≤c'):MCard w M m f k c':={ h with wr:=Nat.le_trans (Nat.add_le_add_left hk _) h.wr,cu:=Nat.le_trans h.cu hc }
theorem MCard.fresh (h:MCard w M m f n c) (hm:Mod Nowhere w w'):MCard w' M m f n c:={ h with rep:=h.rep.mod hm (fun _ _=>id) }
theorem MCard.set (h:MCard w M m f n c) (hr:MemRep w' M m') (e1:m'.words = m.words) (e2:m'.writes = m.writes) (e3:m'.cuts = m.cuts) (e4:m'.endu = m.endu):MCard w' M m' f n c :=
 ⟨hr,h.clean.of e1,h.good.of e1,by show m'.words.length = 4096;rw [e1];exact h.size,h.vm.of e1 e2,by rw [e2,e4];exact h.wr,by rw [e3];exact h.cu⟩
end
theorem PGe.sure {D:Items→Prop} {w w':World} {A:VAt} {m:Mem} {s s':VSt} {er j n c:Nat} {e:Ending} (h:PGe D w A m s' er j e w') (hc:Card w A m s (n + j) c) (hpd:m.pending = false) (hp:PSP s') :
  e = .returned (errno er)∧∃ m',Card w' A m' s' n c∧m'.pending = false∧Mod A.S w w':=by
 rcases h with ⟨m',k,a1,b1,hk,d,g⟩ | ⟨m',f,a1,b1,hg,d,g⟩
 ·exact ⟨a1,m',hc.after d hk b1 hp,d.pend.trans hpd,g⟩
 ·rw [d.pend] at hpd;cases hpd
theorem PGd.sure {D:Items→Prop} {w w':World} {A:VAt} {m:Mem} {s s':VSt} {left er j n c:Nat} {e:Ending} (h:PGd D w A m s' left er j e w') (hc:Card w A m s (n + j) c) (hpd:m.pending = false) (hp:PSP s') :
  e = .returned (.tuple #[.int .i64 left,errno er])∧∃ m',Card w' A m' s' n c∧m'.pending = false∧Mod A.S w w':=by
 rcases h with ⟨m',k,a1,b1,hk,d,g⟩ | ⟨m',f,a1,b1,hg,d,g⟩
 ·exact ⟨a1,m',hc.after d hk b1 hp,d.pend.trans hpd,g⟩
 ·rw [d.pend] at hpd;cases hpd
def cardV (A:VAt) (pb:Nat):Value:=.agg #[ptr A.M.mb,ptr A.vb,ptr pb]
def Begun (w:World) (e:Ending) (w':World):Prop :=
 ∃ A m pb,e = .returned (.tuple #[cardV A pb,.bool true])∧Card w' A m (vst0 none_) 1000000000 0∧PnAt w' pb A.vb∧w.heap.size≤pb∧(∀ k,A.S k→w.heap.size≤k)∧m.pending = false∧Mod Nowhere w w'
theorem VNew.card {w w':World} {v:Ending} (h:VNew 4096 1073741824 w v w'):∃ A m,v = .returned (.tuple #[ptr A.M.mb,ptr A.vb,errno 0])∧Card w' A m (vst0 none_) 1000000000 0∧(∀ k,A.S k→w.heap.size≤k)∧m.pending = false∧Mod Nowhere w w':=by
 obtain ⟨A,m,k,a,b,c,d,e,f,g,i,j⟩:=h;exact ⟨A,m,a,⟨e,.idle0 .none .none,g.clean (Mem.new_clean _ _),g.size.trans (Mem.new_size _ _),b,c,by rw [g.writes,g.endu];show 0 + k + 1000000000≤1073741824;omega,by rw [g.cuts];exact Nat.le_refl _⟩,i,g.pend,j⟩
theorem ret_card {fn:Func} {p u:Tmp} (h:fn.results = #[.cell p 28,.tmp u]) (tmps:Array Value) (w:World) (b:Nat) (c0 c1 c2:Value) (hp:tmps.getD p undef = ptr b) (hb:Blk w b [c0,c1,c2] 28) :
  (results fn tmps).run Tryz.prog w = .ok (.tuple #[.agg #[c0,c1,c2],tmps.getD u undef]) w:=by
 rw [results_cell_tmp h,hp];have k0:=hb.cell 0;have k1:=hb.cell 1;have k2:=hb.cell 2;simp only [List.getElem?_cons_zero,List.getElem?_cons_succ] at k0 k1 k2
 go_simp
theorem set3 {w2:World} {B:Nat} {T:TypeId} {c0 c1 c2:Value} (hb:Blk w2 B [c0,c1,c2] T) (v0 v1 v2:Value) :
  Blk (((w2.setCell ⟨B,0,none⟩ v0).setCell ⟨B,1,none⟩ v1).setCell ⟨B,2,none⟩ v2) B [v0,v1,v2] T ∧
  Mod (fun j=>j = B) w2 (((w2.setCell ⟨B,0,none⟩ v0).setCell ⟨B,1,none⟩ v1).setCell ⟨B,2,none⟩ v2) :=
 ⟨((hb.setCell 0 v0).setCell 1 v1).setCell 2 v2,(((Mod.refl (fun j=>j = B) w2).setCell (p:=⟨B,0,none⟩) (fun _=>rfl) v0).setCell (p:=⟨B,1,none⟩) (fun _=>rfl) v1).setCell (p:=⟨B,2,none⟩) (fun _=>rfl) v2⟩
set_option maxHeartbeats 8000000 in
theorem begin21_ok (w:World):Calls Tryz.prog 7 #[] w (Begun w):=by
 have hN:=fun W=>vNew_ok (w:=W) (n:=4096) (e:=1073741824) (by omega) (by omega) (by omega) (by omega);replace hN:=Lib.hid hN;go_enter Tryz.func7,Tryz.ntmps7;go_wp2_with fail;refine (hN.out _).mono ?_;rintro e w1 hv;obtain ⟨A,m,rfl,hc,hAS,hpd,hm1⟩:=hv.card;clear hv;have hO:=pinOpen_ok hc.rep.says;have hsz:=hm1.size;have bR:Blk w1 w.heap.size [.pointer none,.pointer none,.pointer none] 28:=(Blk.new w [.pointer none,.pointer none,.pointer none] 28).mod hm1 (fun e=>e);refine hid6 ?_ hO hc hAS hpd hm1 bR;clear hO hc hAS hpd hm1 bR;intro hO hc hAS hpd hm1 bR;go_wp2_with fail;refine hO.out.mono ?_
 rintro e w2 ⟨pb,rfl,hp,hpb,hm2⟩;have b2:=bR.out.mod hm2 (fun e=>e);have k0:=b2.cell 0;have k1:=b2.cell 1;have k2:=b2.cell 2;simp only [List.getElem?_cons_zero,List.getElem?_cons_succ] at k0 k1 k2;have kf:=b2.frozen;have kl:=b2.lt;have hm02:Mod Nowhere w w2:=(((Mod.refl _ w).alloc _).trans hm1.out).trans hm2;obtain ⟨b3,m3⟩:=set3 b2 (ptr A.M.mb) (ptr A.vb) (ptr pb);refine hid6 ?_ hp hm2 b2 hm02 b3 m3;clear hp hm2 b2 hm02 b3 m3;intro hp hm2 b2 hm02 b3 m3;have hpb':w.heap.size + 1≤pb:=by have:=hm1.out.size;simp at this;omega
 go_wp2;have hAS':∀ k,A.S k→w.heap.size + 1≤k:=fun k hk=>by have:=hAS.out k hk;simpa using this
 refine bodyPost_ret (ret_card rfl _ _ w.heap.size _ _ _ rfl b3.out) rfl ⟨A,m,pb,rfl,?_,?_,by omega,fun k hk=>by have:=hAS' k hk;omega,hpd.out,hm02.out.newb m3.out (Nat.le_refl _)⟩
 ·exact { hc.out with rep:=(hc.out.rep.fresh hm2.out).keepB m3.out b2.out (by decide) }
 ·exact Blk.mod hp.out m3.out (fun e=>by have e:pb = w.heap.size:=e;omega)
def Again (w:World) (M:MemAt) (f:Items) (n c:Nat) (e:Ending) (w':World):Prop :=
 ∃ A m pb,e = .returned (.tuple #[cardV A pb,.bool true])∧A.M = M∧Card w' A m (vst0 f) n c∧PnAt w' pb A.vb∧w.heap.size≤pb∧(∀ k,A.S k→M.S k ∨ w.heap.size≤k)∧m.pending = false∧Mod M.S w w'
set_option maxHeartbeats 8000000 in
theorem again21_ok {w:World} {M:MemAt} {m:Mem} {f:Items} {n c:Nat} (h:MCard w M m f (n + 62580) c) (hc:c≤1000) (hf:PInvF f) (hpr:Pairs f) (v p:Value) :
  Calls Tryz.prog 16 #[.agg #[ptr M.mb,v,p]] w (Again w M f n c):=by
 obtain ⟨b1,b2,mB⟩:=boxes2 w [ptr M.mb,v,p] [.pointer none,.pointer none,.pointer none] 28 28
 have hlM:∀ k,M.S k→k < w.heap.size:=fun k hk=>by
  rcases hk with e | e | e
  ·rw [e];exact h.rep.bm.lt
  ·rw [e];exact h.rep.bw.lt
  ·rw [e];exact h.rep.br.lt
 obtain ⟨W,hW⟩:∃ W,(w.alloc (.cells #[ptr M.mb,v,p] 28)).alloc (.cells #[.pointer none,.pointer none,.pointer none] 28) = W:=⟨_,rfl⟩;have hzW:W.heap.size = w.heap.size + 1 + 1:=by rw [← hW];simp
 rw [hW] at b1 b2 mB;have hR:=Restore_ok (h.fresh mB).rep;have k0:=b1.cell 0;simp only [List.getElem?_cons_zero] at k0;have l1:=b1.lt;refine hid9 ?_ hR h hf hpr mB b1 b2 hlM hzW;clear hR h hf hpr mB b1 b2 hlM hzW;intro hR h hf hpr mB b1 b2 hlM hzW;go_enter Tryz.func16,Tryz.ntmps16;go_wp2_with fail;refine hR.out.mono ?_;rintro e w1 ⟨rfl,hr1,hm1⟩;have hmc:=(h.out.fresh mB.out).set hr1 rfl rfl rfl rfl;have c1:=b1.out.mod hm1 (fun e=>by have:=hlM.out _ e;omega);have c2:=b2.out.mod hm1 (fun e=>by have:=hlM.out _ e;omega);have hwr:=hmc.wr;have hwr2:m.restore.writes + 62580≤m.restore.endu:=Nat.le_trans (Nat.add_le_add_left (Nat.le_add_left 62580 n) _) hwr;have hM:=vMount_ok hr1 rfl hmc.clean hmc.good (by rw [hmc.size];decide) (by rw [hmc.size]) (by rw [hmc.size]) (by decide) hmc.vm ⟨hwr2,Nat.lt_of_le_of_lt hmc.cu (by omega)⟩
 have k0:=c1.cell 0;simp only [List.getElem?_cons_zero] at k0;have l1:=c1.lt;refine hid8 ?_ hM hmc c1 c2 hm1 hwr hwr2 hr1;clear hM hmc c1 c2 hm1 hwr hwr2 hr1;intro hM hmc c1 c2 hm1 hwr hwr2 hr1;go_wp2_with fail;refine hM.out.mono ?_;rintro e w2 (⟨A,m',k,rfl,a1,a2,a3,a4,a5,a6,a7,a8,a9⟩ | ⟨m',rfl,d1,d2,d3,d4⟩)
 ·have hO:=pinOpen_ok a5.says;have e1:=c1.out.mod a9 (fun e=>by have:=hlM.out _ e;omega);have e2:=c2.out.mod a9 (fun e=>by have:=hlM.out _ e;omega)
  have hcd:Card w2 A m' (vst0 f) n c:=⟨a5,.idle0 hf.out hpr.out,a7.clean hmc.out.clean,a7.size.trans hmc.out.size,a2,a3,by
   have:=hwr.out;rw [a7.writes,a7.endu];obtain ⟨q,hq⟩:∃ q,62580 = q:=⟨_,rfl⟩;rw [hq] at this a6
   omega,by rw [a7.cuts];exact hmc.out.cu⟩
  have hpd:m'.pending = false:=a7.pend;refine hid9 ?_ hO e1 e2 hcd a8 a9 hpd a5 a7;clear hO e1 e2 hcd a8 a9 hpd a5 a7;intro hO e1 e2 hcd a8 a9 hpd a5 a7;go_wp2_with fail;refine hO.out.mono ?_;rintro e w3 ⟨pb,rfl,hp,hpb,hm3⟩;have g1:=e1.out.mod hm3 (fun e=>e);have g2:=e2.out.mod hm3 (fun e=>e);have k0:=g1.cell 0;have l1:=g1.lt;have j0:=g2.cell 0;have j1:=g2.cell 1;have j2:=g2.cell 2;simp only [List.getElem?_cons_zero,List.getElem?_cons_succ] at k0 j0 j1 j2;have jf:=g2.frozen;have jl:=g2.lt;obtain ⟨b3,m3⟩:=set3 g2 (ptr M.mb) (ptr A.vb) (ptr pb);have hmA:Mod M.S w w3:=((mB.out.nowhere.trans hm1.out).trans a9.out).trans hm3.nowhere;refine hid7 ?_ g1 g2 hp hm3 b3 m3 hmA;clear g1 g2 hp hm3 b3 m3 hmA;intro g1 g2 hp hm3 b3 m3 hmA
  go_wp2;subst a1;have hs:=Nat.le_trans (Nat.le_trans mB.out.size hm1.out.size) a9.out.size;refine bodyPost_ret (ret_card rfl _ _ (w.heap.size + 1) _ _ _ rfl b3.out) rfl ⟨A,m',pb,rfl,rfl,?_,?_,by omega,fun k hk=>?_,hpd.out,?_⟩
  ·exact { hcd.out with rep:=(hcd.out.rep.fresh hm3.out).keepB m3.out g2.out (by decide) }
  ·exact Blk.mod hp.out m3.out (fun e=>by
    have e:pb = w.heap.size + 1:=e;have:=hzW.out;have:=hm1.out.size;have:=a9.out.size
    omega)
  ·rcases a8.out k hk with h1 | h1
   ·exact .inl h1
   ·right;have:=hm1.out.size;have:=mB.out.size;omega
  ·exact hmA.out.step m3.out fun i hi e=>by
    have e:i = w.heap.size + 1:=e;omega
 ·exact absurd d2.pend (by show ¬ (false = true);decide)
end Go.Proofs.YtjanpegbemepgaaGreat
