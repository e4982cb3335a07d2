/-
  The PINs: Create and Delete, where the vault is alive.
-/
import Derived.Test.YtjanpegbemepgaaGreatTG38
set_option linter.unusedVariables false
set_option linter.unusedSimpArgs false
set_option maxRecDepth 100000
namespace Go.Proofs.YtjanpegbemepgaaGreat
open Go.RowKit
open Jn Vn
attribute [local go_sem] Oper.semAt_some
set_option maxHeartbeats 1000000 in
theorem Vn.POk.validB {d:PinD} (hd:POk d):pinValidB d.id d.value.length d.limit d.lo d.hi d.code.length d.cl = true:=by
 have h1:=hd.i1;have h2:=hd.i8;have h3:=hd.l1;have h4:=hd.l15;have h5:=hd.lo;have h6:=hd.hi;have h7:=hd.v1;have h8:=hd.v2;unfold pinValidB unbB fitsB;rcases hd.c with ⟨e1,e2⟩ | ⟨e1,e2,e3,e4⟩
 ·rw [e1,e2];simp;omega
 ·simp only [Bool.and_eq_true,Bool.or_eq_true,decide_eq_true_eq];omega
set_option maxHeartbeats 1000000 in
theorem PMap.look_all {w:World} {b:Nat} {G:Nat→Option PinD} (h:PMap w b G) {id:Int} (h1:-9223372036854775808≤id) (h2:id≤9223372036854775807) :
  ∃ u,(∀ W,Mod Nowhere w W→(Instr.lookup 80 (.map (some b)) (.int .i64 id) true).run Tryz.prog W = .ok (.tuple #[u,.bool (atI G id).isSome]) W)∧LookIs w (atI G id) u:=by
 by_cases h0:0≤id
 ·obtain ⟨g,hg,hel⟩:=h.ex;have hz:∀ W,(zeroValue 35).run Tryz.prog W = .ok zpin W:=fun W=>rfl;unfold atI;rw [if_pos h0];have e:id = (id.toNat:Int):=by omega
  have hl:=fun W (hm:Mod Nowhere w W)=>(hg.mod hm (fun e=>e)).look_ok (t:=80) (e:=35) Tryz.underlying80 (hz W) (k:=id.toNat) (by omega);rw [← e] at hl;have he:=hel id.toNat
  cases hG:G id.toNat with
  | none =>
   rw [hG] at he
   cases hv:g id.toNat with
   | none=>rw [hv] at hl;exact ⟨_,hl,rfl⟩
   | some v=>rw [hv] at he;exact he.elim
  | some d =>
   rw [hG] at he
   cases hv:g id.toNat with
   | none=>rw [hv] at he;exact he.elim
   | some v=>rw [hv] at hl he;exact ⟨_,hl,he⟩
 ·have hn:atI G id = none:=by unfold atI;rw [if_neg h0]
  rw [hn];refine ⟨zpin,fun W hm=>?_,rfl⟩;obtain ⟨u,hlk,hlis⟩:=(h.fresh hm).look h1 h2;rw [hn] at hlk hlis;obtain rfl:u = zpin:=hlis;exact hlk
theorem look7 {w:World} {b:Nat} {G:Nat→Option PinD} (h:PMap w b G) {id:Int} (h1:-9223372036854775808≤id) (h2:id≤9223372036854775807) :
  ∃ (c0 c2 c3 c4 c6:Int) (a1:Option Addr) (n1 k1:Nat) (a5:Option Addr) (n5 k5:Nat),∀ W,Mod Nowhere w W→(Instr.lookup 80 (.map (some b)) (.int .i64 id) true).run Tryz.prog W = .ok (.tuple #[.agg #[.int .i64 c0,.slice a1 n1 k1,.int .i64 c2,.int .i64 c3,.int .i64 c4,.slice a5 n5 k5,.int .i64 c6],.bool (atI G id).isSome]) W:=by
 obtain ⟨u,hlk,hlis⟩:=h.look_all h1 h2
 cases ho:atI G id with
 | none =>
  rw [ho] at hlk hlis;obtain rfl:u = zpin:=hlis;exact ⟨_,_,_,_,_,_,_,_,_,_,_,hlk⟩
 | some d =>
  rw [ho] at hlk hlis;obtain ⟨xa,xc,ya,yc,rfl,-,-⟩:=hlis.form;exact ⟨_,_,_,_,_,_,_,_,_,_,_,hlk⟩
theorem mod7 {w w3:World} {B:Nat} (hm:Mod Nowhere w w3) (hB:w.heap.size≤B) (v0 v1 v2 v3 v4 v5 v6:Value) :
  Mod Nowhere w (((((((w3.setCell ⟨B,0,none⟩ v0).setCell ⟨B,1,none⟩ v1).setCell ⟨B,2,none⟩ v2).setCell ⟨B,3,none⟩ v3).setCell ⟨B,4,none⟩ v4).setCell ⟨B,5,none⟩ v5).setCell ⟨B,6,none⟩ v6) :=
 hm.newb (((((((((Mod.refl (fun j=>j = B) w3).setCell (p:=⟨B,0,none⟩) (fun _=>rfl) v0).setCell (p:=⟨B,1,none⟩) (fun _=>rfl) v1).setCell (p:=⟨B,2,none⟩) (fun _=>rfl) v2).setCell (p:=⟨B,3,none⟩) (fun _=>rfl) v3).setCell (p:=⟨B,4,none⟩) (fun _=>rfl) v4).setCell (p:=⟨B,5,none⟩) (fun _=>rfl) v5).setCell (p:=⟨B,6,none⟩) (fun _=>rfl) v6)) hB
set_option maxHeartbeats 16000000 in
theorem pinCreate_bad {w:World} {pb:Nat} {A:VAt} {m:Mem} {s:VSt} (hp:PnAt w pb A.vb) (h:VRep w A m s) (id:Int) (va:Option Addr) (vl vc:Nat) (limit lo hi:Int) (ua:Option Addr) (ul uc:Nat) (cl:Int) (hv:pinValidB id vl limit lo hi ul cl = false) (n:Nat) :
  Calls Tryz.prog 8 #[ptr pb,.agg #[.int .i64 id,.slice va vl vc,.int .i64 limit,.int .i64 lo,.int .i64 hi,.slice ua ul uc,.int .i64 cl]] w (PGe (fun f=>f = s.f) w A m s 1 n):=by
 have hm0:Mod Nowhere w (w.alloc (.cells #[.int .i64 id,.slice va vl vc,.int .i64 limit,.int .i64 lo,.int .i64 hi,.slice ua ul uc,.int .i64 cl] 35)):=(Mod.refl _ w).alloc _;have b0:=Blk.new w [.int .i64 id,.slice va vl vc,.int .i64 limit,.int .i64 lo,.int .i64 hi,.slice ua ul uc,.int .i64 cl] 35;have hR1:=pinReady_ok (hp.fresh hm0) (h.fresh hm0).says;have er:readyE true = 0:=rfl;simp only [er] at hR1;clear er;have hV:=fun W=>pinValid_ok (w:=W) id va vl vc limit lo hi ua ul uc cl;rw [hv] at hV;refine hid7 ?_ hR1 hV h hp hm0 b0 hv;clear hR1 hV h hp hm0 b0 hv;intro hR1 hV h hp hm0 b0 hv
 go_enter Tryz.func8,Tryz.ntmps8;go_wp2_with fail;refine (hR1.out).mono ?_;rintro e w1 ⟨rfl,hm1⟩;have b1:=b0.out.mod hm1 (fun e=>e);have k0:=b1.cell 0;have k1:=b1.cell 1;have k2:=b1.cell 2;have k3:=b1.cell 3;have k4:=b1.cell 4;have k5:=b1.cell 5;have k6:=b1.cell 6;simp only [List.getElem?_cons_zero,List.getElem?_cons_succ] at k0 k1 k2 k3 k4 k5 k6;have kl:=b1.lt;refine hid2 ?_ hm1 b1;clear hm1 b1;intro hm1 b1;go_wp2_with fail;refine (hV.out _).mono ?_;rintro e w2 ⟨rfl,hm2⟩;have hfin:PGe (fun f=>f = s.f) w A m s 1 n (.returned (errno 1)) w2:=PGe.same h.out ((hm0.out.trans hm1.out).trans hm2);refine hid2 ?_ hfin hm2;clear hfin hm2;intro hfin hm2
 go_wp2;go_ret;exact hfin.out
set_option maxHeartbeats 16000000 in
theorem pinCreate_ok {w:World} {pb:Nat} {A:VAt} {m:Mem} {s:VSt} {d:PinD} (hd:POk d) {u1 u2:Value} (hs1:SrcS A w u1 d.value) (hs2:SrcS A w u2 d.code) (hp:PnAt w pb A.vb) (h:VRep w A m s) (hxn:s.l.length≤90000) (hS:PS s) (hrm:Room m (vcost A + vcost A + vcost A)) :
  Calls Tryz.prog 8 #[ptr pb,pinV d u1 u2] w (PGe (fun f=>f = s.f ∨ f = (pCreate A.Z s d true).1.f) w A m (pCreate A.Z s d true).1 (pCreate A.Z s d true).2 (vcost A + vcost A + vcost A)):=by
 have hI:=hS.view;have hlt:=h.lt;obtain ⟨va,vc,rfl,-,-,-⟩:=hs1.src;obtain ⟨ua,uc,rfl,-,-,-⟩:=hs2.src;have hm0:Mod Nowhere w (w.alloc (.cells #[.int .i64 d.id,.slice va d.value.length vc,.int .i64 d.limit,.int .i64 d.lo,.int .i64 d.hi,.slice ua d.code.length uc,.int .i64 d.cl] 35)):=(Mod.refl _ w).alloc _;have b0:=Blk.new w [.int .i64 d.id,.slice va d.value.length vc,.int .i64 d.limit,.int .i64 d.lo,.int .i64 d.hi,.slice ua d.code.length uc,.int .i64 d.cl] 35;have hR1:=pinReady_ok (hp.fresh hm0) (h.fresh hm0).says;have er:readyE true = 0:=rfl;simp only [er] at hR1
 clear er;have hV:=fun W=>pinValid_ok (w:=W) d.id va d.value.length vc d.limit d.lo d.hi ua d.code.length uc d.cl;rw [hd.validB] at hV;have hQ:=fun W (hm:Mod Nowhere w W)=>pinAll_ok (hp.fresh hm) (h.fresh hm) (by omega) hI;have hP:=fun W (hm:Mod Nowhere w W)=>pinPut_ok hd (u1:=.slice va d.value.length vc) (u2:=.slice ua d.code.length uc) (hs1.mod hm.nowhere) (hs2.mod hm.nowhere) hd.l15 hd.cl15 (hp.fresh hm) (h.fresh hm) hxn hrm;have i1:=hd.i1;have i8:=hd.i8;unfold pCreate;rw [if_pos rfl];obtain ⟨q,hq⟩:∃ q,pPut A.Z s d d.limit d.cl = q:=⟨_,rfl⟩;rw [hq];simp only [hq] at hP
 unfold pinV at hP;unfold pinV;have ho0:atI (pget (view s)) (d.id:Int) = pget (view s) d.id:=atI_nat _ _;obtain ⟨o,ho⟩:∃ o,pget (view s) d.id = o:=⟨_,rfl⟩;rw [ho] at ho0 ⊢;obtain ⟨R0,hR0⟩:∃ R0,(if o.isSome = true then (s,13) else q) = R0:=⟨_,rfl⟩;rw [hR0];refine hid12 ?_ hR0 hR1 hV h hp hm0 b0 hQ hP hI hS hd;clear hR0 hR1 hV h hp hm0 b0 hQ hP hI hS hd;intro hR0 hR1 hV h hp hm0 b0 hQ hP hI hS hd;refine hid6 ?_ hs1 hs2 hlt hq ho ho0;clear hs1 hs2 hlt hq ho ho0;intro hs1 hs2 hlt hq ho ho0;go_enter Tryz.func8,Tryz.ntmps8;go_wp2_with fail;refine (hR1.out).mono ?_;rintro e w1 ⟨rfl,hm1⟩;have b1:=b0.out.mod hm1 (fun e=>e)
 have k0:=b1.cell 0;have k1:=b1.cell 1;have k2:=b1.cell 2;have k3:=b1.cell 3;have k4:=b1.cell 4;have k5:=b1.cell 5;have k6:=b1.cell 6;simp only [List.getElem?_cons_zero,List.getElem?_cons_succ] at k0 k1 k2 k3 k4 k5 k6;have kl:=b1.lt;refine hid2 ?_ hm1 b1;clear hm1 b1;intro hm1 b1;go_wp2_with fail;refine (hV.out _).mono ?_;rintro e w2 ⟨rfl,hm2⟩;have b2:=b1.out.mod hm2 (fun e=>e);have hm02:=(hm0.out.trans hm1.out).trans hm2;clear k0 k1 k2 k3 k4 k5 k6 kl;have k0:=b2.cell 0;simp only [List.getElem?_cons_zero] at k0;have kl:=b2.lt;have kf:=b2.frozen;have hQ2:=fun W (hm:Mod Nowhere w2 W)=>hQ.out W (hm02.trans hm);refine hid4 ?_ hm2 b2 hm02 hQ2;clear hm2 b2 hm02 hQ2;intro hm2 b2 hm02 hQ2
 go_upto_region 6 with (fail)
 go_cut [7] (fun v wx=>v = .bool o.isSome∧Mod Nowhere w2 wx)
 case first =>
  have hmN:∀ W,Mod Nowhere w2 W→∀ l:List Value,Mod Nowhere w2 ((W.alloc (.cells l.toArray 35))):=fun W h l=>h.alloc _;have hz2:Blk (w2.alloc (.cells #[.int .i64 0,.slice none 0 0,.int .i64 0,.int .i64 0,.int .i64 0,.slice none 0 0,.int .i64 0] 35)).drew w2.heap.size [.int .i64 0,.slice none 0 0,.int .i64 0,.int .i64 0,.int .i64 0,.slice none 0 0,.int .i64 0] 35:=Blk.drew (Blk.new' rfl rfl);have hD1:=hQ2.out _ ((Mod.refl Nowhere w2).drew);have hD2:=hQ2.out _ (((Mod.refl Nowhere w2).alloc (.cells #[.int .i64 0,.slice none 0 0,.int .i64 0,.int .i64 0,.int .i64 0,.slice none 0 0,.int .i64 0] 35)).drew);have j1:-9223372036854775808≤(d.id:Int):=by omega
  have j2:(d.id:Int)≤9223372036854775807:=by omega
  refine hid4 ?_ hmN hz2 hD1 hD2;clear hmN hz2 hD1 hD2;intro hmN hz2 hD1 hD2
  go_region_held3 (fun w'=>w'.cell? ⟨w.heap.size,0,none⟩ = some (.int .i64 d.id)) (simp [*,World.cell?_alloc_some,World.cell?_setCell_far,World.cell?_setCell_other])
   (first
    | (go_at_call 34;(with_reducible refine hD1.out.mono ?_);rintro e w3 ⟨mb,rfl,hpm,hm3⟩;obtain ⟨c0,c2,c3,c4,c6,a1,n1,l1,a5,n5,l5,hlk0⟩:=look7 hpm j1 j2;rw [ho0.out] at hlk0;have hlk:=hlk0 _ (Mod.refl _ _);have hlk2:=hlk0 _ ((Mod.refl Nowhere _).alloc (.cells #[.int .i64 0,.slice none 0 0,.int .i64 0,.int .i64 0,.int .i64 0,.slice none 0 0,.int .i64 0] 35));clear hlk0;have hm23:=((Mod.refl Nowhere w2).drew).trans hm3;have k3:=(b2.out.mod hm23 (fun e=>e)).cell 0;simp only [List.getElem?_cons_zero] at k3;replace hm3:=Lib.hid hm3;replace hm23:=Lib.hid hm23;clear hpm)
    | (go_at_call 34;(with_reducible refine hD2.out.mono ?_);rintro e w3 ⟨mb,rfl,hpm,hm3⟩;obtain ⟨c0,c2,c3,c4,c6,a1,n1,l1,a5,n5,l5,hlk0⟩:=look7 hpm j1 j2;rw [ho0.out] at hlk0;have hlk:=hlk0 _ (Mod.refl _ _);have hlk2:=hlk0 _ ((Mod.refl Nowhere _).alloc (.cells #[.int .i64 0,.slice none 0 0,.int .i64 0,.int .i64 0,.int .i64 0,.slice none 0 0,.int .i64 0] 35));clear hlk0;have hm23:=(((Mod.refl Nowhere w2).alloc (.cells #[.int .i64 0,.slice none 0 0,.int .i64 0,.int .i64 0,.int .i64 0,.slice none 0 0,.int .i64 0] 35)).drew).trans hm3;have k3:=(b2.out.mod hm23 (fun e=>e)).cell 0;simp only [List.getElem?_cons_zero] at k3;have n3:=hz2.out.mod hm3 (fun e=>e);have nl:=n3.lt;have nf:=n3.frozen;have e0:=n3.cell 0;have e1:=n3.cell 1;have e2:=n3.cell 2;have e4:=n3.cell 3;have e5:=n3.cell 4;have e6:=n3.cell 5;have e7:=n3.cell 6;simp only [List.getElem?_cons_zero,List.getElem?_cons_succ] at e0 e1 e2 e4 e5 e6 e7;replace n3:=Lib.hid n3;replace hm3:=Lib.hid hm3;replace hm23:=Lib.hid hm23;clear hpm)
    | fail)
  ·have hg:=hm23.out.alloc (.cells #[.int .i64 c0,.slice a1 n1 l1,.int .i64 c2,.int .i64 c3,.int .i64 c4,.slice a5 n5 l5,.int .i64 c6] 35);clear hlk hlk2;replace hg:=Lib.hid hg;go_wp2;go_meet
   case rel=>exact ⟨rfl,hg.out⟩
  ·have hg:=hm23.out.alloc (.cells #[.int .i64 c0,.slice a1 n1 l1,.int .i64 c2,.int .i64 c3,.int .i64 c4,.slice a5 n5 l5,.int .i64 c6] 35);clear hlk hlk2;replace hg:=Lib.hid hg;go_wp2;go_meet
   case rel=>exact ⟨rfl,hg.out⟩
  ·have hg:=mod7 hm23.out (Nat.le_refl _) (.int .i64 c0) (.slice a1 n1 l1) (.int .i64 c2) (.int .i64 c3) (.int .i64 c4) (.slice a5 n5 l5) (.int .i64 c6);clear hlk hlk2 e0 e1 e2 e4 e5 e6 e7 nl nf;replace hg:=Lib.hid hg;go_wp2;go_meet
   case rel=>exact ⟨rfl,hg.out⟩
 case rest =>
  obtain ⟨rfl,hm7⟩:=hcut;have hmc:=hm02.out.trans hm7;have b7:=b2.out.mod hm7 (fun e=>e);clear k0 kl kf;have k0:=b7.cell 0;have k1:=b7.cell 1;have k2:=b7.cell 2;have k3:=b7.cell 3;have k4:=b7.cell 4;have k5:=b7.cell 5;have k6:=b7.cell 6;simp only [List.getElem?_cons_zero,List.getElem?_cons_succ] at k0 k1 k2 k3 k4 k5 k6;have kl:=b7.lt;have hP1:=hP.out _ hmc
  cases o with
  | some d' =>
   have hfin:PGe (fun f=>f = s.f ∨ f = R0.1.f) w A m R0.1 R0.2 (vcost A + vcost A + vcost A) (.returned (errno 13)) wc:=by
    have eR:R0 = (s,13):=hR0.out.symm;rw [eR];exact PGe.same h.out hmc
   refine hid5 ?_ hfin hP1 hmc b7 hm7;clear hfin hP1 hmc b7 hm7;intro hfin hP1 hmc b7 hm7;simp only [Option.isSome_some];go_wp2;go_ret;exact hfin.out
  | none =>
   have eR:q = R0:=hR0.out;rw [eR] at hP1;refine hid4 ?_ hP1 hmc b7 hm7;clear hP1 hmc b7 hm7;intro hP1 hmc b7 hm7;simp only [Option.isSome_none];go_wp2_with fail;refine hP1.out.mono ?_;rintro e w8 hc8;obtain ⟨rq,rfl⟩:=hc8.no;have hfin:=hc8.ge (D':=fun f=>f = s.f ∨ f = R0.1.f) (fun _ h=>h) (Nat.le_refl _) hmc.out.nowhere;clear hc8;replace hfin:=Lib.hid hfin;go_wp2;go_ret;exact hfin.out
def pDelI (Z:Nat) (s:VSt) (id:Int):VSt × Nat:=if (atI (pget (view s)) id).isSome = true then pDel Z s id.toNat else (s,12)
set_option maxHeartbeats 16000000 in
theorem pinDelete_ok {w:World} {pb:Nat} {A:VAt} {m:Mem} {s:VSt} (hp:PnAt w pb A.vb) (h:VRep w A m s) (hxn:s.l.length≤90000) (hS:PS s) (id:Int) (j1:-9223372036854775808≤id) (j2:id≤9223372036854775807) (hrm:Room m (vcost A + vcost A + vcost A)) :
  Calls Tryz.prog 26 #[ptr pb,.int .i64 id] w (PGe (fun f=>f = s.f ∨ f = (pDelI A.Z s id).1.f) w A m (pDelI A.Z s id).1 (pDelI A.Z s id).2 (vcost A + vcost A + vcost A)):=by
 have hI:=hS.view;have np:=hp.notS h;have hlt:=h.lt;obtain ⟨B,hB⟩:∃ B,w.heap.size = B:=⟨_,rfl⟩
 have hAt:∀ W,Mod Nowhere w W→∀ d,atI (pget (view s)) id = some d→Blk W B [ptr pb] 26→Blk W (B + 1) [.int .i64 id] 3 →
   Calls Tryz.prog 63 #[ptr pb,.func (.func 64) #[] #[ptr B,ptr (B + 1)]] W (PC (fun f=>f = s.f ∨ f = (pDelI A.Z s id).1.f) w A m (pDelI A.Z s id).1 (pDelI A.Z s id).2 (vcost A + vcost A + vcost A)):=by
  intro W hm d hd b0 b1;obtain ⟨e,hok,hpg⟩:=atI_some hI hd
  have eq:pDelI A.Z s id = vAtomic A.Z s (pDelIn A.Z d.id):=by
   unfold pDelI;rw [if_pos (by rw [hd];rfl),e,Int.toNat_natCast];unfold pDel;rw [if_pos (by rw [hpg];rfl)]
  rw [eq];rw [e] at b1;have i8:=hok.i8;have nB:∀ k,B≤k→¬ A.S k:=fun k hk e=>by have:=hlt k e;omega
  have:=pinAtomic_ok (hp.fresh hm) (h.fresh hm) hxn (K:=vcost A + vcost A) hrm np 64 #[ptr B,ptr (B + 1)] (fun _ _=>rfl) (pDelIn A.Z d.id) (pDelIn_len _ _) (pDelIn_act rfl)
   (fun W2 s1 hm2 hv2 ha hfe hor=>by
    have hl:s1.l.length≤100000:=by rcases hor with rfl | rfl;omega;exact Nat.zero_le _
    have:=pinDel1_ok (by omega) (Blk.mod (hp.fresh hm) hm2 np) hv2 hl (hrm.mono (Nat.le_add_right _ _)) (b0.mod hm2 (nB _ (by omega))) (b1.mod hm2 (nB _ (by omega))) (nB _ (by omega)) (nB _ (by omega)) np
    exact this.mono fun e w' hc=>hc.mono (fun f hf=>(delD_act ha hf).trans hfe) (Nat.le_refl _))
  exact this.mono fun e w' hc=>hc.from hm.nowhere
 obtain ⟨b0,b1,hmB⟩:=boxes2 w [ptr pb] [.int .i64 id] 26 3;rw [hB] at b0 b1;obtain ⟨R0,hR0⟩:∃ R0,pDelI A.Z s id = R0:=⟨_,rfl⟩;rw [hR0];simp only [hR0] at hAt;obtain ⟨o,ho⟩:∃ o,atI (pget (view s)) id = o:=⟨_,rfl⟩;have hR1:=pinReady_ok (hp.fresh hmB) (h.fresh hmB).says;have er:readyE true = 0:=rfl;simp only [er] at hR1;clear er;have hQ:=fun W (hm:Mod Nowhere w W)=>pinAll_ok (hp.fresh hm) (h.fresh hm) (by omega) hI;obtain ⟨W,hW⟩:∃ W,(w.alloc (.cells #[ptr pb] 26)).alloc (.cells #[.int .i64 id] 3) = W:=⟨_,rfl⟩;have hzW:W.heap.size = B + 1 + 1:=by rw [← hW,← hB];simp
 rw [hW] at b0 b1 hmB hR1;have k0:=b0.cell 0;simp only [List.getElem?_cons_zero] at k0;have l0:=b0.lt;refine hid12 ?_ hR0 hR1 h hp hmB b0 b1 hQ hI hS hlt ho;clear hR0 hR1 h hp hmB b0 b1 hQ hI hS hlt ho;intro hR0 hR1 h hp hmB b0 b1 hQ hI hS hlt ho;refine hid4 ?_ hAt np hW hzW;clear hAt np hW hzW;intro hAt np hW hzW;go_enter Tryz.func26,Tryz.ntmps26;go_wp2_with fail;rw [hW.out];refine hR1.out.mono ?_;rintro e w2 ⟨rfl,hm2⟩;have c0:=b0.out.mod hm2 (fun e=>e);have c1:=b1.out.mod hm2 (fun e=>e);clear k0 l0;have k0:=c0.cell 0;have k1:=c1.cell 0;simp only [List.getElem?_cons_zero] at k0 k1;have l0:=c0.lt
 have l1:=c1.lt;have hm02:=hmB.out.trans hm2;have hQ2:=fun W (hm:Mod Nowhere w2 W)=>hQ.out W (hm02.trans hm);refine hid5 ?_ hm2 c0 c1 hm02 hQ2;clear hm2 c0 c1 hm02 hQ2;intro hm2 c0 c1 hm02 hQ2
 go_upto_region 4 with (fail)
 go_cut [7] (fun v wx=>v = .bool o.isSome∧Mod Nowhere w2 wx)
 case first =>
  have hz2:Blk (w2.alloc (.cells #[.int .i64 0,.slice none 0 0,.int .i64 0,.int .i64 0,.int .i64 0,.slice none 0 0,.int .i64 0] 35)).drew w2.heap.size [.int .i64 0,.slice none 0 0,.int .i64 0,.int .i64 0,.int .i64 0,.slice none 0 0,.int .i64 0] 35:=Blk.drew (Blk.new' rfl rfl);have hD1:=hQ2.out _ ((Mod.refl Nowhere w2).drew);have hD2:=hQ2.out _ (((Mod.refl Nowhere w2).alloc (.cells #[.int .i64 0,.slice none 0 0,.int .i64 0,.int .i64 0,.int .i64 0,.slice none 0 0,.int .i64 0] 35)).drew);refine hid3 ?_ hz2 hD1 hD2;clear hz2 hD1 hD2;intro hz2 hD1 hD2
  go_region_held3 (fun w'=>w'.cell? ⟨B,0,none⟩ = some (ptr pb)∧w'.cell? ⟨B + 1,0,none⟩ = some (.int .i64 id)) (simp [*,World.cell?_alloc_some,World.cell?_setCell_far,World.cell?_setCell_other])
   (first
    | (go_at_call 34;(with_reducible refine hD1.out.mono ?_);rintro e w3 ⟨mb,rfl,hpm,hm3⟩;obtain ⟨d0,d2,d3,d4,d6,a1,n1,g1,a5,n5,g5,hlk0⟩:=look7 hpm j1 j2;rw [ho.out] at hlk0;have hlk:=hlk0 _ (Mod.refl _ _);have hlk2:=hlk0 _ ((Mod.refl Nowhere _).alloc (.cells #[.int .i64 0,.slice none 0 0,.int .i64 0,.int .i64 0,.int .i64 0,.slice none 0 0,.int .i64 0] 35));clear hlk0;have hm23:=((Mod.refl Nowhere w2).drew).trans hm3;have k3:=(c0.out.mod hm23 (fun e=>e)).cell 0;have k4:=(c1.out.mod hm23 (fun e=>e)).cell 0;simp only [List.getElem?_cons_zero] at k3 k4;replace hm3:=Lib.hid hm3;replace hm23:=Lib.hid hm23;clear hpm)
    | (go_at_call 34;(with_reducible refine hD2.out.mono ?_);rintro e w3 ⟨mb,rfl,hpm,hm3⟩;obtain ⟨d0,d2,d3,d4,d6,a1,n1,g1,a5,n5,g5,hlk0⟩:=look7 hpm j1 j2;rw [ho.out] at hlk0;have hlk:=hlk0 _ (Mod.refl _ _);have hlk2:=hlk0 _ ((Mod.refl Nowhere _).alloc (.cells #[.int .i64 0,.slice none 0 0,.int .i64 0,.int .i64 0,.int .i64 0,.slice none 0 0,.int .i64 0] 35));clear hlk0;have hm23:=(((Mod.refl Nowhere w2).alloc (.cells #[.int .i64 0,.slice none 0 0,.int .i64 0,.int .i64 0,.int .i64 0,.slice none 0 0,.int .i64 0] 35)).drew).trans hm3;have k3:=(c0.out.mod hm23 (fun e=>e)).cell 0;have k4:=(c1.out.mod hm23 (fun e=>e)).cell 0;simp only [List.getElem?_cons_zero] at k3 k4;have n3:=hz2.out.mod hm3 (fun e=>e);have nl:=n3.lt;have nf:=n3.frozen;have e0:=n3.cell 0;have e1:=n3.cell 1;have e2:=n3.cell 2;have e4:=n3.cell 3;have e5:=n3.cell 4;have e6:=n3.cell 5;have e7:=n3.cell 6;simp only [List.getElem?_cons_zero,List.getElem?_cons_succ] at e0 e1 e2 e4 e5 e6 e7;replace n3:=Lib.hid n3;replace hm3:=Lib.hid hm3;replace hm23:=Lib.hid hm23;clear hpm)
    | fail)
  ·have hg:=hm23.out.alloc (.cells #[.int .i64 d0,.slice a1 n1 g1,.int .i64 d2,.int .i64 d3,.int .i64 d4,.slice a5 n5 g5,.int .i64 d6] 35);clear hlk hlk2;replace hg:=Lib.hid hg;go_wp2;go_meet
   case rel=>exact ⟨rfl,hg.out⟩
  ·have hg:=hm23.out.alloc (.cells #[.int .i64 d0,.slice a1 n1 g1,.int .i64 d2,.int .i64 d3,.int .i64 d4,.slice a5 n5 g5,.int .i64 d6] 35);clear hlk hlk2;replace hg:=Lib.hid hg;go_wp2;go_meet
   case rel=>exact ⟨rfl,hg.out⟩
  ·have hg:=mod7 hm23.out (Nat.le_refl _) (.int .i64 d0) (.slice a1 n1 g1) (.int .i64 d2) (.int .i64 d3) (.int .i64 d4) (.slice a5 n5 g5) (.int .i64 d6);clear hlk hlk2 e0 e1 e2 e4 e5 e6 e7 nl nf;replace hg:=Lib.hid hg;go_wp2;go_meet
   case rel=>exact ⟨rfl,hg.out⟩
 case rest =>
  obtain ⟨rfl,hm7⟩:=hcut;have hmc:=hm02.out.trans hm7;have g0:=c0.out.mod hm7 (fun e=>e);have g1:=c1.out.mod hm7 (fun e=>e);clear k0 l0 k1 l1;have k0:=g0.cell 0;simp only [List.getElem?_cons_zero] at k0;have l0:=g0.lt
  cases o with
  | none =>
   have hfin:PGe (fun f=>f = s.f ∨ f = R0.1.f) w A m R0.1 R0.2 (vcost A + vcost A + vcost A) (.returned (errno 12)) wc:=by
    have eR:R0 = (s,12):=by rw [← hR0.out];unfold pDelI;rw [ho.out];rfl
    rw [eR];exact PGe.same h.out hmc
   refine hid5 ?_ hfin hmc hm7 g0 g1;clear hfin hmc hm7 g0 g1;intro hfin hmc hm7 g0 g1;simp only [Option.isSome_none];go_wp2;go_ret;exact hfin.out
  | some d =>
   have hP1:=hAt.out _ hmc d ho.out g0 g1;refine hid5 ?_ hP1 hmc hm7 g0 g1;clear hP1 hmc hm7 g0 g1;intro hP1 hmc hm7 g0 g1;simp only [Option.isSome_some];go_wp2_with fail;refine hP1.out.mono ?_;rintro e w8 hc8;obtain ⟨rq,rfl⟩:=hc8.no;have hfin:=hc8.ge (D':=fun f=>f = s.f ∨ f = R0.1.f) (fun _ h=>h) (Nat.le_refl _) (Mod.refl _ _);clear hc8;replace hfin:=Lib.hid hfin;go_wp2;go_ret;exact hfin.out
end Go.Proofs.YtjanpegbemepgaaGreat
