/-
  The vault's calls that write nothing never die: Begin, Abort, Back. (Printed by gen_pz.py out of the proofs of Vf and Ve.)
-/
import Derived.Test.YtjanpegbemepgaaGreatTG32
set_option linter.unusedVariables false
set_option linter.unusedSimpArgs false
set_option maxRecDepth 100000
namespace Go.Proofs.YtjanpegbemepgaaGreat
open Go.RowKit
open Jn Vn
attribute [local go_sem] Oper.semAt_some
def VSure (w:World) (A:VAt) (m:Mem) (s s':VSt) (er n:Nat) (e:Ending) (w':World):Prop:=e = .returned (errno er)∧VRep w' A m s'∧Mod A.S w w'
theorem VSure.same {w w':World} {A:VAt} {m:Mem} {s s':VSt} {er n:Nat} (h:VRep w' A m s') (hr:Runs m m 0) (hm:Mod A.S w w'):VSure w A m s s' er n (.returned (errno er)) w':=⟨rfl,h,hm⟩
set_option maxHeartbeats 2000000 in
theorem vBegin_is {w:World} {A:VAt} {m:Mem} {s:VSt} (h:VRep w A m s) :
  Calls Tryz.prog 10 #[ptr A.vb] w (VSure w A m s (vBegin s).1 (vBegin s).2 0):=by
 obtain ⟨P,p,pc,J,bank,end_,ib,lv,xs,h⟩:=h.ex;have hR:=vReady_ok h.stub;have hal:alive m p = true:=h.jr.pg.alive_true;rw [hal,show ((okE true:Nat):Int) = 0 from rfl] at hR;have hrun:=h.jr.runs;have hk:∀ k,VR (w.drewN k) A m P p pc J bank end_ ib lv xs s:=fun k=>h.fresh ((Mod.refl Nowhere w).drewN k);have hmd:∀ k,Mod A.S w (w.drewN k):=fun k=>(Mod.refl A.S w).drewN k;unfold vBegin;refine hid4 ?_ hR h hk hmd;clear hR h hk hmd;intro hR h hk hmd
 cases hact:s.act
 ·rw [if_neg (by simp)];replace hact:=Lib.hid hact;go_enter Tryz.func10,Tryz.ntmps10;go_wp2_with fail;refine hR.out.mono ?_;rintro e w1 ⟨rfl,k,rfl⟩;have h1:=hk.out k;have hm1:=hmd.out k;generalize w.drewN k = w1 at *;have c4:w1.cell? ⟨A.vb,4,none⟩ = some (.bool s.act):=h1.bv.cell 4;have c5:w1.cell? ⟨A.vb,5,none⟩ = some lv:=h1.bv.cell 5;rw [hact.out] at c4;have cz:=h1.bv.frozen;have cl:=h1.bv.lt;obtain ⟨h2,hm2⟩:=h1.setTx true;have hfin:VSure w A m s { s with act:=true,l:=[] } 0 0 (.returned (errno 0)) ((w1.setCell ⟨A.vb,4,none⟩ (.bool true)).setCell ⟨A.vb,5,none⟩ (.slice none 0 0)):=VSure.same h2.rep hrun (hm1.trans hm2);refine hid2 ?_ hfin h1;clear hfin h1;intro hfin h1
  clear h2 hm2 hm1;go_wp2;go_ret;exact hfin.out
 ·rw [if_pos rfl];replace hact:=Lib.hid hact;go_enter Tryz.func10,Tryz.ntmps10;go_wp2_with fail;refine hR.out.mono ?_;rintro e w1 ⟨rfl,k,rfl⟩;have h1:=hk.out k;have hm1:=hmd.out k;generalize w.drewN k = w1 at *;have c4:w1.cell? ⟨A.vb,4,none⟩ = some (.bool s.act):=h1.bv.cell 4;rw [hact.out] at c4;have hfin:VSure w A m s s 14 0 (.returned (errno 14)) w1:=VSure.same h1.rep hrun hm1;replace hfin:=Lib.hid hfin;clear h1 hm1;go_wp2;go_ret;exact hfin.out
set_option maxHeartbeats 2000000 in
theorem vAbort_is {w:World} {A:VAt} {m:Mem} {s:VSt} (h:VRep w A m s) :
  Calls Tryz.prog 12 #[ptr A.vb] w (VSure w A m s (vAbort s).1 (vAbort s).2 0):=by
 obtain ⟨P,p,pc,J,bank,end_,ib,lv,xs,h⟩:=h.ex;have hR:=vInside_ok h.stub (show w.cell? ⟨A.vb,4,none⟩ = some (.bool s.act) from h.bv.cell 4);have hal:alive m p = true:=h.jr.pg.alive_true;rw [hal,if_pos rfl] at hR;have hrun:=h.jr.runs;have hk:∀ k,VR (w.drewN k) A m P p pc J bank end_ ib lv xs s:=fun k=>h.fresh ((Mod.refl Nowhere w).drewN k);have hmd:∀ k,Mod A.S w (w.drewN k):=fun k=>(Mod.refl A.S w).drewN k;unfold vAbort;refine hid3 ?_ h hk hmd;clear h hk hmd;intro h hk hmd
 cases hact:s.act
 ·rw [if_neg (by simp)];rw [hact,if_neg (by simp),show (((14:Nat)):Int) = 14 from rfl] at hR;refine hid2 ?_ hact hR;clear hact hR;intro hact hR;go_enter Tryz.func12,Tryz.ntmps12;go_wp2_with fail;refine hR.out.mono ?_;rintro e w1 ⟨rfl,k,rfl⟩;have h1:=hk.out k;have hm1:=hmd.out k;generalize w.drewN k = w1 at *;have hfin:VSure w A m s s 14 0 (.returned (errno 14)) w1:=VSure.same h1.rep hrun hm1;replace hfin:=Lib.hid hfin;clear h1 hm1;go_wp2;go_ret;exact hfin.out
 ·rw [if_pos rfl];rw [hact,if_pos rfl,show (((0:Nat)):Int) = 0 from rfl] at hR;refine hid2 ?_ hact hR;clear hact hR;intro hact hR;go_enter Tryz.func12,Tryz.ntmps12;go_wp2_with fail;refine hR.out.mono ?_;rintro e w1 ⟨rfl,k,rfl⟩;have h1:=hk.out k;have hm1:=hmd.out k;generalize w.drewN k = w1 at *;have c4:w1.cell? ⟨A.vb,4,none⟩ = some (.bool s.act):=h1.bv.cell 4;have c5:w1.cell? ⟨A.vb,5,none⟩ = some lv:=h1.bv.cell 5;rw [hact.out] at c4;have cz:=h1.bv.frozen;have cl:=h1.bv.lt;obtain ⟨h2,hm2⟩:=h1.setTx false;have hfin:VSure w A m s { s with act:=false,l:=[] } 0 0 (.returned (errno 0)) ((w1.setCell ⟨A.vb,4,none⟩ (.bool false)).setCell ⟨A.vb,5,none⟩ (.slice none 0 0)):=VSure.same h2.rep hrun (hm1.trans hm2);refine hid2 ?_ hfin h1;clear hfin h1;intro hfin h1
  clear h2 hm2 hm1;go_wp2;go_ret;exact hfin.out
set_option maxHeartbeats 2000000 in
theorem vBack_is {w:World} {A:VAt} {m:Mem} {s:VSt} (h:VRep w A m s) (hxn:s.l.length≤1000000) (k:Int) :
  Calls Tryz.prog 99 #[ptr A.vb,.int .i64 k] w (VSure w A m s (vBack s k).1 (vBack s k).2 0):=by
 obtain ⟨P,p,pc,J,bank,end_,ib,lv,xs,h⟩:=h.ex;have hR:=vInside_ok h.stub (show w.cell? ⟨A.vb,4,none⟩ = some (.bool s.act) from h.bv.cell 4);have hal:alive m p = true:=h.jr.pg.alive_true;rw [hal,if_pos rfl] at hR;have hrun:=h.jr.runs;have hk:∀ k,VR (w.drewN k) A m P p pc J bank end_ ib lv xs s:=fun k=>h.fresh ((Mod.refl Nowhere w).drewN k);have hmd:∀ k,Mod A.S w (w.drewN k):=fun k=>(Mod.refl A.S w).drewN k;have hxl:xs.length = s.l.length:=by rw [← h.xl,recs_len]
 have hfm:=vform h.ls;unfold vBack;obtain ⟨act,hact⟩:∃ act,s.act = act:=⟨_,rfl⟩;rw [hact] at hR ⊢;refine hid4 ?_ hk hmd hact hfm;clear hk hmd hact hfm;intro hk hmd hact hfm;obtain ⟨la,lc,rfl,-,-,-⟩:=h.ls.sl.gen;replace h:=Lib.hid h
 cases act
 ·rw [if_neg (by simp)];rw [if_neg (by simp),show (((14:Nat)):Int) = 14 from rfl] at hR;replace hR:=Lib.hid hR;go_enter Tryz.func99,Tryz.ntmps99;go_wp2_with fail;refine hR.out.mono ?_;rintro e w1 ⟨rfl,n,rfl⟩;have hfin:VSure w A m s s 14 0 (.returned (errno 14)) (w.drewN n):=VSure.same (hk.out n).rep hrun (hmd.out n);replace hfin:=Lib.hid hfin;go_wp2;go_ret;exact hfin.out
 ·rw [if_pos rfl];rw [if_pos rfl,show (((0:Nat)):Int) = 0 from rfl] at hR;rw [← hxl];by_cases hbad:k < 0 ∨ (xs.length:Int) < k
  ·rw [if_pos hbad];refine hid2 ?_ hR hxl;clear hR hxl;intro hR hxl;by_cases h1:k < 0
   ·clear hbad;go_enter Tryz.func99,Tryz.ntmps99;go_wp2_with fail;refine hR.out.mono ?_;rintro e w1 ⟨rfl,n,rfl⟩;have hfin:VSure w A m s s 2 0 (.returned (errno 2)) (w.drewN n):=VSure.same (hk.out n).rep hrun (hmd.out n);have c5:(w.drewN n).cell? ⟨A.vb,5,none⟩ = some (.slice la xs.length lc):=(hk.out n).bv.cell 5;have cl:=(hk.out n).bv.lt;generalize w.drewN n = w1 at *;replace hfin:=Lib.hid hfin;go_wp2;go_ret;exact hfin.out
   ·have h2:(xs.length:Int) < k:=by omega
    clear hbad;go_enter Tryz.func99,Tryz.ntmps99;go_wp2_with fail;refine hR.out.mono ?_;rintro e w1 ⟨rfl,n,rfl⟩;have hfin:VSure w A m s s 2 0 (.returned (errno 2)) (w.drewN n):=VSure.same (hk.out n).rep hrun (hmd.out n);have c5:(w.drewN n).cell? ⟨A.vb,5,none⟩ = some (.slice la xs.length lc):=(hk.out n).bv.cell 5;have cl:=(hk.out n).bv.lt;generalize w.drewN n = w1 at *;replace hfin:=Lib.hid hfin;go_wp2;go_ret;exact hfin.out
  ·rw [if_neg hbad];obtain ⟨kn,rfl⟩:∃ kn:Nat,k = (kn:Int):=⟨k.toNat,by omega⟩;have hkn:kn≤xs.length:=by omega
   have h1:¬ (kn:Int) < 0:=by omega
   have h2:¬ (xs.length:Int) < kn:=by omega
   rw [show ((kn:Int)).toNat = kn from rfl];clear hbad;refine hid2 ?_ hR hxl;clear hR hxl;intro hR hxl;go_enter Tryz.func99,Tryz.ntmps99;go_wp2_with fail;refine hR.out.mono ?_;rintro e w1 ⟨rfl,n,rfl⟩;have h1V:=hk.out n;have hm1:=hmd.out n;generalize w.drewN n = w1 at *;have c5:w1.cell? ⟨A.vb,5,none⟩ = some (.slice la xs.length lc):=h1V.bv.cell 5;have cl:=h1V.bv.lt;obtain ⟨hrunS,hke⟩:=list_upto h1V.ls rfl hkn;have hlk:(xs.take kn).length = kn:=by rw [List.length_take];omega
   have hC:=Clone_chg hke.sl (vcs_one _ fun x hx=>hfm.out x (List.mem_of_mem_take hx)) (by rw [hlk];have:=hxl.out;omega);rw [hlk] at hC;refine hid5 ?_ hC h1V hm1 hke hlk;clear hC h1V hm1 hke hlk;intro hC h1V hm1 hke hlk;go_wp2_with fail;refine hC.out.mono ?_;rintro e w2 ⟨v2,rfl,hown,-,hm2⟩;obtain ⟨va,vc,rfl,-⟩:=owns_form hown;have h2V:=h1V.out.fresh hm2;have k4:w2.cell? ⟨A.vb,5,none⟩ = some (.slice la xs.length lc):=h2V.bv.cell 5;have kz:=h2V.bv.frozen;have kl:=h2V.bv.lt
   have hvc:VcSl w2 (.slice va kn vc) (xs.take kn):=by
    refine ⟨by rw [hlk.out];exact Sl.of_owns hown,fun x hx=>(hke.out.fresh hm2).data x hx⟩
   have hms:Mod (fun k=>k = A.vb) w2 (w2.setCell ⟨A.vb,5,none⟩ (.slice va kn vc)):=(Mod.refl (fun k=>k = A.vb) w2).setCell (p:=⟨A.vb,5,none⟩) (fun _=>rfl) _;have hVs:=h2V.set (ib':=ib) (bank':=bank) (end':=end_) (lv':=.slice va kn vc) (xs':=xs.take kn) (s':=⟨s.f,true,s.l.take kn⟩) hms ((h2V.bv.setCell 5 _).conv (by rw [hact.out];rfl)) h2V.bk h2V.im hvc (by rw [← h2V.xl];simp [recs]) (fun r hr=>h2V.ok r (List.mem_of_mem_take hr)) (fun e=>by cases e);have hfin:VSure w A m s ⟨s.f,true,s.l.take kn⟩ 0 0 (.returned (errno 0)) (w2.setCell ⟨A.vb,5,none⟩ (.slice va kn vc)):=VSure.same hVs.rep hrun ((hm1.out.trans hm2.nowhere).trans (hms.mono fun _ _ h=>.inl h));refine hid2 ?_ hfin h2V;clear hfin h2V;intro hfin h2V
   clear hVs hms hvc hown hm2 hC;go_wp2;go_ret;exact hfin.out
end Go.Proofs.YtjanpegbemepgaaGreat
/-
 The PINs: what a call leaves, also where the power is cut; the closures put$1 and Delete$1.
-/
namespace Go.Proofs.YtjanpegbemepgaaGreat
open Go.RowKit
open Jn Vn
attribute [local go_sem] Oper.semAt_some
def PC (D:Items→Prop) (w:World) (A:VAt) (m:Mem) (s':VSt) (er n:Nat) (e:Ending) (w':World):Prop :=
 (∃ m' k,e = .returned (errno er)∧VRep w' A m' s'∧k≤n∧Runs m m' k∧Mod A.S w w') ∨
 (∃ m' f,e = .returned (errno 7)∧D f∧VDead w' A m' f∧Stopped m m' n∧Mod A.S w w')
theorem VCall.pc {w w':World} {A:VAt} {m:Mem} {s s':VSt} {er n:Nat} {e:Ending} (h:VCall w A m s s' er n e w'):PC (fun f=>f = s.f ∨ f = s'.f) w A m s' er n e w':=h
section
variable {D D' : Items → Prop} {w w1 w' : World} {A : VAt} {m m1 : Mem} {s' : VSt} {er n k a b : Nat} {e : Ending}
theorem PC.mono (h:PC D w A m s' er a e w') (hD:∀ f,D f→D' f) (hn:a≤b):PC D' w A m s' er b e w':=by
 rcases h with ⟨m',k,a1,b1,c,d,f⟩ | ⟨m',g,a1,b1,c,d,f⟩
 ·exact .inl ⟨m',k,a1,b1,Nat.le_trans c hn,d,f⟩
 ·exact .inr ⟨m',g,a1,hD _ b1,c,d.mono hn,f⟩
theorem PC.after (hr:Runs m m1 k) (hk:k≤a) (hm:Mod A.S w w1) (h:PC D w1 A m1 s' er b e w'):PC D w A m s' er (a + b) e w':=by
 rcases h with ⟨m',j,a1,b1,c,d,f⟩ | ⟨m',g,a1,b1,c,d,f⟩
 ·exact .inl ⟨m',k + j,a1,b1,by omega,hr.trans d,hm.trans f⟩
 ·exact .inr ⟨m',g,a1,b1,c,hr.stopped d (by omega),hm.trans f⟩
theorem PC.from (hm:Mod A.S w w1) (h:PC D w1 A m s' er b e w'):PC D w A m s' er b e w':=by
 rcases h with ⟨m',j,a1,b1,c,d,f⟩ | ⟨m',g,a1,b1,c,d,f⟩
 ·exact .inl ⟨m',j,a1,b1,c,d,hm.trans f⟩
 ·exact .inr ⟨m',g,a1,b1,c,d,hm.trans f⟩
theorem PC.no (h:PC D w A m s' er n e w'):∃ q:Int,e = .returned (errno q):=by
 rcases h with ⟨_,_,e,_⟩ | ⟨_,_,e,_⟩ <;> exact ⟨_,e⟩
end
theorem VCall.modS {w w':World} {A:VAt} {m:Mem} {s s':VSt} {er n:Nat} {e:Ending} (hc:VCall w A m s s' er n e w'):Mod A.S w w':=by
 rcases hc with ⟨_,_,_,_,_,_,g⟩ | ⟨_,_,_,_,_,_,g⟩ <;> exact g
theorem vDel_len (Z:Nat) (s:VSt) (id:Int):(vDel Z s id).1.l.length≤s.l.length + 1:=by
 unfold vDel
 split
 ·split
  ·exact vChange_len _ _ _
  ·exact Nat.le_succ _
 ·exact Nat.le_succ _
theorem vPut_len (Z:Nat) (s:VSt) (id:Int) (d:List Nat):(vPut Z s id d).1.l.length≤s.l.length + 1:=by
 unfold vPut
 split
 ·exact vChange_len _ _ _
 ·exact Nat.le_succ _
theorem errno_inj {a b:Int} (h:Ending.returned (errno a) = .returned (errno b)):a = b:=by
 unfold errno at h
 injection h with h
 injection h
def delD (Z:Nat) (id:Nat) (s:VSt) (f:Items):Prop:=f = s.f ∨ f = (vDel Z s (16 + id:Nat)).1.f ∨ f = (pDelIn Z id s).1.f
set_option maxHeartbeats 8000000 in
theorem pinDel1_ok {w:World} {pb c0 c1:Nat} {A:VAt} {m:Mem} {s:VSt} {id:Nat} (hid:id≤1000) (hp:PnAt w pb A.vb) (h:VRep w A m s) (hxn:s.l.length≤100000) (hrm:Room m (vcost A + vcost A))
  {T0:TypeId} (h0:Blk w c0 [ptr pb] T0) (h1:Blk w c1 [.int .i64 id] 3) (n0:¬ A.S c0) (n1:¬ A.S c1) (np:¬ A.S pb) :
  Calls Tryz.prog 64 #[ptr c0,ptr c1] w (PC (delD A.Z id s) w A m (pDelIn A.Z id s).1 (pDelIn A.Z id s).2 (vcost A + vcost A)):=by
 have k0:=h0.cell 0;have k1:=h1.cell 0;have k2:=Blk.cell hp 0;simp only [List.getElem?_cons_zero] at k0 k1 k2;have l0:=h0.lt;have l1:=h1.lt;have l2:=Blk.lt hp;have a1:IntKind.i64.wrap (16 + (id:Int)) = ((16 + id:Nat):Int):=by rw [IntKind.wrap_i64];omega
 have a2:IntKind.i64.wrap (24 + (id:Int)) = ((24 + id:Nat):Int):=by rw [IntKind.wrap_i64];omega
 have hD1:=fun W (hm:Mod Nowhere w W)=>vDelete_ok (h.fresh hm) (by omega) ((16 + id:Nat):Int) (hrm.mono (Nat.le_add_right _ _));obtain ⟨q,hq⟩:∃ q,vDel A.Z s ((16 + id:Nat):Int) = q:=⟨_,rfl⟩
 have hbase:∀ w1,Mod Nowhere w w1→∀ e w2,VCall w1 A m s q.1 q.2 (vcost A) e w2→Mod A.S w w2:=fun w1 hm e w2 hc=>by
  rcases hc with ⟨_,_,_,_,_,_,g⟩ | ⟨_,_,_,_,_,_,g⟩
  ·exact hm.nowhere.trans g
  ·exact hm.nowhere.trans g
 have e16:((16 + id:Nat):Int) = 16 + (id:Int):=by omega
 have e24:((24 + id:Nat):Int) = 24 + (id:Int):=by omega
 rw [e16] at a1;rw [e24] at a2;simp only [hq] at hD1;rw [e16] at hD1;refine hid9 ?_ hD1 e16 e24 h hq h0 h1 hp hbase;clear hD1 e16 e24 h hq h0 h1 hp hbase;intro hD1 e16 e24 h hq h0 h1 hp hbase;go_enter Tryz.func64,Tryz.ntmps64;go_wp2
 go_region_held3 (fun w'=>w'.cell? ⟨c0,0,none⟩ = some (ptr pb)∧w'.cell? ⟨c1,0,none⟩ = some (.int .i64 id)∧w'.cell? ⟨pb,0,none⟩ = some (ptr A.vb)) (simp [*,World.cell?_alloc_some,World.cell?_setCell_far,World.cell?_setCell_other])
  (first | (go_at_call 65;(with_reducible refine (hD1.out _ ((Mod.refl _ w).drew)).mono ?_);rintro e w2 hc;obtain ⟨ne,rfl⟩:=hc.errno;have hb2:=hbase.out _ ((Mod.refl _ w).drew) _ _ hc;have k0:=(h0.out.mod hb2 n0).cell 0;have k1:=(h1.out.mod hb2 n1).cell 0;have k2:=Blk.cell (Blk.mod hp.out hb2 np) 0;(simp only [List.getElem?_cons_zero] at k0 k1 k2);replace hc:=Lib.hid hc;replace hb2:=Lib.hid hb2) | fail)
 rcases hc.out with ⟨m',k,e1,hv,hk,hr,hm⟩ | ⟨m',f,e1,hf,hd,hst,hm⟩
 ·replace hm:=hb2.out;obtain rfl:=errno_inj e1;have hln:=vDel_len A.Z s ((16 + id:Nat):Int);rw [hq.out] at hln;by_cases h0':q.2 = 0
  ·have hD2:=fun W (hm1:Mod Nowhere w2 W)=>vDelete_ok (hv.fresh hm1) (by omega) ((24 + id:Nat):Int) (hrm.runs hr (by omega));have hpd:pDelIn A.Z id s = vDel A.Z q.1 ((24 + id:Nat):Int):=by unfold pDelIn;rw [hq.out,if_pos h0']
   obtain ⟨r,hr2⟩:∃ r,vDel A.Z q.1 ((24 + id:Nat):Int) = r:=⟨_,rfl⟩;simp only [hr2] at hD2;rw [e24.out] at hD2;rw [h0'];have z0:(((0:Nat):Int) != 0) = false:=rfl;have lk0:=Nat.lt_of_lt_of_le l0 hm.size;have lk1:=Nat.lt_of_lt_of_le l1 hm.size;have lk2:=Nat.lt_of_lt_of_le l2 hm.size;have hdel:delD A.Z id s r.1.f:=by unfold delD;rw [hpd,hr2];exact .inr (.inr rfl)
   have hdel2:delD A.Z id s q.1.f:=by unfold delD;rw [hq.out];exact .inr (.inl rfl)
   refine hid9 ?_ hD2 hv hr hm hk hpd hr2 hdel hdel2;clear hD2 hv hr hm hk hpd hr2 hdel hdel2;intro hD2 hv hr hm hk hpd hr2 hdel hdel2;clear hc;go_wp2
   go_region_held3 (fun w'=>w'.cell? ⟨c0,0,none⟩ = some (ptr pb)∧w'.cell? ⟨c1,0,none⟩ = some (.int .i64 id)∧w'.cell? ⟨pb,0,none⟩ = some (ptr A.vb)) (simp [*,World.cell?_alloc_some,World.cell?_setCell_far,World.cell?_setCell_other])
    (first | (go_at_call 65;(with_reducible refine (hD2.out _ ((Mod.refl _ w2).drew)).mono ?_);rintro e w3 hc3;obtain ⟨ne,rfl⟩:=hc3.errno;have hb3:Mod A.S w w3:=hb2.out.trans ((Mod.refl A.S w2).drew.trans hc3.modS);have k0:=(h0.out.mod hb3 n0).cell 0;have k1:=(h1.out.mod hb3 n1).cell 0;have k2:=Blk.cell (Blk.mod hp.out hb3 np) 0;(simp only [List.getElem?_cons_zero] at k0 k1 k2);replace hc3:=Lib.hid hc3) | fail)
   go_wp2;go_ret;rw [hpd.out,hr2.out];exact ((VCall.pc hc3.out).mono (fun f hf=>by rcases hf with rfl | rfl;exact hdel2.out;exact hdel.out) (Nat.le_refl _) |>.from (Mod.refl A.S w2).drew).after hr.out hk.out hm.out
  ·have hz:(((q.2:Nat):Int) != 0) = true:=by simp;omega
   have hpd:pDelIn A.Z id s = q:=by unfold pDelIn;rw [hq.out,if_neg h0']
   have hfin:PC (delD A.Z id s) w A m (pDelIn A.Z id s).1 (pDelIn A.Z id s).2 (vcost A + vcost A) (.returned (errno q.2)) w2:=by rw [hpd];exact .inl ⟨m',k,rfl,hv,by omega,hr,hm⟩
   refine hid6 ?_ hfin hv hr hm hk hpd;clear hfin hv hr hm hk hpd;intro hfin hv hr hm hk hpd;clear hc;go_wp2;go_ret;exact hfin.out
 ·replace hm:=hb2.out;obtain rfl:=errno_inj e1;have hfin:PC (delD A.Z id s) w A m (pDelIn A.Z id s).1 (pDelIn A.Z id s).2 (vcost A + vcost A) (.returned (errno 7)) w2:=.inr ⟨m',f,rfl,by rcases hf with rfl | rfl;exact .inl rfl;exact .inr (.inl (by rw [hq.out])),hd,hst.mono (by omega),hm⟩;refine hid4 ?_ hfin hd hst hm;clear hfin hd hst hm;intro hfin hd hst hm;clear hc hf;go_wp2;go_ret;exact hfin.out
end Go.Proofs.YtjanpegbemepgaaGreat
/-
 The PINs: the closure put$1.
-/
namespace Go.Proofs.YtjanpegbemepgaaGreat
open Go.RowKit
open Jn Vn
attribute [local go_sem] Oper.semAt_some
def putD (Z:Nat) (d:PinD) (t u:Nat) (s:VSt) (f:Items):Prop:=f = s.f ∨ f = (vPut Z s (16 + d.id:Nat) (pinB d)).1.f ∨ f = (pPutIn Z d t u s).1.f
theorem bytes2 {t u:Nat} (ht:t≤15) (hu:u≤15):Bytes [t,u]:=by
 intro k
 match k with
 | 0=>show t < 256;omega
 | 1=>show u < 256;omega
 | k + 2=>show (0:Nat) < 256;omega
theorem src2 (W:World) (t u:Nat):Src (W.alloc (.cells #[.int .u8 (t:Int),.int .u8 (u:Int)] 5)) (.slice (some ⟨W.heap.size,0,none⟩) 2 2) [t,u] :=
 owns_Src (l:=[t,u]) (owns_new W [.int .u8 (t:Int),.int .u8 (u:Int)] 5 W.heap.size 2 (Nat.le_refl _) rfl (by unfold maxLen;decide)) rfl
set_option maxHeartbeats 16000000 in
theorem pinPut1_ok {w:World} {pb c0 c1 c2 c3:Nat} {A:VAt} {m:Mem} {s:VSt} {d:PinD} (hd:POk d) {u1 u2:Value} (hs1:Src w u1 d.value) (hs2:Src w u2 d.code) {t u:Nat} (ht:t≤15) (hu:u≤15) (hp:PnAt w pb A.vb) (h:VRep w A m s) (hxn:s.l.length≤100000) (hrm:Room m (vcost A + vcost A))
  {T0:TypeId} (h0:Blk w c0 [ptr pb] T0) (h1:Blk w c1 (pinCells d u1 u2) 35) (h2:Blk w c2 [.int .i64 t] 3) (h3:Blk w c3 [.int .i64 u] 3) (n0:¬ A.S c0) (n1:¬ A.S c1) (n2:¬ A.S c2) (n3:¬ A.S c3) (np:¬ A.S pb) :
  Calls Tryz.prog 69 #[ptr c0,ptr c1,ptr c2,ptr c3] w (PC (putD A.Z d t u s) w A m (pPutIn A.Z d t u s).1 (pPutIn A.Z d t u s).2 (vcost A + vcost A)):=by
 obtain ⟨xa,xc,rfl,-,-,-⟩:=id hs1;obtain ⟨ya,yc,rfl,-,-,-⟩:=id hs2;have hi8:=hd.i8;have hsh:=hd.short;have e16:((16 + d.id:Nat):Int) = 16 + (d.id:Int):=by omega
 have e24:((24 + d.id:Nat):Int) = 24 + (d.id:Int):=by omega
 have a1:IntKind.i64.wrap (16 + (d.id:Int)) = 16 + (d.id:Int):=by rw [IntKind.wrap_i64];omega
 have a2:IntKind.i64.wrap (24 + (d.id:Int)) = 24 + (d.id:Int):=by rw [IntKind.wrap_i64];omega
 have a3:IntKind.u8.wrap (t:Int) = t:=by rw [IntKind.wrap_u8];omega
 have a4:IntKind.u8.wrap (u:Int) = u:=by rw [IntKind.wrap_u8];omega
 have hE:∀ W,Mod Nowhere w W→Calls Tryz.prog 71 #[pinV d (.slice xa d.value.length xc) (.slice ya d.code.length yc)] W fun e w'=>∃ va vc,e = .returned (.slice va (pinB d).length vc)∧Src w' (.slice va (pinB d).length vc) (pinB d)∧Mod Nowhere W w':=fun W hm =>
  (pinEncode_ok hd (hs1.fresh hm) (hs2.fresh hm)).mono fun e w' ⟨va,vc,a,b,c⟩=>⟨va,vc,a,owns_Src b rfl,c⟩
 have hP1:∀ W v,Mod Nowhere w W→Src W v (pinB d)→Calls Tryz.prog 70 #[ptr A.vb,.int .i64 ((16 + d.id:Nat):Int),v] W (VCall W A m s (vPut A.Z s ((16 + d.id:Nat):Int) (pinB d)).1 (vPut A.Z s ((16 + d.id:Nat):Int) (pinB d)).2 (vcost A)):=fun W v hm hv =>
  vPutS_ok (h.fresh hm) (by omega) _ hv hd.bytes (by omega) (hrm.mono (Nat.le_add_right _ _))
 have hln:=vPut_len A.Z s ((16 + d.id:Nat):Int) (pinB d);obtain ⟨q,hq⟩:∃ q,vPut A.Z s ((16 + d.id:Nat):Int) (pinB d) = q:=⟨_,rfl⟩;simp only [hq] at hP1 hln;rw [e16] at hP1;unfold pinV at hE;have k0:=h0.cell 0;have kp:=Blk.cell hp 0;have k10:=h1.cell 0;have k11:=h1.cell 1;have k12:=h1.cell 2;have k13:=h1.cell 3;have k14:=h1.cell 4;have k15:=h1.cell 5;have k16:=h1.cell 6;simp only [pinCells,List.getElem?_cons_zero,List.getElem?_cons_succ] at k0 kp k10 k11 k12 k13 k14 k15 k16;have l0:=h0.lt;have l1:=h1.lt;have l2:=h2.lt;have l3:=h3.lt;have lp:=Blk.lt hp;obtain ⟨n,hn⟩:∃ n,(pinB d).length = n:=⟨_,rfl⟩
 simp only [hn] at hE hsh;refine hid12 ?_ hE hP1 h h0 h1 h2 h3 hp hq hd hs1 hs2;clear hE hP1 h h0 h1 h2 h3 hp hq hd hs1 hs2;intro hE hP1 h h0 h1 h2 h3 hp hq hd hs1 hs2;refine hid4 ?_ e16 e24 hn hln;clear e16 e24 hn hln;intro e16 e24 hn hln;go_enter Tryz.func69,Tryz.ntmps69;go_wp2
 go_region_held3 (fun w'=>w'.cell? ⟨c0,0,none⟩ = some (ptr pb)∧w'.cell? ⟨pb,0,none⟩ = some (ptr A.vb)∧w'.cell? ⟨c1,0,none⟩ = some (.int .i64 d.id)∧w'.cell? ⟨c1,1,none⟩ = some (.slice xa d.value.length xc)∧w'.cell? ⟨c1,2,none⟩ = some (.int .i64 d.limit)∧w'.cell? ⟨c1,3,none⟩ = some (.int .i64 d.lo)∧w'.cell? ⟨c1,4,none⟩ = some (.int .i64 d.hi)∧w'.cell? ⟨c1,5,none⟩ = some (.slice ya d.code.length yc)∧w'.cell? ⟨c1,6,none⟩ = some (.int .i64 d.cl)) (simp [*,World.cell?_alloc_some,World.cell?_setCell_far,World.cell?_setCell_other])
  (first
   | (go_at_call 71;(with_reducible refine (hE.out _ ((Mod.refl _ w).drew)).mono ?_);rintro e w2 ⟨va,vc,rfl,hsrc,hm2⟩;have hm2':Mod Nowhere w w2:=(Mod.refl Nowhere w).drew.trans hm2;have hcs:w2.cell? ⟨c0,0,none⟩ = some (ptr pb)∧w2.cell? ⟨pb,0,none⟩ = some (ptr A.vb)∧w2.cell? ⟨c1,0,none⟩ = some (.int .i64 d.id)∧w2.cell? ⟨c1,1,none⟩ = some (.slice xa d.value.length xc)∧w2.cell? ⟨c1,2,none⟩ = some (.int .i64 d.limit)∧w2.cell? ⟨c1,3,none⟩ = some (.int .i64 d.lo)∧w2.cell? ⟨c1,4,none⟩ = some (.int .i64 d.hi)∧w2.cell? ⟨c1,5,none⟩ = some (.slice ya d.code.length yc)∧w2.cell? ⟨c1,6,none⟩ = some (.int .i64 d.cl):=⟨(h0.out.mod hm2' (fun e=>e)).cell 0,Blk.cell (Blk.mod hp.out hm2' (fun e=>e)) 0,(h1.out.mod hm2' (fun e=>e)).cell 0,(h1.out.mod hm2' (fun e=>e)).cell 1,(h1.out.mod hm2' (fun e=>e)).cell 2,(h1.out.mod hm2' (fun e=>e)).cell 3,(h1.out.mod hm2' (fun e=>e)).cell 4,(h1.out.mod hm2' (fun e=>e)).cell 5,(h1.out.mod hm2' (fun e=>e)).cell 6⟩;replace hsrc:=Lib.hid hsrc;replace hm2:=Lib.hid hm2;replace hm2':=Lib.hid hm2')
   | (go_at_call 70;(with_reducible refine (hP1.out _ _ hm2'.out (by rw [← hn.out] at *;exact hsrc.out)).mono ?_);rintro e w3 hc;obtain ⟨ne,rfl⟩:=hc.errno;have hb3:Mod A.S w w3:=hm2'.out.nowhere.trans hc.modS;have hcs3:w3.cell? ⟨c0,0,none⟩ = some (ptr pb)∧w3.cell? ⟨pb,0,none⟩ = some (ptr A.vb)∧w3.cell? ⟨c1,0,none⟩ = some (.int .i64 d.id)∧w3.cell? ⟨c1,1,none⟩ = some (.slice xa d.value.length xc)∧w3.cell? ⟨c1,2,none⟩ = some (.int .i64 d.limit)∧w3.cell? ⟨c1,3,none⟩ = some (.int .i64 d.lo)∧w3.cell? ⟨c1,4,none⟩ = some (.int .i64 d.hi)∧w3.cell? ⟨c1,5,none⟩ = some (.slice ya d.code.length yc)∧w3.cell? ⟨c1,6,none⟩ = some (.int .i64 d.cl):=⟨(h0.out.mod hb3 n0).cell 0,Blk.cell (Blk.mod hp.out hb3 np) 0,(h1.out.mod hb3 n1).cell 0,(h1.out.mod hb3 n1).cell 1,(h1.out.mod hb3 n1).cell 2,(h1.out.mod hb3 n1).cell 3,(h1.out.mod hb3 n1).cell 4,(h1.out.mod hb3 n1).cell 5,(h1.out.mod hb3 n1).cell 6⟩;replace hc:=Lib.hid hc;replace hb3:=Lib.hid hb3)
   | fail)
 rcases hc.out with ⟨m',k,e1,hv,hk,hr,hm⟩ | ⟨m',f,e1,hf,hd',hst,hm⟩
 ·replace hm:=hb3.out;obtain rfl:=errno_inj e1;replace hln:=hln.out;by_cases h0':q.2 = 0
  ·have hP2:∀ W v,Mod Nowhere w3 W→Src W v [t,u]→Calls Tryz.prog 70 #[ptr A.vb,.int .i64 ((24 + d.id:Nat):Int),v] W (VCall W A m' q.1 (vPut A.Z q.1 ((24 + d.id:Nat):Int) [t,u]).1 (vPut A.Z q.1 ((24 + d.id:Nat):Int) [t,u]).2 (vcost A)):=fun W v hm1 hv1 =>
    vPutS_ok (hv.fresh hm1) (by omega) _ hv1 (bytes2 ht hu) (by show 2≤1099511627776;omega) (hrm.runs hr (by omega))
   have hpd:pPutIn A.Z d t u s = vPut A.Z q.1 ((24 + d.id:Nat):Int) [t,u]:=by unfold pPutIn;rw [hq.out,if_pos h0']
   obtain ⟨r,hr2⟩:∃ r,vPut A.Z q.1 ((24 + d.id:Nat):Int) [t,u] = r:=⟨_,rfl⟩;simp only [hr2] at hP2;rw [e24.out] at hP2;rw [h0'];have z0:(((0:Nat):Int) != 0) = false:=rfl;have lk0:=Nat.lt_of_lt_of_le l0 hm.size;have lk1:=Nat.lt_of_lt_of_le l1 hm.size;have lk2:=Nat.lt_of_lt_of_le l2 hm.size;have lk3:=Nat.lt_of_lt_of_le l3 hm.size;have lkp:=Nat.lt_of_lt_of_le lp hm.size;have kt:=(h2.out.mod hm n2).cell 0;have ku:=(h3.out.mod hm n3).cell 0;obtain ⟨j0,jp,j10,-⟩:=hcs3;simp only [List.getElem?_cons_zero] at kt ku;have hdel:putD A.Z d t u s r.1.f:=by unfold putD;rw [hpd,hr2];exact .inr (.inr rfl)
   have hdel2:putD A.Z d t u s q.1.f:=by unfold putD;rw [hq.out];exact .inr (.inl rfl)
   refine hid9 ?_ hP2 hv hr hm hk hpd hr2 hdel hdel2;clear hP2 hv hr hm hk hpd hr2 hdel hdel2;intro hP2 hv hr hm hk hpd hr2 hdel hdel2;clear hc hcs k0 kp k10 k11 k12 k13 k14 k15 k16;go_wp2
   go_region_held3 (fun w'=>w'.cell? ⟨c0,0,none⟩ = some (ptr pb)∧w'.cell? ⟨pb,0,none⟩ = some (ptr A.vb)∧w'.cell? ⟨c1,0,none⟩ = some (.int .i64 d.id)∧w'.cell? ⟨c2,0,none⟩ = some (.int .i64 t)∧w'.cell? ⟨c3,0,none⟩ = some (.int .i64 u)) (simp [*,World.cell?_alloc_some,World.cell?_setCell_far,World.cell?_setCell_other])
    (first | (go_at_call 70;(with_reducible refine (hP2.out _ _ (by first | exact ((Mod.refl _ w3).drew).alloc _ | exact ((Mod.refl _ w3).alloc _).drew) (by first | exact src2 _ _ _ | exact (src2 _ _ _).fresh ((Mod.refl _ _).drew))).mono ?_);rintro e w4 hc4;obtain ⟨ne,rfl⟩:=hc4.errno;have hb4:Mod A.S w w4:=(by first | exact hm.out.trans ((((Mod.refl A.S w3).drew).alloc _).trans hc4.modS) | exact hm.out.trans ((((Mod.refl A.S w3).alloc _).drew).trans hc4.modS));have hcs4:w4.cell? ⟨c0,0,none⟩ = some (ptr pb)∧w4.cell? ⟨pb,0,none⟩ = some (ptr A.vb)∧w4.cell? ⟨c1,0,none⟩ = some (.int .i64 d.id)∧w4.cell? ⟨c2,0,none⟩ = some (.int .i64 t)∧w4.cell? ⟨c3,0,none⟩ = some (.int .i64 u):=⟨(h0.out.mod hb4 n0).cell 0,Blk.cell (Blk.mod hp.out hb4 np) 0,(h1.out.mod hb4 n1).cell 0,(h2.out.mod hb4 n2).cell 0,(h3.out.mod hb4 n3).cell 0⟩;have hfr:PC (fun f=>f = q.1.f ∨ f = r.1.f) w3 A m' r.1 r.2 (vcost A) (.returned (errno ne)) w4:=(by first | exact (VCall.pc hc4).from (((Mod.refl A.S w3).drew).alloc _) | exact (VCall.pc hc4).from (((Mod.refl A.S w3).alloc _).drew));clear hc4;replace hfr:=Lib.hid hfr;replace hb4:=Lib.hid hb4) | fail)
   go_wp2;go_ret;rw [hpd.out,hr2.out];exact ((hfr.out).mono (fun f hf=>by rcases hf with rfl | rfl;exact hdel2.out;exact hdel.out) (Nat.le_refl _)).after hr.out hk.out hm.out
  ·have hz:(((q.2:Nat):Int) != 0) = true:=by simp;omega
   have hpd:pPutIn A.Z d t u s = q:=by unfold pPutIn;rw [hq.out,if_neg h0']
   have hfin:PC (putD A.Z d t u s) w A m (pPutIn A.Z d t u s).1 (pPutIn A.Z d t u s).2 (vcost A + vcost A) (.returned (errno q.2)) w3:=by rw [hpd];exact .inl ⟨m',k,rfl,hv,by omega,hr,hm⟩
   refine hid6 ?_ hfin hv hr hm hk hpd;clear hfin hv hr hm hk hpd;intro hfin hv hr hm hk hpd;clear hc hcs hcs3;go_wp2;go_ret;exact hfin.out
 ·replace hm:=hb3.out;obtain rfl:=errno_inj e1;have hfin:PC (putD A.Z d t u s) w A m (pPutIn A.Z d t u s).1 (pPutIn A.Z d t u s).2 (vcost A + vcost A) (.returned (errno 7)) w3:=.inr ⟨m',f,rfl,by rcases hf with rfl | rfl;exact .inl rfl;exact .inr (.inl (by rw [hq.out])),hd',hst.mono (by omega),hm⟩;refine hid4 ?_ hfin hd' hst hm;clear hfin hd' hst hm;intro hfin hd' hst hm;clear hc hf hcs hcs3;go_wp2;go_ret;exact hfin.out
end Go.Proofs.YtjanpegbemepgaaGreat
