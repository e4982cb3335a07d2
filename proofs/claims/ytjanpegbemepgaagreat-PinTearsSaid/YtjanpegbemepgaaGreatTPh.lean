/-
  The PINs: a guess.
-/
import Derived.Test.YtjanpegbemepgaaGreatTG34
import Derived.Laws.EntriesVeiled
set_option linter.unusedVariables false
set_option linter.unusedSimpArgs false
set_option maxRecDepth 100000
namespace Go.Proofs.YtjanpegbemepgaaGreat
open Go.RowKit
open Jn Vn
attribute [local go_sem] Oper.semAt_some
def PGd (D:Items→Prop) (w:World) (A:VAt) (m:Mem) (s':VSt) (left er n:Nat) (e:Ending) (w':World):Prop :=
 (∃ m' k,e = .returned (.tuple #[.int .i64 left,errno er])∧VRep w' A m' s'∧k≤n∧Runs m m' k∧Mod A.S w w') ∨
 (∃ m' f,e = .returned (.tuple #[.int .i64 0,errno 7])∧D f∧PGone w' A m' f∧Stopped m m' n∧Mod A.S w w')
theorem ret_guess {fn:Func} {p q:Tmp} (h:fn.results = #[.cell p 3,.cell q 32]) (tmps:Array Value) (w:World) (b8 be:Nat) (x y:Int) (hp:tmps.getD p undef = ptr b8) (hq:tmps.getD q undef = ptr be) (k8:w.cell? ⟨b8,0,none⟩ = some (.int .i64 x)) (ke:w.cell? ⟨be,0,none⟩ = some (errno y)) :
  (results fn tmps).run Tryz.prog w = .ok (.tuple #[.int .i64 x,errno y]) w:=by
 have hp':tmps[p]?.getD undef = ptr b8:=by simpa using hp
 have hq':tmps[q]?.getD undef = ptr be:=by simpa using hq
 unfold errno at ke ⊢;simp only [results,h];simp [Sem.run_bind,Result.andThen,hp',hq']
 go_simp
theorem setBoth {w:World} {b8 be:Nat} {x:Value} {y:Value} (h8:Blk w b8 [x] 3) (he:Blk w be [y] 32) (l:Int) (q:Int) :
  Blk ((w.setCell ⟨b8,0,none⟩ (.int .i64 l)).setCell ⟨be,0,none⟩ (errno q)) b8 [.int .i64 l] 3∧Blk ((w.setCell ⟨b8,0,none⟩ (.int .i64 l)).setCell ⟨be,0,none⟩ (errno q)) be [errno q] 32 ∧
  Mod (fun k=>k = b8 ∨ k = be) w ((w.setCell ⟨b8,0,none⟩ (.int .i64 l)).setCell ⟨be,0,none⟩ (errno q)):=by
 have hne:b8 ≠ be:=fun e=>by rw [e] at h8;exact absurd (h8.inj he).2 (by decide)
 have m1:Mod (fun k=>k = b8) w (w.setCell ⟨b8,0,none⟩ (.int .i64 l)):=(Mod.refl (fun k=>k = b8) w).setCell (p:=⟨b8,0,none⟩) (fun _=>rfl) _;have h81:Blk (w.setCell ⟨b8,0,none⟩ (.int .i64 l)) b8 [.int .i64 l] 3:=h8.setCell 0 (.int .i64 l);have he1:=he.mod m1 (fun e=>hne e.symm);have m2:Mod (fun k=>k = be) (w.setCell ⟨b8,0,none⟩ (.int .i64 l)) ((w.setCell ⟨b8,0,none⟩ (.int .i64 l)).setCell ⟨be,0,none⟩ (errno q)):=(Mod.refl (fun k=>k = be) _).setCell (p:=⟨be,0,none⟩) (fun _=>rfl) _;exact ⟨h81.mod m2 (fun e=>hne e),he1.setCell 0 (errno q),(m1.mono fun _ _ e=>.inl e).trans (m2.mono fun _ _ e=>.inr e)⟩
theorem VRep.setBoth {w:World} {A:VAt} {m:Mem} {s:VSt} {b8 be:Nat} {x y:Value} (h:VRep w A m s) (hA:A.count + 2≤A.frames) (h8:Blk w b8 [x] 3) (he:Blk w be [y] 32) (n8:¬ A.S b8) (l q:Int) :
  VRep ((w.setCell ⟨b8,0,none⟩ (.int .i64 l)).setCell ⟨be,0,none⟩ (errno q)) A m s:=by
 have hne:b8 ≠ be:=fun e=>by rw [e] at h8;exact absurd (h8.inj he).2 (by decide)
 have m1:Mod (fun k=>k = b8) w (w.setCell ⟨b8,0,none⟩ (.int .i64 l)):=(Mod.refl (fun k=>k = b8) w).setCell (p:=⟨b8,0,none⟩) (fun _=>rfl) _;have he1:=he.mod m1 (fun e=>hne e.symm);have m2:Mod (fun k=>k = be) (w.setCell ⟨b8,0,none⟩ (.int .i64 l)) ((w.setCell ⟨b8,0,none⟩ (.int .i64 l)).setCell ⟨be,0,none⟩ (errno q)):=(Mod.refl (fun k=>k = be) _).setCell (p:=⟨be,0,none⟩) (fun _=>rfl) _;exact (h.keepI hA m1 h8 n8).keepB m2 he1 (by decide)
theorem PGone.setBoth {w:World} {A:VAt} {m:Mem} {f:Items} {b8 be:Nat} {x y:Value} (h:PGone w A m f) (h8:Blk w b8 [x] 3) (he:Blk w be [y] 32) (n8:¬ A.S b8) (ne:¬ A.S be) (l q:Int) :
  PGone ((w.setCell ⟨b8,0,none⟩ (.int .i64 l)).setCell ⟨be,0,none⟩ (errno q)) A m f:=by
 have hne:b8 ≠ be:=fun e=>by rw [e] at h8;exact absurd (h8.inj he).2 (by decide)
 have m1:Mod (fun k=>k = b8) w (w.setCell ⟨b8,0,none⟩ (.int .i64 l)):=(Mod.refl (fun k=>k = b8) w).setCell (p:=⟨b8,0,none⟩) (fun _=>rfl) _;have he1:=he.mod m1 (fun e=>hne e.symm);have m2:Mod (fun k=>k = be) (w.setCell ⟨b8,0,none⟩ (.int .i64 l)) ((w.setCell ⟨b8,0,none⟩ (.int .i64 l)).setCell ⟨be,0,none⟩ (errno q)):=(Mod.refl (fun k=>k = be) _).setCell (p:=⟨be,0,none⟩) (fun _=>rfl) _;exact (h.keep m1 h8 (by decide) n8).keep m2 he1 (by decide) ne
theorem vNow_er (Z:Nat) (s:VSt) (id:Int) (d:List Nat):(vNow Z s id d).2 = 0 ∨ (vNow Z s id d).2 = 1 ∨ (vNow Z s id d).2 = 10 ∨ (vNow Z s id d).2 = 14:=by
 unfold vNow;by_cases h1:validB id d.length = true
 ·rw [if_pos h1];by_cases h2:(s.l.any fun r=>decide (((r.1:Nat):Int) = id)) = true
  ·rw [if_pos h2];exact .inr (.inr (.inr rfl))
  ·rw [if_neg h2];by_cases h3:Z / 2 < wt (set1 s.f (id.toNat,some d)) ∨ Z / 2 < wt (sets (set1 s.f (id.toNat,some d)) s.l)
   ·rw [if_pos h3];exact .inr (.inr (.inl rfl))
   ·rw [if_neg h3];exact .inl rfl
 ·rw [if_neg h1];exact .inr (.inl rfl)
theorem pNow_er (Z:Nat) (s:VSt) (id:Nat) (ub:Bool) (o n:Nat):(pNow Z s id ub o n).2 = 0 ∨ (pNow Z s id ub o n).2 = 1 ∨ (pNow Z s id ub o n).2 = 10 ∨ (pNow Z s id ub o n).2 = 14:=vNow_er _ _ _ _
theorem vNow_l (Z:Nat) (s:VSt) (id:Int) (d:List Nat):(vNow Z s id d).1.l = s.l:=by
 unfold vNow;by_cases h1:validB id d.length = true
 ·rw [if_pos h1];by_cases h2:(s.l.any fun r=>decide (((r.1:Nat):Int) = id)) = true
  ·rw [if_pos h2]
  ·rw [if_neg h2];by_cases h3:Z / 2 < wt (set1 s.f (id.toNat,some d)) ∨ Z / 2 < wt (sets (set1 s.f (id.toNat,some d)) s.l)
   ·rw [if_pos h3]
   ·rw [if_neg h3]
 ·rw [if_neg h1]
theorem boxes5 (w:World) (l0 l1 l2 l3 l4:List Value) (T0 T1 T2 T3 T4:TypeId) :
  ∃ W,((((w.alloc (.cells l0.toArray T0)).alloc (.cells l1.toArray T1)).alloc (.cells l2.toArray T2)).alloc (.cells l3.toArray T3)).alloc (.cells l4.toArray T4) = W ∧
  Blk W w.heap.size l0 T0∧Blk W (w.heap.size + 1) l1 T1∧Blk W (w.heap.size + 1 + 1) l2 T2∧Blk W (w.heap.size + 1 + 1 + 1) l3 T3∧Blk W (w.heap.size + 1 + 1 + 1 + 1) l4 T4∧Mod Nowhere w W∧W.heap.size = w.heap.size + 1 + 1 + 1 + 1 + 1:=by
 obtain ⟨b0,b1,b2,b3,hm⟩:=boxes4 w l0 l1 l2 l3 T0 T1 T2 T3;have hz:((((w.alloc (.cells l0.toArray T0)).alloc (.cells l1.toArray T1)).alloc (.cells l2.toArray T2)).alloc (.cells l3.toArray T3)).heap.size = w.heap.size + 1 + 1 + 1 + 1:=by simp
 generalize (((w.alloc (.cells l0.toArray T0)).alloc (.cells l1.toArray T1)).alloc (.cells l2.toArray T2)).alloc (.cells l3.toArray T3) = W4 at *;have b4:=Blk.new W4 l4 T4;have m4:Mod Nowhere W4 (W4.alloc (.cells l4.toArray T4)):=(Mod.refl _ W4).alloc _;rw [hz] at b4;exact ⟨_,rfl,b0.mod m4 (fun e=>e),b1.mod m4 (fun e=>e),b2.mod m4 (fun e=>e),b3.mod m4 (fun e=>e),b4,hm.trans m4,by simp [hz]⟩
set_option maxHeartbeats 16000000 in
theorem pinGuardV_ok {w:World} {pb:Nat} {A:VAt} {m:Mem} {s:VSt} {d:PinD} (hd:POk d) {u1 u2 ug:Value} {g:List Nat} (hs1:SrcS A w u1 d.value) (hs2:SrcS A w u2 d.code) (hg:SrcS A w ug g) (bg:Bytes g) (hA:A.count + 2≤A.frames) (hp:PnAt w pb A.vb) (h:VRep w A m s) (hxn:s.l.length≤90000) (hI:PInvF (view s)) (hrm:Room m (vcost A + vcost A)) :
  Calls Tryz.prog 43 #[ptr pb,pinV d u1 u2,.bool false,ug] w (PGd (fun f=>f ∈ (pGuard A.Z s d false g).mid) w A m (pGuard A.Z s d false g).s (pGuard A.Z s d false g).left (pGuard A.Z s d false g).e (vcost A + vcost A)):=by
 obtain ⟨xa,xc,rfl,-,-,-⟩:=hs1.src;obtain ⟨ya,yc,rfl,-,-,-⟩:=hs2.src;obtain ⟨ga,gc,rfl,-,-,-⟩:=hg.src;have hmf:∀ (fn:Fn) (first cap:Array Value) (w:World),(Instr.makeFunc fn first cap).run Tryz.prog w = .ok (.func fn first cap) w:=fun _ _ _ _=>rfl;have hT:=fun W (hm:Mod Nowhere w W)=>pinTries_ok (hp.fresh hm) (h.fresh hm) (by omega) hI hd.i1 hd.i8;have htr:=hI.tries hd.i1 hd.i8;obtain ⟨R,hR⟩:∃ R,pGuard A.Z s d false g = R:=⟨_,rfl⟩;rw [hR];unfold pinV;refine hid10 ?_ hT hs1 hs2 hg h hp hI hR hd htr;clear hT hs1 hs2 hg h hp hI hR hd htr;intro hT hs1 hs2 hg h hp hI hR hd htr;obtain ⟨W,hW,b0,b1,b2,b3,b4,hmW,hzW⟩:=boxes5 w [ptr pb] [.int .i64 d.id,.slice xa d.value.length xc,.int .i64 d.limit,.int .i64 d.lo,.int .i64 d.hi,.slice ya d.code.length yc,.int .i64 d.cl] [.bool false] [.int .i64 0] [errno 0] 26 35 4 3 32
 have q0:=b0.cell 0;have q10:=b1.cell 0;have q11:=b1.cell 1;have q12:=b1.cell 2;have q15:=b1.cell 5;have q16:=b1.cell 6;have q2:=b2.cell 0;simp only [List.getElem?_cons_zero,List.getElem?_cons_succ] at q0 q10 q11 q12 q15 q16 q2;have lw0:w.heap.size < W.heap.size:=by omega
 have lw1:w.heap.size + 1 < W.heap.size:=by omega
 have lw2:w.heap.size + 1 + 1 < W.heap.size:=by omega
 obtain ⟨B,hB⟩:∃ B,w.heap.size = B:=⟨_,rfl⟩;simp only [hB] at q0 q10 q11 q12 q15 q16 q2 lw0 lw1 lw2 b0 b1 b2 b3 b4 hzW;have lw4:B + 1 + 1 + 1 + 1 < W.heap.size:=by omega
 have lw3:B + 1 + 1 + 1 < W.heap.size:=by omega
 have m6:Mod Nowhere W (W.alloc (.cells #[.int .i64 d.limit] 3)).drew:=((Mod.refl _ W).alloc _).drew;have b5:Blk (W.alloc (.cells #[.int .i64 d.limit] 3)).drew W.heap.size [.int .i64 d.limit] 3:=(Blk.new W [.int .i64 d.limit] 3).mod ((Mod.refl Nowhere _).drew) (fun e=>e);have hT6:=hT.out _ (hmW.trans m6);obtain ⟨p1,hp1⟩:∃ x,(ptry (view s) d.id).1 = x:=⟨_,rfl⟩;obtain ⟨p2,hp2⟩:∃ x,(ptry (view s) d.id).2 = x:=⟨_,rfl⟩;simp only [hp1,hp2] at hT6;obtain ⟨W6,hW6⟩:∃ W6,(W.alloc (.cells #[.int .i64 d.limit] 3)).drew = W6:=⟨_,rfl⟩;simp only [hW6] at m6 b5 hT6;have e0:=b0.mod m6 (fun e=>e);have e1:=b1.mod m6 (fun e=>e)
 have e2:=b2.mod m6 (fun e=>e);have e3:=b3.mod m6 (fun e=>e);have e4:=b4.mod m6 (fun e=>e);have r0:=e0.cell 0;have r10:=e1.cell 0;have r15:=e1.cell 5;have r16:=e1.cell 6;have r2:=e2.cell 0;simp only [List.getElem?_cons_zero,List.getElem?_cons_succ] at r0 r10 r15 r16 r2;have lr0:=e0.lt;have lr1:=e1.lt;have lr2:=e2.lt;refine hid12 ?_ hW b0 b1 b2 b3 b4 hmW hzW hmf m6 b5 hT6;clear hW b0 b1 b2 b3 b4 hmW hzW hmf m6 b5 hT6;intro hW b0 b1 b2 b3 b4 hmW hzW hmf m6 b5 hT6;refine hid8 ?_ hp1 hp2 hW6 e0 e1 e2 e3 e4;clear hp1 hp2 hW6 e0 e1 e2 e3 e4;intro hp1 hp2 hW6 e0 e1 e2 e3 e4
 go_enter_defers Tryz.func43,Tryz.ntmps43
 go_wp2_with fail;rw [hW.out]
 go_region
 rw [hW6.out];clear q0 q10 q11 q12 q15 q16 q2 lw0 lw1 lw2 lw3 lw4;go_wp2_with fail;refine hT6.out.mono ?_;rintro e W7 ⟨rfl,m7⟩;have g0:=e0.out.mod m7 (fun e=>e);have g1:=e1.out.mod m7 (fun e=>e);have g2:=e2.out.mod m7 (fun e=>e);have g3:=e3.out.mod m7 (fun e=>e);have g4:=e4.out.mod m7 (fun e=>e);have g5:=b5.out.mod m7 (fun e=>e);have r0:=g0.cell 0;have r10:=g1.cell 0;have r15:=g1.cell 5;have r16:=g1.cell 6;have r2:=g2.cell 0;simp only [List.getElem?_cons_zero,List.getElem?_cons_succ] at r0 r10 r15 r16 r2;have lr0:=g0.lt;have lr1:=g1.lt;have lr2:=g2.lt;have hm07:Mod Nowhere w W7:=(hmW.out.trans m6.out).trans m7;have rp:=Blk.cell (hp.out.fresh hm07) 0
 simp only [List.getElem?_cons_zero] at rp;have lp:=Blk.lt (hp.out.fresh hm07);have bo8:=boxes2 W7 [.int .i64 (p2:Int)] [.func (.func 81) #[] #[ptr W7.heap.size,ptr (B + 1 + 1),ptr B,ptr (B + 1)]] 3 39;obtain ⟨W8,hW8⟩:∃ W8,(W7.alloc (.cells #[.int .i64 (p2:Int)] 3)).alloc (.cells #[.func (.func 81) #[] #[ptr W7.heap.size,ptr (B + 1 + 1),ptr B,ptr (B + 1)]] 39) = W8:=⟨_,rfl⟩;simp only [hW8] at bo8;obtain ⟨o8,f8,m8⟩:=bo8;have hm08:Mod Nowhere w W8:=hm07.trans m8;have i0:=g0.mod m8 (fun e=>e);have i1:=g1.mod m8 (fun e=>e);have i2:=g2.mod m8 (fun e=>e);have i3:=g3.mod m8 (fun e=>e);have i4:=g4.mod m8 (fun e=>e)
 have i5:=g5.mod m8 (fun e=>e);have hAc:=vActive_rep (h.out.fresh hm08);have hlt:=h.out.lt;simp only [hB] at hlt;have nS:∀ k,B≤k→¬ A.S k:=fun k hk e=>by have:=hlt k e;omega
 have hz7:B≤W7.heap.size:=by have:=hm07.size;omega
 have hNB:NowBox W8 A W7.heap.size (B + 1 + 1) B (B + 1) pb p2 false d.id:=fun V hV=>by
  have v0:=o8.mod hV (nS _ hz7);have v1:=i2.mod hV (nS _ (by omega));have v2:=i0.mod hV (nS _ (by omega));have v3:=i1.mod hV (nS _ (by omega));exact ⟨⟨v0.cell 0,v1.cell 0,v2.cell 0,v3.cell 0⟩,v0.lt,v1.lt,v2.lt,v3.lt⟩
 have hpW:=hp.out.fresh hm08;have hhW:=h.out.fresh hm08;have htr':=htr.out;rw [hp1.out,hp2.out] at htr';have hN:=fun V (hV:Mod Nowhere W8 V) n (hn:n≤15)=>pinNow1_ok hd.out.i8 hn htr'.2 (hpW.fresh hV) (hhW.fresh hV) hxn (hrm.mono (Nat.le_add_right _ _)) (hNB.mod hV.nowhere);have fcl:=fun V (hV:Mod A.S W8 V)=>(f8.mod hV (nS _ (by omega))).cell 0;have ffl:=fun V (hV:Mod A.S W8 V)=>(f8.mod hV (nS _ (by omega))).lt;simp only [List.getElem?_cons_zero] at fcl;refine hid12 ?_ m7 g0 g1 g2 g3 g4 g5 hm07 hW8 o8 f8 m8;clear m7 g0 g1 g2 g3 g4 g5 hm07 hW8 o8 f8 m8;intro m7 g0 g1 g2 g3 g4 g5 hm07 hW8 o8 f8 m8;refine hid12 ?_ hm08 i0 i1 i2 i3 i4 i5 hAc hNB hpW hhW htr';clear hm08 i0 i1 i2 i3 i4 i5 hAc hNB hpW hhW htr';intro hm08 i0 i1 i2 i3 i4 i5 hAc hNB hpW hhW htr'
 refine hid5 ?_ hN fcl ffl hlt nS;clear hN fcl ffl hlt nS;intro hN fcl ffl hlt nS;replace hmf:=hmf.out;by_cases ht:p1 = 0
 ·subst ht;go_wp2_with fail;rw [hW8.out];refine hAc.out.mono ?_;rintro e W9 ⟨rfl,m9⟩;have j3:=i3.out.mod m9 (fun e=>e);have j4:=i4.out.mod m9 (fun e=>e);have t3:=j3.cell 0;have t4:=j4.cell 0;simp only [List.getElem?_cons_zero] at t3 t4;have z3:=j3.frozen;have z4:=j4.frozen;have l3:=j3.lt;have l4:=j4.lt
  cases hact:s.act
  ·have hm09:=hm08.out.trans m9;obtain ⟨y3,y4,my⟩:=setBoth j3 j4 0 18
   have hmE:Mod Nowhere w ((W9.setCell ⟨B + 1 + 1 + 1,0,none⟩ (.int .i64 0)).setCell ⟨B + 1 + 1 + 1 + 1,0,none⟩ (errno 18)):=hm09.step my fun i hi e=>by
    rcases e with e | e <;> omega
   have hf:PGd (fun f=>f ∈ R.mid) w A m R.s R.left R.e (vcost A + vcost A) (.returned (.tuple #[.int .i64 0,errno 18])) ((W9.setCell ⟨B + 1 + 1 + 1,0,none⟩ (.int .i64 0)).setCell ⟨B + 1 + 1 + 1 + 1,0,none⟩ (errno 18)):=by
    have e:R = ⟨s,0,18,[]⟩:=by
     rw [← hR.out];unfold pGuard pSel;simp [hp1.out,hact]
    rw [e];exact .inl ⟨m,0,rfl,h.out.fresh hmE,Nat.zero_le _,by obtain ⟨P,p,pc,J,bank,end_,ib,lv,xs,hV⟩:=h.out.ex;exact hV.jr.runs,hmE.nowhere⟩
   have y3c:=y3.cell 0;have y4c:=y4.cell 0;simp only [List.getElem?_cons_zero] at y3c y4c;refine hid12 ?_ hf j3 j4 m9 hm09 hact y3 y4 my hmE y3c y4c;clear hf j3 j4 m9 hm09 hact y3 y4 my hmE y3c y4c;intro hf j3 j4 m9 hm09 hact y3 y4 my hmE y3c y4c;go_wp2;exact ⟨_,ret_guess rfl _ _ (B + 1 + 1 + 1) (B + 1 + 1 + 1 + 1) 0 18 rfl rfl y3c.out y4c.out,hf.out⟩
  ·have hN1:=hN.out W9 m9 0 (by omega);have fc:=fcl.out W9 m9.nowhere;have fl:=ffl.out W9 m9.nowhere;obtain ⟨q,hq⟩:∃ q,pNow A.Z s d.id false p2 0 = q:=⟨_,rfl⟩;have her:=pNow_er A.Z s d.id false p2 0;rw [hq] at hN1 her;refine hid7 ?_ hN1 her hq m9 j3 j4 hact;clear hN1 her hq m9 j3 j4 hact;intro hN1 her hq m9 j3 j4 hact;go_wp2_with fail;refine hN1.out.mono ?_;rintro e W10 hc;have hmS:=hc.modS;have k3:=j3.out.mod hmS (nS.out _ (by omega));have k4:=j4.out.mod hmS (nS.out _ (by omega));have t3:=k3.cell 0;have t4:=k4.cell 0;simp only [List.getElem?_cons_zero] at t3 t4;have z3:=k3.frozen;have z4:=k4.frozen
   have l3:=k3.lt;have l4:=k4.lt;have hm10:Mod A.S w W10:=(hm08.out.trans m9.out).nowhere.trans hmS
   have hE:∀ er:Int,Mod A.S w ((W10.setCell ⟨B + 1 + 1 + 1,0,none⟩ (.int .i64 0)).setCell ⟨B + 1 + 1 + 1 + 1,0,none⟩ (errno er)):=fun er=>hm10.step (setBoth k3 k4 0 er).2.2 fun i hi e=>by
    rcases e with e | e <;> omega
   rcases hc with ⟨m',k,e1,hv,hk,hr,hm⟩ | ⟨m',f,e1,hff,hdd,hst,hm⟩
   ·subst e1;by_cases h14:q.2 = 14
    ·obtain ⟨y3,y4,my⟩:=setBoth k3 k4 0 14
     have hf:PGd (fun f=>f ∈ R.mid) w A m R.s R.left R.e (vcost A + vcost A) (.returned (.tuple #[.int .i64 0,errno 14])) ((W10.setCell ⟨B + 1 + 1 + 1,0,none⟩ (.int .i64 0)).setCell ⟨B + 1 + 1 + 1 + 1,0,none⟩ (errno 14)):=by
      have e:R = ⟨q.1,0,14,[s.f,q.1.f]⟩:=by
       rw [← hR.out];unfold pGuard pSel;simp [hp1.out,hp2.out,hact.out,hq.out,h14]
      rw [e];exact .inl ⟨m',k,rfl,hv.setBoth hA k3 k4 (nS.out _ (by omega)) 0 14,by omega,hr,hE 14⟩
     have y3c:=y3.cell 0;have y4c:=y4.cell 0;simp only [List.getElem?_cons_zero] at y3c y4c;rw [h14];refine hid12 ?_ hf k3 k4 y3 y4 my y3c y4c hE hm10 hmS hv;clear hf k3 k4 y3 y4 my y3c y4c hE hm10 hmS hv;intro hf k3 k4 y3 y4 my y3c y4c hE hm10 hmS hv;refine hid4 ?_ hr hm hk her;clear hr hm hk her;intro hr hm hk her;go_wp2;exact ⟨_,ret_guess rfl _ _ (B + 1 + 1 + 1) (B + 1 + 1 + 1 + 1) 0 14 rfl rfl y3c.out y4c.out,hf.out⟩
    ·obtain ⟨y3,y4,my⟩:=setBoth k3 k4 0 18;have b14:(((q.2:Nat):Int) == 14) = false:=by simp;omega
     have b7:(((q.2:Nat):Int) == 7) = false:=by have:=her.out;simp;omega
     have hf:PGd (fun f=>f ∈ R.mid) w A m R.s R.left R.e (vcost A + vcost A) (.returned (.tuple #[.int .i64 0,errno 18])) ((W10.setCell ⟨B + 1 + 1 + 1,0,none⟩ (.int .i64 0)).setCell ⟨B + 1 + 1 + 1 + 1,0,none⟩ (errno 18)):=by
      have e:R = ⟨q.1,0,18,[s.f,q.1.f]⟩:=by
       rw [← hR.out];unfold pGuard pSel;simp [hp1.out,hp2.out,hact.out,hq.out,h14]
      rw [e];exact .inl ⟨m',k,rfl,hv.setBoth hA k3 k4 (nS.out _ (by omega)) 0 18,by omega,hr,hE 18⟩
     have y3c:=y3.cell 0;have y4c:=y4.cell 0;simp only [List.getElem?_cons_zero] at y3c y4c;refine hid12 ?_ hf k3 k4 y3 y4 my y3c y4c hE hm10 hmS hv;clear hf k3 k4 y3 y4 my y3c y4c hE hm10 hmS hv;intro hf k3 k4 y3 y4 my y3c y4c hE hm10 hmS hv;refine hid4 ?_ hr hm hk her;clear hr hm hk her;intro hr hm hk her;go_wp2;exact ⟨_,ret_guess rfl _ _ (B + 1 + 1 + 1) (B + 1 + 1 + 1 + 1) 0 18 rfl rfl y3c.out y4c.out,hf.out⟩
   ·subst e1;obtain ⟨y3,y4,my⟩:=setBoth k3 k4 0 7
    have hf:PGd (fun f=>f ∈ R.mid) w A m R.s R.left R.e (vcost A + vcost A) (.returned (.tuple #[.int .i64 0,errno 7])) ((W10.setCell ⟨B + 1 + 1 + 1,0,none⟩ (.int .i64 0)).setCell ⟨B + 1 + 1 + 1 + 1,0,none⟩ (errno 7)):=by
     refine .inr ⟨m',f,rfl,?_,(PGone.of hdd).setBoth k3 k4 (nS.out _ (by omega)) (nS.out _ (by omega)) 0 7,hst.mono (by omega),hE 7⟩
     have e:R.mid = [s.f,q.1.f]:=by
      rw [← hR.out];unfold pGuard pSel;by_cases h14:q.2 = 14
      ·simp [hp1.out,hp2.out,hact.out,hq.out,h14]
      ·simp [hp1.out,hp2.out,hact.out,hq.out,h14]
     rw [e];rcases hff with rfl | rfl
     ·exact List.mem_cons_self ..
     ·exact List.mem_cons_of_mem _ (List.mem_cons_self ..)
    have y3c:=y3.cell 0;have y4c:=y4.cell 0;simp only [List.getElem?_cons_zero] at y3c y4c;refine hid12 ?_ hf k3 k4 y3 y4 my y3c y4c hE hm10 hmS hdd;clear hf k3 k4 y3 y4 my y3c y4c hE hm10 hmS hdd;intro hf k3 k4 y3 y4 my y3c y4c hE hm10 hmS hdd;refine hid3 ?_ hst hm her;clear hst hm her;intro hst hm her;clear hff;go_wp2;exact ⟨_,ret_guess rfl _ _ (B + 1 + 1 + 1) (B + 1 + 1 + 1 + 1) 0 7 rfl rfl y3c.out y4c.out,hf.out⟩
 ·have hb0:(((p1:Nat):Int) == 0) = false:=by simp;omega
  have hsub:IntKind.i64.wrap ((p1:Int) - 1) = (p1:Int) - 1:=by have:=htr'.out.1;rw [IntKind.wrap_i64];omega
  have esub:((p1 - 1:Nat):Int) = (p1:Int) - 1:=by omega
  have hN1:=hN.out W8 (Mod.refl _ _) (p1 - 1) (by have:=htr'.out.1;omega);have fc:=fcl.out W8 (Mod.refl _ _);have fl:=ffl.out W8 (Mod.refl _ _);obtain ⟨q,hq⟩:∃ q,pNow A.Z s d.id false p2 (p1 - 1) = q:=⟨_,rfl⟩;have her:=pNow_er A.Z s d.id false p2 (p1 - 1);rw [hq] at hN1 her;rw [esub] at hN1;refine hid4 ?_ hN1 her hq esub;clear hN1 her hq esub;intro hN1 her hq esub;go_wp2_with fail;rw [hW8.out];refine hN1.out.mono ?_;rintro e W10 hc;have hmS:=hc.modS;have k3:=i3.out.mod hmS (nS.out _ (by omega));have k4:=i4.out.mod hmS (nS.out _ (by omega));have t3:=k3.cell 0;have t4:=k4.cell 0;simp only [List.getElem?_cons_zero] at t3 t4
  have z3:=k3.frozen;have z4:=k4.frozen;have l3:=k3.lt;have l4:=k4.lt;have hm10:Mod A.S w W10:=hm08.out.nowhere.trans hmS
  have hE:∀ er:Int,Mod A.S w ((W10.setCell ⟨B + 1 + 1 + 1,0,none⟩ (.int .i64 0)).setCell ⟨B + 1 + 1 + 1 + 1,0,none⟩ (errno er)):=fun er=>hm10.step (setBoth k3 k4 0 er).2.2 fun i hi e=>by
   rcases e with e | e <;> omega
  rcases hc with ⟨m',k,e1,hv,hk,hr,hm⟩ | ⟨m',f,e1,hff,hdd,hst,hm⟩
  ·subst e1;by_cases h0:q.2 = 0
   ·rw [h0];have mb:Mod Nowhere W10 (W10.alloc (.cells #[.bool false] 4)):=(Mod.refl _ W10).alloc _;have bC:=Blk.new W10 [.bool false] 4;have hm11:Mod A.S w (W10.alloc (.cells #[.bool false] 4)):=hm10.trans mb.nowhere;have hQ:=bEqual_ok (hg.out _ hm11) (hs1.out _ hm11) bg hd.out.bv;refine hid12 ?_ mb bC hm11 hQ hE hm10 hmS hv hr hm hk her;clear mb bC hm11 hQ hE hm10 hmS hv hr hm hk her;intro mb bC hm11 hQ hE hm10 hmS hv hr hm hk her;refine hid2 ?_ k3 k4;clear k3 k4;intro k3 k4;go_wp2_with fail;refine hQ.out.mono ?_;rintro e W12 ⟨rfl,m12⟩;by_cases hgd:g = d.value
    ·rw [decide_eq_true hgd];have hC10:B + 1 + 1 + 1 + 1 < W10.heap.size:=k4.out.lt;have hW810:W8.heap.size≤W10.heap.size:=hmS.out.size;have mC:Mod (fun k=>k = W10.heap.size) W12 (W12.setCell ⟨W10.heap.size,0,none⟩ (.bool true)):=(Mod.refl (fun k=>k = W10.heap.size) W12).setCell (p:=⟨W10.heap.size,0,none⟩) (fun _=>rfl) _;have bC12:=bC.out.mod m12 (fun e=>e);have bCt:Blk (W12.setCell ⟨W10.heap.size,0,none⟩ (.bool true)) W10.heap.size [.bool true] 4:=bC12.setCell 0 (.bool true);have a3:=((k3.out.mod mb.out (fun e=>e)).mod m12 (fun e=>e)).mod mC (fun e=>by have e:B + 1 + 1 + 1 = W10.heap.size:=e;omega);have a4:=((k4.out.mod mb.out (fun e=>e)).mod m12 (fun e=>e)).mod mC (fun e=>by have e:B + 1 + 1 + 1 + 1 = W10.heap.size:=e;omega)
     have a5:=((i5.out.mod hmS.out (nS.out _ (by have:=hzW.out;omega))).mod mb.out (fun e=>e)).mod m12 (fun e=>e);have tC:=bC12.cell 0;have t3:=((k3.out.mod mb.out (fun e=>e)).mod m12 (fun e=>e)).cell 0;have t4:=((k4.out.mod mb.out (fun e=>e)).mod m12 (fun e=>e)).cell 0;have t5:=a5.cell 0;simp only [List.getElem?_cons_zero] at tC t3 t4 t5;have zC:=bC12.frozen;have z3:=((k3.out.mod mb.out (fun e=>e)).mod m12 (fun e=>e)).frozen;have z4:=((k4.out.mod mb.out (fun e=>e)).mod m12 (fun e=>e)).frozen;have lC:=bC12.lt;have l3:=((k3.out.mod mb.out (fun e=>e)).mod m12 (fun e=>e)).lt;have l4:=((k4.out.mod mb.out (fun e=>e)).mod m12 (fun e=>e)).lt
     have l5:=a5.lt;have hne5:W.heap.size ≠ W10.heap.size:=by have:=i5.out.lt;omega
     obtain ⟨y3,y4,my⟩:=setBoth a3 a4 (d.limit:Int) 0;have hz74:B + 1 + 1 + 1 + 1 < W7.heap.size:=g4.out.lt;have hpB:pb < B:=by have:=Blk.lt hp.out;omega
     have np:=hp.out.notS h.out;obtain ⟨Wf,hWf⟩:∃ Wf,((W12.setCell ⟨W10.heap.size,0,none⟩ (.bool true)).setCell ⟨B + 1 + 1 + 1,0,none⟩ (.int .i64 (d.limit:Int))).setCell ⟨B + 1 + 1 + 1 + 1,0,none⟩ (errno 0) = Wf:=⟨_,rfl⟩;have hvf:=(((hv.out.fresh mb.out).fresh m12).keepB mC bC12 (by decide)).setBoth hA a3 a4 (nS.out _ (by omega)) (d.limit:Int) 0;rw [hWf] at y3 y4 my hvf;have cy:∀ (b:Nat) (cs:List Value) (T:TypeId),Blk W8 b cs T→B≤b→b ≠ B + 1 + 1 + 1→b ≠ B + 1 + 1 + 1 + 1→Blk Wf b cs T:=fun b cs T hb h1 h2 h3=>((((hb.mod hmS.out (nS.out _ h1)).mod mb.out (fun e=>e)).mod m12 (fun e=>e)).mod mC (fun e=>by have:=hb.lt;have e:b = W10.heap.size:=e;omega)).mod my (fun e=>by rcases e with e | e;exact h2 e;exact h3 e);have hpf:PnAt Wf pb A.vb:=Blk.mod (Blk.mod (Blk.mod (Blk.mod (Blk.mod hpW.out hmS.out np) mb.out (fun e=>e)) m12 (fun e=>e)) mC (fun e=>by have e:pb = W10.heap.size:=e;omega)) my (fun e=>by rcases e with e | e <;> omega)
     have hNBf:NowBox Wf A W7.heap.size (B + 1 + 1) B (B + 1) pb p2 false d.id:=fun V hV=>by
      have v0:=(cy _ _ _ o8.out (by omega) (by omega) (by omega)).mod hV (nS.out _ (by omega));have v1:=(cy _ _ _ i2.out (by omega) (by omega) (by omega)).mod hV (nS.out _ (by omega));have v2:=(cy _ _ _ i0.out (by omega) (by omega) (by omega)).mod hV (nS.out _ (by omega));have v3:=(cy _ _ _ i1.out (by omega) (by omega) (by omega)).mod hV (nS.out _ (by omega));exact ⟨⟨v0.cell 0,v1.cell 0,v2.cell 0,v3.cell 0⟩,v0.lt,v1.lt,v2.lt,v3.lt⟩
     have bf:=cy _ _ _ f8.out (by omega) (by omega) (by omega);have bl:=cy _ _ _ i5.out (by have:=hzW.out;omega) (by have:=hzW.out;omega) (by have:=hzW.out;omega);have bCf:=bCt.mod my (fun e=>by rcases e with e | e <;> omega);have hql:q.1.l.length≤90000:=by rw [← hq.out];unfold pNow;rw [vNow_l];exact hxn
     have hG:=pinG2_yes (u:=.returning) hd.out.i8 hd.out.l15 htr'.out.2 hA hpf hvf hql (hrm.runs hr.out (by have:=hk.out;omega)) hNBf (bCf.cell 0) bCf.lt (bf.cell 0) bf.lt (bl.cell 0) bl.lt y4 y3 (nS.out _ (by omega)) (nS.out _ (by omega));obtain ⟨r,hr2⟩:∃ r,pNow A.Z q.1 d.id false p2 d.limit = r:=⟨_,rfl⟩;rw [hr2] at hG
     have hmf3:Mod A.S w Wf:=((hm11.out.trans m12.nowhere).step mC fun i hi e=>by
      have e:i = W10.heap.size:=e
      omega).step my fun i hi e=>by
       rcases e with e | e <;> omega
     refine hid12 ?_ m12 a3 a4 y3 y4 my mC bCt bC12 a5 cy hpf;clear m12 a3 a4 y3 y4 my mC bCt bC12 a5 cy hpf;intro m12 a3 a4 y3 y4 my mC bCt bC12 a5 cy hpf;refine hid9 ?_ hNBf bf bl bCf hG hvf hmf3 hWf hr2;clear hNBf bf bl bCf hG hvf hmf3 hWf hr2;intro hNBf bf bl bCf hG hvf hmf3 hWf hr2;go_wp2;refine leaves_cons (f:=84) (args:=#[ptr W10.heap.size,ptr (W7.heap.size + 1),ptr W.heap.size,ptr (B + 1 + 1 + 1 + 1),ptr (B + 1 + 1 + 1)]) (by simp) (by simp [go_sem]) ?_;rw [show ((W12.setCell ⟨W10.heap.size,0,none⟩ (.bool true)).setCell ⟨B + 1 + 1 + 1,0,none⟩ (.int .i64 (d.limit:Int))).setCell ⟨B + 1 + 1 + 1 + 1,0,none⟩ (.int .i64 0) = Wf from hWf.out];refine hG.out.mono ?_
     rintro e u' V ⟨rfl,rfl,q2,hpost,v4,v3,hmV⟩;have x3:=v3.cell 0;have x4:=v4.cell 0;simp only [List.getElem?_cons_zero] at x3 x4
     have hmV':Mod A.S w V:=hmf3.out.step hmV fun i hi e=>by
      rcases e with e | e | e
      ·exact e
      ·omega
      ·omega
     refine ⟨_,ret_guess rfl _ _ (B + 1 + 1 + 1) (B + 1 + 1 + 1 + 1) _ q2 rfl rfl x3 x4,?_⟩
     have hRR:R = if r.2 = 0 then ⟨r.1,d.limit,0,[s.f,q.1.f,r.1.f]⟩ else ⟨r.1,0,r.2,[s.f,q.1.f,r.1.f]⟩:=by
      rw [← hR.out];unfold pGuard pSel pVal pLim;simp [hp1.out,hp2.out,hq.out,h0,ht,hgd,hr2.out]
     rcases hpost with ⟨m2,k2,rfl,hv2,hk2,hrr2⟩ | ⟨m2,f2,rfl,hf2,hg2,hst2⟩
     ·by_cases hr0:r.2 = 0
      ·rw [if_pos hr0] at hRR;rw [hRR];exact .inl ⟨m2,k + k2,by rw [hr0];rfl,hv2,by have:=hk.out;omega,hr.out.trans hrr2,hmV'⟩
      ·rw [if_neg hr0] at hRR;rw [hRR];exact .inl ⟨m2,k + k2,by rw [if_neg (by omega)];rfl,hv2,by have:=hk.out;omega,hr.out.trans hrr2,hmV'⟩
     ·refine .inr ⟨m2,f2,rfl,?_,hg2,hr.out.stopped hst2 (by have:=hk.out;omega),hmV'⟩
      have e:q.1.f ∈ R.mid∧r.1.f ∈ R.mid:=by
       rw [hRR]
       split <;> simp
      rcases hf2 with rfl | rfl
      ·exact e.1
      ·exact e.2
    ·rw [decide_eq_false hgd];have a3:=(k3.out.mod mb.out (fun e=>e)).mod m12 (fun e=>e);have a4:=(k4.out.mod mb.out (fun e=>e)).mod m12 (fun e=>e);have t3:=a3.cell 0;have t4:=a4.cell 0;simp only [List.getElem?_cons_zero] at t3 t4;have z3:=a3.frozen;have z4:=a4.frozen;have l3:=a3.lt;have l4:=a4.lt;obtain ⟨y3,y4,my⟩:=setBoth a3 a4 ((p1:Int) - 1) 17;have hC10:B + 1 + 1 + 1 + 1 < W10.heap.size:=k4.out.lt;have bCf:=(bC.out.mod m12 (fun e=>e)).mod my (fun e=>by rcases e with e | e <;> omega);have cC:=bCf.cell 0;simp only [List.getElem?_cons_zero] at cC;have hG:=pinG2_no (u:=.returning) (br:=W10.heap.size) (bf:=W7.heap.size + 1) (bl:=W.heap.size) (be:=B + 1 + 1 + 1 + 1) (b8:=B + 1 + 1 + 1) cC bCf.lt
     have hvf:VRep ((W12.setCell ⟨B + 1 + 1 + 1,0,none⟩ (.int .i64 ((p1:Int) - 1))).setCell ⟨B + 1 + 1 + 1 + 1,0,none⟩ (errno 17)) A m' q.1 :=
      ((hv.out.fresh mb.out).fresh m12).setBoth hA a3 a4 (nS.out _ (by omega)) _ 17
     have hmf2:Mod A.S w ((W12.setCell ⟨B + 1 + 1 + 1,0,none⟩ (.int .i64 ((p1:Int) - 1))).setCell ⟨B + 1 + 1 + 1 + 1,0,none⟩ (errno 17)):=(hm11.out.trans m12.nowhere).step my fun i hi e=>by
      rcases e with e | e <;> omega
     have hf:∀ V,Mod Nowhere ((W12.setCell ⟨B + 1 + 1 + 1,0,none⟩ (.int .i64 ((p1:Int) - 1))).setCell ⟨B + 1 + 1 + 1 + 1,0,none⟩ (errno 17)) V→PGd (fun f=>f ∈ R.mid) w A m R.s R.left R.e (vcost A + vcost A) (.returned (.tuple #[.int .i64 ((p1:Int) - 1),errno 17])) V:=by
      intro V hV
      have e:R = ⟨q.1,p1 - 1,17,[s.f,q.1.f]⟩:=by
       rw [← hR.out];unfold pGuard pSel pVal;simp [hp1.out,hp2.out,hq.out,h0,ht,hgd]
      rw [e];exact .inl ⟨m',k,by rw [← esub.out];rfl,hvf.fresh hV,by have:=hk.out;omega,hr.out,hmf2.trans hV.nowhere⟩
     refine hid11 ?_ m12 a3 a4 y3 y4 my bCf hvf hmf2 hf hG;clear m12 a3 a4 y3 y4 my bCf hvf hmf2 hf hG;intro m12 a3 a4 y3 y4 my bCf hvf hmf2 hf hG;go_wp2;refine leaves_cons (f:=84) (args:=#[ptr W10.heap.size,ptr (W7.heap.size + 1),ptr W.heap.size,ptr (B + 1 + 1 + 1 + 1),ptr (B + 1 + 1 + 1)]) (by simp) (by simp [go_sem]) ?_;refine hG.out.mono ?_;rintro e u' V ⟨rfl,rfl,hV⟩;have x3:=(y3.out.mod hV (fun e=>e)).cell 0;have x4:=(y4.out.mod hV (fun e=>e)).cell 0;simp only [List.getElem?_cons_zero] at x3 x4;exact ⟨_,ret_guess rfl _ _ (B + 1 + 1 + 1) (B + 1 + 1 + 1 + 1) _ 17 rfl rfl x3 x4,hf.out V hV⟩
   ·obtain ⟨y3,y4,my⟩:=setBoth k3 k4 0 q.2;have b0:(((q.2:Nat):Int) != 0) = true:=by simp;omega
    have hf:PGd (fun f=>f ∈ R.mid) w A m R.s R.left R.e (vcost A + vcost A) (.returned (.tuple #[.int .i64 0,errno q.2])) ((W10.setCell ⟨B + 1 + 1 + 1,0,none⟩ (.int .i64 0)).setCell ⟨B + 1 + 1 + 1 + 1,0,none⟩ (errno q.2)):=by
     have e:R = ⟨q.1,0,q.2,[s.f,q.1.f]⟩:=by
      rw [← hR.out];unfold pGuard pSel;simp [hp1.out,hp2.out,hq.out,h0,ht]
     rw [e];exact .inl ⟨m',k,rfl,hv.setBoth hA k3 k4 (nS.out _ (by omega)) 0 q.2,by omega,hr,hE q.2⟩
    have y3c:=y3.cell 0;have y4c:=y4.cell 0;simp only [List.getElem?_cons_zero] at y3c y4c;refine hid12 ?_ hf k3 k4 y3 y4 my y3c y4c hE hm10 hmS hv;clear hf k3 k4 y3 y4 my y3c y4c hE hm10 hmS hv;intro hf k3 k4 y3 y4 my y3c y4c hE hm10 hmS hv;refine hid4 ?_ hr hm hk her;clear hr hm hk her;intro hr hm hk her;go_wp2;exact ⟨_,ret_guess rfl _ _ (B + 1 + 1 + 1) (B + 1 + 1 + 1 + 1) 0 q.2 rfl rfl y3c.out y4c.out,hf.out⟩
  ·subst e1;obtain ⟨y3,y4,my⟩:=setBoth k3 k4 0 7
   have hf:PGd (fun f=>f ∈ R.mid) w A m R.s R.left R.e (vcost A + vcost A) (.returned (.tuple #[.int .i64 0,errno 7])) ((W10.setCell ⟨B + 1 + 1 + 1,0,none⟩ (.int .i64 0)).setCell ⟨B + 1 + 1 + 1 + 1,0,none⟩ (errno 7)):=by
    refine .inr ⟨m',f,rfl,?_,(PGone.of hdd).setBoth k3 k4 (nS.out _ (by omega)) (nS.out _ (by omega)) 0 7,hst.mono (by omega),hE 7⟩
    have e:s.f ∈ R.mid∧q.1.f ∈ R.mid:=by
     rw [← hR.out];unfold pGuard pSel;simp only [hp1.out,hp2.out,hq.out,if_neg ht,Bool.false_eq_true,if_false]
     split
     ·split
      ·split <;> simp
      ·simp
     ·simp
    rcases hff with rfl | rfl
    ·exact e.1
    ·exact e.2
   have y3c:=y3.cell 0;have y4c:=y4.cell 0;simp only [List.getElem?_cons_zero] at y3c y4c;refine hid12 ?_ hf k3 k4 y3 y4 my y3c y4c hE hm10 hmS hdd;clear hf k3 k4 y3 y4 my y3c y4c hE hm10 hmS hdd;intro hf k3 k4 y3 y4 my y3c y4c hE hm10 hmS hdd;refine hid3 ?_ hst hm her;clear hst hm her;intro hst hm her;clear hff;go_wp2;exact ⟨_,ret_guess rfl _ _ (B + 1 + 1 + 1) (B + 1 + 1 + 1 + 1) 0 7 rfl rfl y3c.out y4c.out,hf.out⟩
set_option maxHeartbeats 16000000 in
theorem pinGuardU_ok {w:World} {pb:Nat} {A:VAt} {m:Mem} {s:VSt} {d:PinD} (hd:POk d) {u1 u2 ug:Value} {g:List Nat} (hs1:SrcS A w u1 d.value) (hs2:SrcS A w u2 d.code) (hg:SrcS A w ug g) (bg:Bytes g) (hA:A.count + 2≤A.frames) (hp:PnAt w pb A.vb) (h:VRep w A m s) (hxn:s.l.length≤90000) (hI:PInvF (view s)) (hrm:Room m (vcost A + vcost A)) :
  Calls Tryz.prog 43 #[ptr pb,pinV d u1 u2,.bool true,ug] w (PGd (fun f=>f ∈ (pGuard A.Z s d true g).mid) w A m (pGuard A.Z s d true g).s (pGuard A.Z s d true g).left (pGuard A.Z s d true g).e (vcost A + vcost A)):=by
 obtain ⟨xa,xc,rfl,-,-,-⟩:=hs1.src;obtain ⟨ya,yc,rfl,-,-,-⟩:=hs2.src;obtain ⟨ga,gc,rfl,-,-,-⟩:=hg.src;have hmf:∀ (fn:Fn) (first cap:Array Value) (w:World),(Instr.makeFunc fn first cap).run Tryz.prog w = .ok (.func fn first cap) w:=fun _ _ _ _=>rfl;have hT:=fun W (hm:Mod Nowhere w W)=>pinTries_ok (hp.fresh hm) (h.fresh hm) (by omega) hI hd.i1 hd.i8;have htr:=hI.tries hd.i1 hd.i8;obtain ⟨R,hR⟩:∃ R,pGuard A.Z s d true g = R:=⟨_,rfl⟩;rw [hR];unfold pinV;refine hid10 ?_ hT hs1 hs2 hg h hp hI hR hd htr;clear hT hs1 hs2 hg h hp hI hR hd htr;intro hT hs1 hs2 hg h hp hI hR hd htr;obtain ⟨W,hW,b0,b1,b2,b3,b4,hmW,hzW⟩:=boxes5 w [ptr pb] [.int .i64 d.id,.slice xa d.value.length xc,.int .i64 d.limit,.int .i64 d.lo,.int .i64 d.hi,.slice ya d.code.length yc,.int .i64 d.cl] [.bool true] [.int .i64 0] [errno 0] 26 35 4 3 32
 have q0:=b0.cell 0;have q10:=b1.cell 0;have q11:=b1.cell 1;have q12:=b1.cell 2;have q15:=b1.cell 5;have q16:=b1.cell 6;have q2:=b2.cell 0;simp only [List.getElem?_cons_zero,List.getElem?_cons_succ] at q0 q10 q11 q12 q15 q16 q2;have lw0:w.heap.size < W.heap.size:=by omega
 have lw1:w.heap.size + 1 < W.heap.size:=by omega
 have lw2:w.heap.size + 1 + 1 < W.heap.size:=by omega
 obtain ⟨B,hB⟩:∃ B,w.heap.size = B:=⟨_,rfl⟩;simp only [hB] at q0 q10 q11 q12 q15 q16 q2 lw0 lw1 lw2 b0 b1 b2 b3 b4 hzW;have lw4:B + 1 + 1 + 1 + 1 < W.heap.size:=by omega
 have lw3:B + 1 + 1 + 1 < W.heap.size:=by omega
 have m6:Mod Nowhere W (W.alloc (.cells #[.int .i64 d.limit] 3)).drew:=((Mod.refl _ W).alloc _).drew;have b5:Blk (W.alloc (.cells #[.int .i64 d.limit] 3)).drew W.heap.size [.int .i64 d.limit] 3:=(Blk.new W [.int .i64 d.limit] 3).mod ((Mod.refl Nowhere _).drew) (fun e=>e);have hT6:=hT.out _ (hmW.trans m6);obtain ⟨p1,hp1⟩:∃ x,(ptry (view s) d.id).1 = x:=⟨_,rfl⟩;obtain ⟨p2,hp2⟩:∃ x,(ptry (view s) d.id).2 = x:=⟨_,rfl⟩;simp only [hp1,hp2] at hT6;obtain ⟨W6,hW6⟩:∃ W6,(W.alloc (.cells #[.int .i64 d.limit] 3)).drew = W6:=⟨_,rfl⟩;simp only [hW6] at m6 b5 hT6;have e0:=b0.mod m6 (fun e=>e);have e1:=b1.mod m6 (fun e=>e)
 have e2:=b2.mod m6 (fun e=>e);have e3:=b3.mod m6 (fun e=>e);have e4:=b4.mod m6 (fun e=>e);have r0:=e0.cell 0;have r10:=e1.cell 0;have r15:=e1.cell 5;have r16:=e1.cell 6;have r2:=e2.cell 0;simp only [List.getElem?_cons_zero,List.getElem?_cons_succ] at r0 r10 r15 r16 r2;have lr0:=e0.lt;have lr1:=e1.lt;have lr2:=e2.lt;refine hid12 ?_ hW b0 b1 b2 b3 b4 hmW hzW hmf m6 b5 hT6;clear hW b0 b1 b2 b3 b4 hmW hzW hmf m6 b5 hT6;intro hW b0 b1 b2 b3 b4 hmW hzW hmf m6 b5 hT6;refine hid8 ?_ hp1 hp2 hW6 e0 e1 e2 e3 e4;clear hp1 hp2 hW6 e0 e1 e2 e3 e4;intro hp1 hp2 hW6 e0 e1 e2 e3 e4
 go_enter_defers Tryz.func43,Tryz.ntmps43
 go_wp2_with fail;rw [hW.out]
 go_region
 rw [hW6.out];clear q0 q10 q11 q12 q15 q16 q2 lw0 lw1 lw2 lw3 lw4;go_wp2_with fail;refine hT6.out.mono ?_;rintro e W7 ⟨rfl,m7⟩;have g0:=e0.out.mod m7 (fun e=>e);have g1:=e1.out.mod m7 (fun e=>e);have g2:=e2.out.mod m7 (fun e=>e);have g3:=e3.out.mod m7 (fun e=>e);have g4:=e4.out.mod m7 (fun e=>e);have g5:=b5.out.mod m7 (fun e=>e);have r0:=g0.cell 0;have r10:=g1.cell 0;have r15:=g1.cell 5;have r16:=g1.cell 6;have r2:=g2.cell 0;have r5:=g5.cell 0;simp only [List.getElem?_cons_zero,List.getElem?_cons_succ] at r0 r10 r15 r16 r2 r5;have r5z:=g5.frozen;have lr0:=g0.lt;have lr1:=g1.lt
 have lr2:=g2.lt;have lr5:=g5.lt;have hm07:Mod Nowhere w W7:=(hmW.out.trans m6.out).trans m7;have rp:=Blk.cell (hp.out.fresh hm07) 0;simp only [List.getElem?_cons_zero] at rp;have lp:=Blk.lt (hp.out.fresh hm07);have hlt:=h.out.lt;simp only [hB] at hlt;have nS:∀ k,B≤k→¬ A.S k:=fun k hk e=>by have:=hlt k e;omega
 have hz7:B≤W7.heap.size:=by have:=hm07.size;omega
 have mL:Mod (fun k=>k = W.heap.size) W7 (W7.setCell ⟨W.heap.size,0,none⟩ (.int .i64 d.cl)):=(Mod.refl (fun k=>k = W.heap.size) W7).setCell (p:=⟨W.heap.size,0,none⟩) (fun _=>rfl) _;have q5:Blk (W7.setCell ⟨W.heap.size,0,none⟩ (.int .i64 d.cl)) W.heap.size [.int .i64 d.cl] 3:=g5.setCell 0 (.int .i64 d.cl);have zL:(W7.setCell ⟨W.heap.size,0,none⟩ (.int .i64 d.cl)).heap.size = W7.heap.size:=by simp
 obtain ⟨WL,hWL⟩:∃ WL,W7.setCell ⟨W.heap.size,0,none⟩ (.int .i64 d.cl) = WL:=⟨_,rfl⟩;rw [hWL] at mL q5 zL;have mX:Mod Nowhere WL (WL.alloc (.cells #[.int .i64 (p2:Int)] 3)).drew:=((Mod.refl _ WL).alloc _).drew
 have oX:Blk (WL.alloc (.cells #[.int .i64 (p2:Int)] 3)).drew W7.heap.size [.int .i64 (p2:Int)] 3:=by
  rw [← zL];exact (Blk.new WL [.int .i64 (p2:Int)] 3).mod ((Mod.refl Nowhere _).drew) (fun e=>e)
 have zX:(WL.alloc (.cells #[.int .i64 (p2:Int)] 3)).drew.heap.size = W7.heap.size + 1:=by simp [zL]
 obtain ⟨X,hX⟩:∃ X,(WL.alloc (.cells #[.int .i64 (p2:Int)] 3)).drew = X:=⟨_,rfl⟩;rw [hX] at mX oX zX;have xo:=oX.cell 0;simp only [List.getElem?_cons_zero] at xo;have xoz:=oX.frozen;have xol:=oX.lt;have cX:∀ (b:Nat) (cs:List Value) (T:TypeId),Blk W7 b cs T→b ≠ W.heap.size→Blk X b cs T:=fun b cs T hb h1=>(hb.mod mL (fun e=>h1 e)).mod mX (fun e=>e);have hzW':B + 1 + 1 + 1 + 1 < W.heap.size:=by have:=hzW.out;omega
 have hX0:=cX _ _ _ g0 (by omega);have hX1:=cX _ _ _ g1 (by omega);have hX2:=cX _ _ _ g2 (by omega);have x0:=hX0.cell 0;have x10:=hX1.cell 0;have x2:=hX2.cell 0;simp only [List.getElem?_cons_zero,List.getElem?_cons_succ] at x0 x10 x2;have lx0:=hX0.lt;have lx1:=hX1.lt;have lx2:=hX2.lt;have hm0X:Mod Nowhere w X:=(hm07.newb mL (by omega)).trans mX;have rpX:=Blk.cell (hp.out.fresh hm0X) 0;simp only [List.getElem?_cons_zero] at rpX;have lpX:=Blk.lt (hp.out.fresh hm0X);have mY:Mod (fun k=>k = W7.heap.size) X (X.setCell ⟨W7.heap.size,0,none⟩ (.int .i64 (p1:Int))):=(Mod.refl (fun k=>k = W7.heap.size) X).setCell (p:=⟨W7.heap.size,0,none⟩) (fun _=>rfl) _;have oY:Blk (X.setCell ⟨W7.heap.size,0,none⟩ (.int .i64 (p1:Int))) W7.heap.size [.int .i64 (p1:Int)] 3:=oX.setCell 0 (.int .i64 (p1:Int))
 have zY:(X.setCell ⟨W7.heap.size,0,none⟩ (.int .i64 (p1:Int))).heap.size = W7.heap.size + 1:=by simp [zX]
 obtain ⟨Y,hY⟩:∃ Y,X.setCell ⟨W7.heap.size,0,none⟩ (.int .i64 (p1:Int)) = Y:=⟨_,rfl⟩;rw [hY] at mY oY zY;have mZ:Mod Nowhere Y (Y.alloc (.cells #[.func (.func 81) #[] #[ptr W7.heap.size,ptr (B + 1 + 1),ptr B,ptr (B + 1)]] 39)):=(Mod.refl _ Y).alloc _
 have f8:Blk (Y.alloc (.cells #[.func (.func 81) #[] #[ptr W7.heap.size,ptr (B + 1 + 1),ptr B,ptr (B + 1)]] 39)) (W7.heap.size + 1) [.func (.func 81) #[] #[ptr W7.heap.size,ptr (B + 1 + 1),ptr B,ptr (B + 1)]] 39:=by
  rw [← zY];exact Blk.new Y _ _
 obtain ⟨W8,hW8⟩:∃ W8,Y.alloc (.cells #[.func (.func 81) #[] #[ptr W7.heap.size,ptr (B + 1 + 1),ptr B,ptr (B + 1)]] 39) = W8:=⟨_,rfl⟩;rw [hW8] at mZ f8;have o8:=oY.mod mZ (fun e=>e);have hW7':W.heap.size < W7.heap.size:=lr5;have hm08:Mod Nowhere w W8:=(((hm07.newb mL (by omega)).trans mX).newb mY (by omega)).trans mZ;have cx:∀ (b:Nat) (cs:List Value) (T:TypeId),Blk W7 b cs T→b ≠ W.heap.size→Blk W8 b cs T:=fun b cs T hb h1=>(((hb.mod mL (fun e=>h1 e)).mod mX (fun e=>e)).mod mY (fun e=>by have:=hb.lt;have e:b = W7.heap.size:=e;omega)).mod mZ (fun e=>e);have i0:=cx _ _ _ g0 (by omega)
 have i1:=cx _ _ _ g1 (by omega);have i2:=cx _ _ _ g2 (by omega);have i3:=cx _ _ _ g3 (by omega);have i4:=cx _ _ _ g4 (by omega);have i5:=(((q5.mod mX (fun e=>e)).mod mY (fun e=>by have e:W.heap.size = W7.heap.size:=e;omega)).mod mZ (fun e=>e));have hneB:B ≠ W7.heap.size:=by omega
 have hneB1:B + 1 ≠ W7.heap.size:=by omega
 have hneB2:B + 1 + 1 ≠ W7.heap.size:=by omega
 have hneP:pb ≠ W7.heap.size:=by have:=Blk.lt hp.out;omega
 have m8:=True.intro;refine hid12 ?_ hWL hX hY mL mX mY mZ q5 oX oY cx zL;clear hWL hX hY mL mX mY mZ q5 oX oY cx zL;intro hWL hX hY mL mX mY mZ q5 oX oY cx zL;refine hid7 ?_ zY hz7 cX hX0 hX1 hX2 hm0X;clear zY hz7 cX hX0 hX1 hX2 hm0X;intro zY hz7 cX hX0 hX1 hX2 hm0X;go_wp2_with fail
 go_region
 rw [hWL.out,hX.out];clear r5 r5z lr5 r0 r10 r15 r16 r2 lr0 lr1 lr2 rp lp;have hAc:=vActive_rep (h.out.fresh hm08);replace hz7:=hz7.out
 have hNB:NowBox W8 A W7.heap.size (B + 1 + 1) B (B + 1) pb p1 true d.id:=fun V hV=>by
  have v0:=o8.mod hV (nS _ hz7);have v1:=i2.mod hV (nS _ (by omega));have v2:=i0.mod hV (nS _ (by omega));have v3:=i1.mod hV (nS _ (by omega));exact ⟨⟨v0.cell 0,v1.cell 0,v2.cell 0,v3.cell 0⟩,v0.lt,v1.lt,v2.lt,v3.lt⟩
 have hpW:=hp.out.fresh hm08;have hhW:=h.out.fresh hm08;have htr':=htr.out;rw [hp1.out,hp2.out] at htr';have hN:=fun V (hV:Mod Nowhere W8 V) n (hn:n≤15)=>pinNow1_ok hd.out.i8 hn htr'.1 (hpW.fresh hV) (hhW.fresh hV) hxn (hrm.mono (Nat.le_add_right _ _)) (hNB.mod hV.nowhere);have fcl:=fun V (hV:Mod A.S W8 V)=>(f8.mod hV (nS _ (by omega))).cell 0;have ffl:=fun V (hV:Mod A.S W8 V)=>(f8.mod hV (nS _ (by omega))).lt;simp only [List.getElem?_cons_zero] at fcl;refine hid12 ?_ m7 g0 g1 g2 g3 g4 g5 hm07 hW8 o8 f8 m8;clear m7 g0 g1 g2 g3 g4 g5 hm07 hW8 o8 f8 m8;intro m7 g0 g1 g2 g3 g4 g5 hm07 hW8 o8 f8 m8;refine hid12 ?_ hm08 i0 i1 i2 i3 i4 i5 hAc hNB hpW hhW htr';clear hm08 i0 i1 i2 i3 i4 i5 hAc hNB hpW hhW htr';intro hm08 i0 i1 i2 i3 i4 i5 hAc hNB hpW hhW htr'
 refine hid5 ?_ hN fcl ffl hlt nS;clear hN fcl ffl hlt nS;intro hN fcl ffl hlt nS;replace hmf:=hmf.out;by_cases ht:p2 = 0
 ·subst ht
  go_upto_region 8 with (fail)
  rw [hY.out,hW8.out];have z0:=i0.out.cell 0;have zl:=i0.out.lt;have zp:=Blk.cell (hp.out.fresh hm08.out) 0;simp only [List.getElem?_cons_zero] at z0 zp;have zpl:=Blk.lt (hp.out.fresh hm08.out);go_wp2_with fail;refine hAc.out.mono ?_;rintro e W9 ⟨rfl,m9⟩;have j3:=i3.out.mod m9 (fun e=>e);have j4:=i4.out.mod m9 (fun e=>e);have t3:=j3.cell 0;have t4:=j4.cell 0;simp only [List.getElem?_cons_zero] at t3 t4;have z3:=j3.frozen;have z4:=j4.frozen;have l3:=j3.lt;have l4:=j4.lt
  cases hact:s.act
  ·have hm09:=hm08.out.trans m9;obtain ⟨y3,y4,my⟩:=setBoth j3 j4 0 18
   have hmE:Mod Nowhere w ((W9.setCell ⟨B + 1 + 1 + 1,0,none⟩ (.int .i64 0)).setCell ⟨B + 1 + 1 + 1 + 1,0,none⟩ (errno 18)):=hm09.step my fun i hi e=>by
    rcases e with e | e <;> omega
   have hf:PGd (fun f=>f ∈ R.mid) w A m R.s R.left R.e (vcost A + vcost A) (.returned (.tuple #[.int .i64 0,errno 18])) ((W9.setCell ⟨B + 1 + 1 + 1,0,none⟩ (.int .i64 0)).setCell ⟨B + 1 + 1 + 1 + 1,0,none⟩ (errno 18)):=by
    have e:R = ⟨s,0,18,[]⟩:=by
     rw [← hR.out];unfold pGuard pSel;simp [hp2.out,hact]
    rw [e];exact .inl ⟨m,0,rfl,h.out.fresh hmE,Nat.zero_le _,by obtain ⟨P,p,pc,J,bank,end_,ib,lv,xs,hV⟩:=h.out.ex;exact hV.jr.runs,hmE.nowhere⟩
   have y3c:=y3.cell 0;have y4c:=y4.cell 0;simp only [List.getElem?_cons_zero] at y3c y4c;refine hid12 ?_ hf j3 j4 m9 hm09 hact y3 y4 my hmE y3c y4c;clear hf j3 j4 m9 hm09 hact y3 y4 my hmE y3c y4c;intro hf j3 j4 m9 hm09 hact y3 y4 my hmE y3c y4c;go_wp2;exact ⟨_,ret_guess rfl _ _ (B + 1 + 1 + 1) (B + 1 + 1 + 1 + 1) 0 18 rfl rfl y3c.out y4c.out,hf.out⟩
  ·have hN1:=hN.out W9 m9 0 (by omega);have fc:=fcl.out W9 m9.nowhere;have fl:=ffl.out W9 m9.nowhere;obtain ⟨q,hq⟩:∃ q,pNow A.Z s d.id true p1 0 = q:=⟨_,rfl⟩;have her:=pNow_er A.Z s d.id true p1 0;rw [hq] at hN1 her;refine hid7 ?_ hN1 her hq m9 j3 j4 hact;clear hN1 her hq m9 j3 j4 hact;intro hN1 her hq m9 j3 j4 hact;go_wp2_with fail;refine hN1.out.mono ?_;rintro e W10 hc;have hmS:=hc.modS;have k3:=j3.out.mod hmS (nS.out _ (by omega));have k4:=j4.out.mod hmS (nS.out _ (by omega));have t3:=k3.cell 0;have t4:=k4.cell 0;simp only [List.getElem?_cons_zero] at t3 t4;have z3:=k3.frozen;have z4:=k4.frozen
   have l3:=k3.lt;have l4:=k4.lt;have hm10:Mod A.S w W10:=(hm08.out.trans m9.out).nowhere.trans hmS
   have hE:∀ er:Int,Mod A.S w ((W10.setCell ⟨B + 1 + 1 + 1,0,none⟩ (.int .i64 0)).setCell ⟨B + 1 + 1 + 1 + 1,0,none⟩ (errno er)):=fun er=>hm10.step (setBoth k3 k4 0 er).2.2 fun i hi e=>by
    rcases e with e | e <;> omega
   rcases hc with ⟨m',k,e1,hv,hk,hr,hm⟩ | ⟨m',f,e1,hff,hdd,hst,hm⟩
   ·subst e1;by_cases h14:q.2 = 14
    ·obtain ⟨y3,y4,my⟩:=setBoth k3 k4 0 14
     have hf:PGd (fun f=>f ∈ R.mid) w A m R.s R.left R.e (vcost A + vcost A) (.returned (.tuple #[.int .i64 0,errno 14])) ((W10.setCell ⟨B + 1 + 1 + 1,0,none⟩ (.int .i64 0)).setCell ⟨B + 1 + 1 + 1 + 1,0,none⟩ (errno 14)):=by
      have e:R = ⟨q.1,0,14,[s.f,q.1.f]⟩:=by
       rw [← hR.out];unfold pGuard pSel;simp [hp1.out,hp2.out,hact.out,hq.out,h14]
      rw [e];exact .inl ⟨m',k,rfl,hv.setBoth hA k3 k4 (nS.out _ (by omega)) 0 14,by omega,hr,hE 14⟩
     have y3c:=y3.cell 0;have y4c:=y4.cell 0;simp only [List.getElem?_cons_zero] at y3c y4c;rw [h14];refine hid12 ?_ hf k3 k4 y3 y4 my y3c y4c hE hm10 hmS hv;clear hf k3 k4 y3 y4 my y3c y4c hE hm10 hmS hv;intro hf k3 k4 y3 y4 my y3c y4c hE hm10 hmS hv;refine hid4 ?_ hr hm hk her;clear hr hm hk her;intro hr hm hk her;go_wp2;exact ⟨_,ret_guess rfl _ _ (B + 1 + 1 + 1) (B + 1 + 1 + 1 + 1) 0 14 rfl rfl y3c.out y4c.out,hf.out⟩
    ·obtain ⟨y3,y4,my⟩:=setBoth k3 k4 0 18;have b14:(((q.2:Nat):Int) == 14) = false:=by simp;omega
     have b7:(((q.2:Nat):Int) == 7) = false:=by have:=her.out;simp;omega
     have hf:PGd (fun f=>f ∈ R.mid) w A m R.s R.left R.e (vcost A + vcost A) (.returned (.tuple #[.int .i64 0,errno 18])) ((W10.setCell ⟨B + 1 + 1 + 1,0,none⟩ (.int .i64 0)).setCell ⟨B + 1 + 1 + 1 + 1,0,none⟩ (errno 18)):=by
      have e:R = ⟨q.1,0,18,[s.f,q.1.f]⟩:=by
       rw [← hR.out];unfold pGuard pSel;simp [hp1.out,hp2.out,hact.out,hq.out,h14]
      rw [e];exact .inl ⟨m',k,rfl,hv.setBoth hA k3 k4 (nS.out _ (by omega)) 0 18,by omega,hr,hE 18⟩
     have y3c:=y3.cell 0;have y4c:=y4.cell 0;simp only [List.getElem?_cons_zero] at y3c y4c;refine hid12 ?_ hf k3 k4 y3 y4 my y3c y4c hE hm10 hmS hv;clear hf k3 k4 y3 y4 my y3c y4c hE hm10 hmS hv;intro hf k3 k4 y3 y4 my y3c y4c hE hm10 hmS hv;refine hid4 ?_ hr hm hk her;clear hr hm hk her;intro hr hm hk her;go_wp2;exact ⟨_,ret_guess rfl _ _ (B + 1 + 1 + 1) (B + 1 + 1 + 1 + 1) 0 18 rfl rfl y3c.out y4c.out,hf.out⟩
   ·subst e1;obtain ⟨y3,y4,my⟩:=setBoth k3 k4 0 7
    have hf:PGd (fun f=>f ∈ R.mid) w A m R.s R.left R.e (vcost A + vcost A) (.returned (.tuple #[.int .i64 0,errno 7])) ((W10.setCell ⟨B + 1 + 1 + 1,0,none⟩ (.int .i64 0)).setCell ⟨B + 1 + 1 + 1 + 1,0,none⟩ (errno 7)):=by
     refine .inr ⟨m',f,rfl,?_,(PGone.of hdd).setBoth k3 k4 (nS.out _ (by omega)) (nS.out _ (by omega)) 0 7,hst.mono (by omega),hE 7⟩
     have e:R.mid = [s.f,q.1.f]:=by
      rw [← hR.out];unfold pGuard pSel;by_cases h14:q.2 = 14
      ·simp [hp1.out,hp2.out,hact.out,hq.out,h14]
      ·simp [hp1.out,hp2.out,hact.out,hq.out,h14]
     rw [e];rcases hff with rfl | rfl
     ·exact List.mem_cons_self ..
     ·exact List.mem_cons_of_mem _ (List.mem_cons_self ..)
    have y3c:=y3.cell 0;have y4c:=y4.cell 0;simp only [List.getElem?_cons_zero] at y3c y4c;refine hid12 ?_ hf k3 k4 y3 y4 my y3c y4c hE hm10 hmS hdd;clear hf k3 k4 y3 y4 my y3c y4c hE hm10 hmS hdd;intro hf k3 k4 y3 y4 my y3c y4c hE hm10 hmS hdd;refine hid3 ?_ hst hm her;clear hst hm her;intro hst hm her;clear hff;go_wp2;exact ⟨_,ret_guess rfl _ _ (B + 1 + 1 + 1) (B + 1 + 1 + 1 + 1) 0 7 rfl rfl y3c.out y4c.out,hf.out⟩
 ·have hb0:(((p2:Nat):Int) == 0) = false:=by simp;omega
  have hsub:IntKind.i64.wrap ((p2:Int) - 1) = (p2:Int) - 1:=by have:=htr'.out.2;rw [IntKind.wrap_i64];omega
  have esub:((p2 - 1:Nat):Int) = (p2:Int) - 1:=by omega
  have hN1:=hN.out W8 (Mod.refl _ _) (p2 - 1) (by have:=htr'.out.2;omega);have fc:=fcl.out W8 (Mod.refl _ _);have fl:=ffl.out W8 (Mod.refl _ _);obtain ⟨q,hq⟩:∃ q,pNow A.Z s d.id true p1 (p2 - 1) = q:=⟨_,rfl⟩;have her:=pNow_er A.Z s d.id true p1 (p2 - 1);rw [hq] at hN1 her;rw [esub] at hN1;refine hid4 ?_ hN1 her hq esub;clear hN1 her hq esub;intro hN1 her hq esub;go_wp2_with fail;rw [hY.out,hW8.out];refine hN1.out.mono ?_;rintro e W10 hc;have hmS:=hc.modS;have k3:=i3.out.mod hmS (nS.out _ (by omega));have k4:=i4.out.mod hmS (nS.out _ (by omega));have t3:=k3.cell 0;have t4:=k4.cell 0;simp only [List.getElem?_cons_zero] at t3 t4
  have z3:=k3.frozen;have z4:=k4.frozen;have l3:=k3.lt;have l4:=k4.lt;have hm10:Mod A.S w W10:=hm08.out.nowhere.trans hmS
  have hE:∀ er:Int,Mod A.S w ((W10.setCell ⟨B + 1 + 1 + 1,0,none⟩ (.int .i64 0)).setCell ⟨B + 1 + 1 + 1 + 1,0,none⟩ (errno er)):=fun er=>hm10.step (setBoth k3 k4 0 er).2.2 fun i hi e=>by
   rcases e with e | e <;> omega
  rcases hc with ⟨m',k,e1,hv,hk,hr,hm⟩ | ⟨m',f,e1,hff,hdd,hst,hm⟩
  ·subst e1;by_cases h0:q.2 = 0
   ·rw [h0];have mb:Mod Nowhere W10 (W10.alloc (.cells #[.bool false] 4)):=(Mod.refl _ W10).alloc _;have bC:=Blk.new W10 [.bool false] 4;have hm11:Mod A.S w (W10.alloc (.cells #[.bool false] 4)):=hm10.trans mb.nowhere;have hQ:=bEqual_ok (hg.out _ hm11) (hs2.out _ hm11) bg hd.out.bc;refine hid12 ?_ mb bC hm11 hQ hE hm10 hmS hv hr hm hk her;clear mb bC hm11 hQ hE hm10 hmS hv hr hm hk her;intro mb bC hm11 hQ hE hm10 hmS hv hr hm hk her;refine hid2 ?_ k3 k4;clear k3 k4;intro k3 k4;go_wp2_with fail;refine hQ.out.mono ?_;rintro e W12 ⟨rfl,m12⟩;by_cases hgd:g = d.code
    ·rw [decide_eq_true hgd];have hC10:B + 1 + 1 + 1 + 1 < W10.heap.size:=k4.out.lt;have hW810:W8.heap.size≤W10.heap.size:=hmS.out.size;have mC:Mod (fun k=>k = W10.heap.size) W12 (W12.setCell ⟨W10.heap.size,0,none⟩ (.bool true)):=(Mod.refl (fun k=>k = W10.heap.size) W12).setCell (p:=⟨W10.heap.size,0,none⟩) (fun _=>rfl) _;have bC12:=bC.out.mod m12 (fun e=>e);have bCt:Blk (W12.setCell ⟨W10.heap.size,0,none⟩ (.bool true)) W10.heap.size [.bool true] 4:=bC12.setCell 0 (.bool true);have a3:=((k3.out.mod mb.out (fun e=>e)).mod m12 (fun e=>e)).mod mC (fun e=>by have e:B + 1 + 1 + 1 = W10.heap.size:=e;omega);have a4:=((k4.out.mod mb.out (fun e=>e)).mod m12 (fun e=>e)).mod mC (fun e=>by have e:B + 1 + 1 + 1 + 1 = W10.heap.size:=e;omega)
     have a5:=((i5.out.mod hmS.out (nS.out _ (by have:=hzW.out;omega))).mod mb.out (fun e=>e)).mod m12 (fun e=>e);have tC:=bC12.cell 0;have t3:=((k3.out.mod mb.out (fun e=>e)).mod m12 (fun e=>e)).cell 0;have t4:=((k4.out.mod mb.out (fun e=>e)).mod m12 (fun e=>e)).cell 0;have t5:=a5.cell 0;simp only [List.getElem?_cons_zero] at tC t3 t4 t5;have zC:=bC12.frozen;have z3:=((k3.out.mod mb.out (fun e=>e)).mod m12 (fun e=>e)).frozen;have z4:=((k4.out.mod mb.out (fun e=>e)).mod m12 (fun e=>e)).frozen;have lC:=bC12.lt;have l3:=((k3.out.mod mb.out (fun e=>e)).mod m12 (fun e=>e)).lt;have l4:=((k4.out.mod mb.out (fun e=>e)).mod m12 (fun e=>e)).lt
     have l5:=a5.lt;have hne5:W.heap.size ≠ W10.heap.size:=by have:=i5.out.lt;omega
     obtain ⟨y3,y4,my⟩:=setBoth a3 a4 (d.cl:Int) 0;have hz74:B + 1 + 1 + 1 + 1 < W7.heap.size:=g4.out.lt;have hpB:pb < B:=by have:=Blk.lt hp.out;omega
     have np:=hp.out.notS h.out;obtain ⟨Wf,hWf⟩:∃ Wf,((W12.setCell ⟨W10.heap.size,0,none⟩ (.bool true)).setCell ⟨B + 1 + 1 + 1,0,none⟩ (.int .i64 (d.cl:Int))).setCell ⟨B + 1 + 1 + 1 + 1,0,none⟩ (errno 0) = Wf:=⟨_,rfl⟩;have hvf:=(((hv.out.fresh mb.out).fresh m12).keepB mC bC12 (by decide)).setBoth hA a3 a4 (nS.out _ (by omega)) (d.cl:Int) 0;rw [hWf] at y3 y4 my hvf;have cy:∀ (b:Nat) (cs:List Value) (T:TypeId),Blk W8 b cs T→B≤b→b ≠ B + 1 + 1 + 1→b ≠ B + 1 + 1 + 1 + 1→Blk Wf b cs T:=fun b cs T hb h1 h2 h3=>((((hb.mod hmS.out (nS.out _ h1)).mod mb.out (fun e=>e)).mod m12 (fun e=>e)).mod mC (fun e=>by have:=hb.lt;have e:b = W10.heap.size:=e;omega)).mod my (fun e=>by rcases e with e | e;exact h2 e;exact h3 e);have hpf:PnAt Wf pb A.vb:=Blk.mod (Blk.mod (Blk.mod (Blk.mod (Blk.mod hpW.out hmS.out np) mb.out (fun e=>e)) m12 (fun e=>e)) mC (fun e=>by have e:pb = W10.heap.size:=e;omega)) my (fun e=>by rcases e with e | e <;> omega)
     have hNBf:NowBox Wf A W7.heap.size (B + 1 + 1) B (B + 1) pb p1 true d.id:=fun V hV=>by
      have v0:=(cy _ _ _ o8.out (by omega) (by omega) (by omega)).mod hV (nS.out _ (by omega));have v1:=(cy _ _ _ i2.out (by omega) (by omega) (by omega)).mod hV (nS.out _ (by omega));have v2:=(cy _ _ _ i0.out (by omega) (by omega) (by omega)).mod hV (nS.out _ (by omega));have v3:=(cy _ _ _ i1.out (by omega) (by omega) (by omega)).mod hV (nS.out _ (by omega));exact ⟨⟨v0.cell 0,v1.cell 0,v2.cell 0,v3.cell 0⟩,v0.lt,v1.lt,v2.lt,v3.lt⟩
     have bf:=cy _ _ _ f8.out (by omega) (by omega) (by omega);have bl:=cy _ _ _ i5.out (by have:=hzW.out;omega) (by have:=hzW.out;omega) (by have:=hzW.out;omega);have bCf:=bCt.mod my (fun e=>by rcases e with e | e <;> omega);have hql:q.1.l.length≤90000:=by rw [← hq.out];unfold pNow;rw [vNow_l];exact hxn
     have hG:=pinG2_yes (u:=.returning) hd.out.i8 hd.out.cl15 htr'.out.1 hA hpf hvf hql (hrm.runs hr.out (by have:=hk.out;omega)) hNBf (bCf.cell 0) bCf.lt (bf.cell 0) bf.lt (bl.cell 0) bl.lt y4 y3 (nS.out _ (by omega)) (nS.out _ (by omega));obtain ⟨r,hr2⟩:∃ r,pNow A.Z q.1 d.id true p1 d.cl = r:=⟨_,rfl⟩;rw [hr2] at hG
     have hmf3:Mod A.S w Wf:=((hm11.out.trans m12.nowhere).step mC fun i hi e=>by
      have e:i = W10.heap.size:=e
      omega).step my fun i hi e=>by
       rcases e with e | e <;> omega
     refine hid12 ?_ m12 a3 a4 y3 y4 my mC bCt bC12 a5 cy hpf;clear m12 a3 a4 y3 y4 my mC bCt bC12 a5 cy hpf;intro m12 a3 a4 y3 y4 my mC bCt bC12 a5 cy hpf;refine hid9 ?_ hNBf bf bl bCf hG hvf hmf3 hWf hr2;clear hNBf bf bl bCf hG hvf hmf3 hWf hr2;intro hNBf bf bl bCf hG hvf hmf3 hWf hr2;go_wp2;refine leaves_cons (f:=84) (args:=#[ptr W10.heap.size,ptr (W7.heap.size + 1),ptr W.heap.size,ptr (B + 1 + 1 + 1 + 1),ptr (B + 1 + 1 + 1)]) (by simp) (by simp [go_sem]) ?_;rw [show ((W12.setCell ⟨W10.heap.size,0,none⟩ (.bool true)).setCell ⟨B + 1 + 1 + 1,0,none⟩ (.int .i64 (d.cl:Int))).setCell ⟨B + 1 + 1 + 1 + 1,0,none⟩ (.int .i64 0) = Wf from hWf.out];refine hG.out.mono ?_
     rintro e u' V ⟨rfl,rfl,q2,hpost,v4,v3,hmV⟩;have x3:=v3.cell 0;have x4:=v4.cell 0;simp only [List.getElem?_cons_zero] at x3 x4
     have hmV':Mod A.S w V:=hmf3.out.step hmV fun i hi e=>by
      rcases e with e | e | e
      ·exact e
      ·omega
      ·omega
     refine ⟨_,ret_guess rfl _ _ (B + 1 + 1 + 1) (B + 1 + 1 + 1 + 1) _ q2 rfl rfl x3 x4,?_⟩
     have hRR:R = if r.2 = 0 then ⟨r.1,d.cl,0,[s.f,q.1.f,r.1.f]⟩ else ⟨r.1,0,r.2,[s.f,q.1.f,r.1.f]⟩:=by
      rw [← hR.out];unfold pGuard pSel pVal pLim;simp [hp1.out,hp2.out,hq.out,h0,ht,hgd,hr2.out]
     rcases hpost with ⟨m2,k2,rfl,hv2,hk2,hrr2⟩ | ⟨m2,f2,rfl,hf2,hg2,hst2⟩
     ·by_cases hr0:r.2 = 0
      ·rw [if_pos hr0] at hRR;rw [hRR];exact .inl ⟨m2,k + k2,by rw [hr0];rfl,hv2,by have:=hk.out;omega,hr.out.trans hrr2,hmV'⟩
      ·rw [if_neg hr0] at hRR;rw [hRR];exact .inl ⟨m2,k + k2,by rw [if_neg (by omega)];rfl,hv2,by have:=hk.out;omega,hr.out.trans hrr2,hmV'⟩
     ·refine .inr ⟨m2,f2,rfl,?_,hg2,hr.out.stopped hst2 (by have:=hk.out;omega),hmV'⟩
      have e:q.1.f ∈ R.mid∧r.1.f ∈ R.mid:=by
       rw [hRR]
       split <;> simp
      rcases hf2 with rfl | rfl
      ·exact e.1
      ·exact e.2
    ·rw [decide_eq_false hgd];have a3:=(k3.out.mod mb.out (fun e=>e)).mod m12 (fun e=>e);have a4:=(k4.out.mod mb.out (fun e=>e)).mod m12 (fun e=>e);have t3:=a3.cell 0;have t4:=a4.cell 0;simp only [List.getElem?_cons_zero] at t3 t4;have z3:=a3.frozen;have z4:=a4.frozen;have l3:=a3.lt;have l4:=a4.lt;obtain ⟨y3,y4,my⟩:=setBoth a3 a4 ((p2:Int) - 1) 17;have hC10:B + 1 + 1 + 1 + 1 < W10.heap.size:=k4.out.lt;have bCf:=(bC.out.mod m12 (fun e=>e)).mod my (fun e=>by rcases e with e | e <;> omega);have cC:=bCf.cell 0;simp only [List.getElem?_cons_zero] at cC;have hG:=pinG2_no (u:=.returning) (br:=W10.heap.size) (bf:=W7.heap.size + 1) (bl:=W.heap.size) (be:=B + 1 + 1 + 1 + 1) (b8:=B + 1 + 1 + 1) cC bCf.lt
     have hvf:VRep ((W12.setCell ⟨B + 1 + 1 + 1,0,none⟩ (.int .i64 ((p2:Int) - 1))).setCell ⟨B + 1 + 1 + 1 + 1,0,none⟩ (errno 17)) A m' q.1 :=
      ((hv.out.fresh mb.out).fresh m12).setBoth hA a3 a4 (nS.out _ (by omega)) _ 17
     have hmf2:Mod A.S w ((W12.setCell ⟨B + 1 + 1 + 1,0,none⟩ (.int .i64 ((p2:Int) - 1))).setCell ⟨B + 1 + 1 + 1 + 1,0,none⟩ (errno 17)):=(hm11.out.trans m12.nowhere).step my fun i hi e=>by
      rcases e with e | e <;> omega
     have hf:∀ V,Mod Nowhere ((W12.setCell ⟨B + 1 + 1 + 1,0,none⟩ (.int .i64 ((p2:Int) - 1))).setCell ⟨B + 1 + 1 + 1 + 1,0,none⟩ (errno 17)) V→PGd (fun f=>f ∈ R.mid) w A m R.s R.left R.e (vcost A + vcost A) (.returned (.tuple #[.int .i64 ((p2:Int) - 1),errno 17])) V:=by
      intro V hV
      have e:R = ⟨q.1,p2 - 1,17,[s.f,q.1.f]⟩:=by
       rw [← hR.out];unfold pGuard pSel pVal;simp [hp1.out,hp2.out,hq.out,h0,ht,hgd]
      rw [e];exact .inl ⟨m',k,by rw [← esub.out];rfl,hvf.fresh hV,by have:=hk.out;omega,hr.out,hmf2.trans hV.nowhere⟩
     refine hid11 ?_ m12 a3 a4 y3 y4 my bCf hvf hmf2 hf hG;clear m12 a3 a4 y3 y4 my bCf hvf hmf2 hf hG;intro m12 a3 a4 y3 y4 my bCf hvf hmf2 hf hG;go_wp2;refine leaves_cons (f:=84) (args:=#[ptr W10.heap.size,ptr (W7.heap.size + 1),ptr W.heap.size,ptr (B + 1 + 1 + 1 + 1),ptr (B + 1 + 1 + 1)]) (by simp) (by simp [go_sem]) ?_;refine hG.out.mono ?_;rintro e u' V ⟨rfl,rfl,hV⟩;have x3:=(y3.out.mod hV (fun e=>e)).cell 0;have x4:=(y4.out.mod hV (fun e=>e)).cell 0;simp only [List.getElem?_cons_zero] at x3 x4;exact ⟨_,ret_guess rfl _ _ (B + 1 + 1 + 1) (B + 1 + 1 + 1 + 1) _ 17 rfl rfl x3 x4,hf.out V hV⟩
   ·obtain ⟨y3,y4,my⟩:=setBoth k3 k4 0 q.2;have b0:(((q.2:Nat):Int) != 0) = true:=by simp;omega
    have hf:PGd (fun f=>f ∈ R.mid) w A m R.s R.left R.e (vcost A + vcost A) (.returned (.tuple #[.int .i64 0,errno q.2])) ((W10.setCell ⟨B + 1 + 1 + 1,0,none⟩ (.int .i64 0)).setCell ⟨B + 1 + 1 + 1 + 1,0,none⟩ (errno q.2)):=by
     have e:R = ⟨q.1,0,q.2,[s.f,q.1.f]⟩:=by
      rw [← hR.out];unfold pGuard pSel;simp [hp1.out,hp2.out,hq.out,h0,ht]
     rw [e];exact .inl ⟨m',k,rfl,hv.setBoth hA k3 k4 (nS.out _ (by omega)) 0 q.2,by omega,hr,hE q.2⟩
    have y3c:=y3.cell 0;have y4c:=y4.cell 0;simp only [List.getElem?_cons_zero] at y3c y4c;refine hid12 ?_ hf k3 k4 y3 y4 my y3c y4c hE hm10 hmS hv;clear hf k3 k4 y3 y4 my y3c y4c hE hm10 hmS hv;intro hf k3 k4 y3 y4 my y3c y4c hE hm10 hmS hv;refine hid4 ?_ hr hm hk her;clear hr hm hk her;intro hr hm hk her;go_wp2;exact ⟨_,ret_guess rfl _ _ (B + 1 + 1 + 1) (B + 1 + 1 + 1 + 1) 0 q.2 rfl rfl y3c.out y4c.out,hf.out⟩
  ·subst e1;obtain ⟨y3,y4,my⟩:=setBoth k3 k4 0 7
   have hf:PGd (fun f=>f ∈ R.mid) w A m R.s R.left R.e (vcost A + vcost A) (.returned (.tuple #[.int .i64 0,errno 7])) ((W10.setCell ⟨B + 1 + 1 + 1,0,none⟩ (.int .i64 0)).setCell ⟨B + 1 + 1 + 1 + 1,0,none⟩ (errno 7)):=by
    refine .inr ⟨m',f,rfl,?_,(PGone.of hdd).setBoth k3 k4 (nS.out _ (by omega)) (nS.out _ (by omega)) 0 7,hst.mono (by omega),hE 7⟩
    have e:s.f ∈ R.mid∧q.1.f ∈ R.mid:=by
     rw [← hR.out];unfold pGuard pSel;simp only [hp1.out,hp2.out,hq.out,if_neg ht,if_true]
     split
     ·split
      ·split <;> simp
      ·simp
     ·simp
    rcases hff with rfl | rfl
    ·exact e.1
    ·exact e.2
   have y3c:=y3.cell 0;have y4c:=y4.cell 0;simp only [List.getElem?_cons_zero] at y3c y4c;refine hid12 ?_ hf k3 k4 y3 y4 my y3c y4c hE hm10 hmS hdd;clear hf k3 k4 y3 y4 my y3c y4c hE hm10 hmS hdd;intro hf k3 k4 y3 y4 my y3c y4c hE hm10 hmS hdd;refine hid3 ?_ hst hm her;clear hst hm her;intro hst hm her;clear hff;go_wp2;exact ⟨_,ret_guess rfl _ _ (B + 1 + 1 + 1) (B + 1 + 1 + 1 + 1) 0 7 rfl rfl y3c.out y4c.out,hf.out⟩
theorem pinGuarded_ok {w:World} {pb:Nat} {A:VAt} {m:Mem} {s:VSt} {d:PinD} (hd:POk d) {u1 u2 ug:Value} {g:List Nat} (hs1:SrcS A w u1 d.value) (hs2:SrcS A w u2 d.code) (hg:SrcS A w ug g) (bg:Bytes g) (ub:Bool) (hA:A.count + 2≤A.frames) (hp:PnAt w pb A.vb) (h:VRep w A m s) (hxn:s.l.length≤90000) (hI:PInvF (view s)) (hrm:Room m (vcost A + vcost A)) :
  Calls Tryz.prog 43 #[ptr pb,pinV d u1 u2,.bool ub,ug] w (PGd (fun f=>f ∈ (pGuard A.Z s d ub g).mid) w A m (pGuard A.Z s d ub g).s (pGuard A.Z s d ub g).left (pGuard A.Z s d ub g).e (vcost A + vcost A)) :=
 match ub with
 | false=>pinGuardV_ok hd hs1 hs2 hg bg hA hp h hxn hI hrm
 | true=>pinGuardU_ok hd hs1 hs2 hg bg hA hp h hxn hI hrm
end Go.Proofs.YtjanpegbemepgaaGreat
