/-
  The law PinModel: the walk.
-/
import Derived.Test.YtjanpegbemepgaaGreatTG47
import Derived.Test.YtjanpegbemepgaaGreatTG48
set_option linter.unusedVariables false
set_option linter.unusedSimpArgs false
set_option maxRecDepth 100000
namespace Go.Proofs.YtjanpegbemepgaaGreat
open Go.RowKit
open Jn Vn
attribute [local go_sem] Oper.semAt_some
theorem PGa.sure {D:Items→Prop} {w w':World} {A:VAt} {m:Mem} {s s':VSt} {left er j n c:Nat} {e:Ending} (h:PGa D w A m s' left er j e w') (hc:Card w A m s (n + j) c) (hpd:m.pending = false) (hp:PSP s') :
  e = .returned (.agg #[.int .i64 left,errno er])∧∃ m',Card w' A m' s' n c∧m'.pending = false∧Mod A.S w w':=by
 rcases h with ⟨m',k,a1,b1,hk,d,g⟩ | ⟨m',f,a1,b1,hg,d,g⟩
 ·exact ⟨a1,m',hc.after d hk b1 hp,d.pend.trans hpd,g⟩
 ·rw [d.pend] at hpd;cases hpd
theorem QLs.keepS {w w':World} {A:VAt} {m:Mem} {s:VSt} {lv ov:Value} {S:QF} (h:QLs w lv ov S) (hr:VRep w A m s) (hm:Mod A.S w w'):QLs w' lv ov S:=by
 obtain ⟨xs,os,h1,h2,h3,h4⟩:=h.ex;exact ⟨xs,os,h1.mod hm (hr.shunS (by decide) (by decide)) (hr.shunS (by decide) (by decide)),h2.mod hm (hr.shunS (by decide) (by decide)) (hr.shunS (by decide) (by decide)),h3,h4⟩
theorem seen_rel {s:VSt} (h:PSP s):Seen (view s) (qOf s):=⟨(ids_rel s h).symm,fun id _=>(info_rel s h id).symm⟩
theorem q0_ls (w:World):QLs w (.slice none 0 0) (.slice none 0 0) (qOf (vst0 none_)) :=
 ⟨[],[],QSl.nil w,QSl.nil w,(ql_nil _ fun k=>by
  show (pget (view (vst0 none_)) k).map _ = none
  have:pget (view (vst0 none_)) k = none:=by
   cases hg:pget (view (vst0 none_)) k with
   | none=>rfl
   | some d =>
    have hx:(pget (view (vst0 none_)) k).isSome = true:=by rw [hg];rfl
    have:=(pget_some (PSP.idle0 .none .none).ps.view hx).1
    cases this
  rw [this];rfl).symm,(ql_nil _ fun _=>rfl).symm⟩
structure MDa (w w':World) (B C n k:Nat) (A:VAt) (m:Mem) (s:VSt) (pb:Nat) (lv ov:Value):Prop where
 card:Card w' A m s n 0
 pd:m.pending = false
 len:s.l.length≤2 * k
 pn:PnAt w' pb A.vb
 bb:Blk w' B [ptr A.M.mb,ptr A.vb,ptr pb] 28
 bc:Blk w' C [lv,.bool (qOf s).act,ov] 50
 ls:QLs w' lv ov (qOf s)
 nB:¬ A.S B
 nC:¬ A.S C
 hAS:∀ j,A.S j→w.heap.size≤j
 hC:w.heap.size≤C
 mod:Mod Nowhere w w'
section
variable {w wr w2 X2 w4 : World} {B C n n' k : Nat} {A : VAt} {m m2 : Mem} {s s2 : VSt} {pb : Nat} {lv ov lv3 ov3 : Value}
theorem MDa.fresh (h:MDa w wr B C n k A m s pb lv ov) (hm:Mod Nowhere wr w2):MDa w w2 B C n k A m s pb lv ov :=
 { h with card:=h.card.fresh hm,pn:=h.pn.fresh hm,bb:=h.bb.mod hm (fun e=>e),bc:=h.bc.mod hm (fun e=>e),ls:=h.ls.fresh hm,mod:=h.mod.trans hm }
theorem MDa.next (h:MDa w wr B C n k A m s pb lv ov) (hc:Card w2 A m2 s2 n' 0) (hpd:m2.pending = false) (hl:s2.l.length≤s.l.length + 2) (hm2:Mod A.S wr w2) (m23:Mod Nowhere w2 X2) (hq:QLs X2 lv3 ov3 (qOf s2)) :
  MDa w (put3 X2 C lv3 (.bool (qOf s2).act) ov3) B C n' (k + 1) A m2 s2 pb lv3 ov3:=by
 have cX:=(h.bc.mod hm2 h.nC).mod m23 (fun e=>e);obtain ⟨e1,m3⟩:=blk3 cX lv3 (.bool (qOf s2).act) ov3;have bX:=(h.bb.mod hm2 h.nB).mod m23 (fun e=>e);have pX:=(Blk.mod h.pn hm2 (h.pn.notS h.card.rep)).mod m23 (fun e=>e);refine ⟨{ hc with rep:=(hc.rep.fresh m23).keepB m3 cX (by decide) },hpd,by have:=h.len;omega,?_,?_,e1,hq.box cX (by decide) m3,h.nB,h.nC,h.hAS,h.hC,?_⟩
 ·refine Blk.mod pX m3 (fun e=>?_);have e:pb = C:=e;rw [e] at pX;exact absurd (pX.inj cX).2 (by decide)
 ·refine Blk.mod bX m3 (fun e=>?_);have e:B = C:=e;rw [e] at bX;exact absurd (bX.inj cX).2 (by decide)
 ·exact ((h.mod.step hm2 fun i hi e=>absurd hi (by have:=h.hAS i e;omega)).trans m23).newb m3 h.hC
end
section
variable {w0 w3 : World} {T2 T3 : Nat} {lv ov : Value} {R : QF × Nat × Nat}
end
theorem PopIn.c11 {w:World} {b off:Nat} {op id did li lo hi cl:Int} {vv uv av bv:Value} {v u a c:List Nat} (h:PopIn w b off ⟨op,id,⟨did,vv,v,li,lo,hi,uv,u,cl⟩,av,a,bv,c⟩) :
  (w.cell? ⟨b,off,none⟩ = some (.int .i64 op)∧w.cell? ⟨b,off + 1,none⟩ = some (.int .i64 id)∧w.cell? ⟨b,off + 2,none⟩ = some (.int .i64 did)∧w.cell? ⟨b,off + 3,none⟩ = some (vv)∧w.cell? ⟨b,off + 4,none⟩ = some (.int .i64 li)∧w.cell? ⟨b,off + 5,none⟩ = some (.int .i64 lo)∧w.cell? ⟨b,off + 6,none⟩ = some (.int .i64 hi)∧w.cell? ⟨b,off + 7,none⟩ = some (uv)∧w.cell? ⟨b,off + 8,none⟩ = some (.int .i64 cl)∧w.cell? ⟨b,off + 9,none⟩ = some (av)∧w.cell? ⟨b,off + 10,none⟩ = some (bv))∧b < w.heap.size :=
 ⟨⟨h.cell 0 (by omega),h.cell 1 (by omega),h.cell 2 (by omega),h.cell 3 (by omega),h.cell 4 (by omega),h.cell 5 (by omega),h.cell 6 (by omega),h.cell 7 (by omega),h.cell 8 (by omega),h.cell 9 (by omega),h.cell 10 (by omega)⟩,h.lt⟩
end Go.Proofs.YtjanpegbemepgaaGreat
namespace Go.Proofs.YtjanpegbemepgaaGreat
open Jn Vn
def Left (f:Items) (S:QF):Prop:=∃ t:VSt,PSP t∧t.act = false∧t.f = f∧qOf t = S
theorem Left.seen {f:Items} {S:QF} (h:Left f S):Seen f S:=by
 obtain ⟨t,hp,ha,rfl,rfl⟩:=h;have hl:=hp.ps.idle ha;have hv:view t = t.f:=by unfold Vn.view;rw [hl];rfl
 have:=seen_rel hp;rw [hv] at this;exact this
theorem wrong_ne {d:PinD} (hd:POk d) (ub:Bool) (a:List Nat):¬ a ++ List.replicate 17 0 = pVal d ub:=by
 intro e;have h:=congrArg List.length e;rw [List.length_append,List.length_replicate] at h;unfold pVal at h;have h1:=hd.v2;have h2:=hd.hi;have h3:=hd.code16
 split at h <;> omega
def spS (s:VSt) (d:PinD) (ub:Bool):VSt:=cntS s d.id (two ub (pSel ub (ptry (view s) d.id)).2 ((pSel ub (ptry (view s) d.id)).1 - 1))
section
variable {Z : Nat} {s : VSt} {d : PinD} {ub : Bool} {g : List Nat} {f : Items}
theorem guard_mid (h:PSP s) (ha:s.act = false) (hd:POk d) (hZ:1800≤Z / 2) (hf:f ∈ (pGuard Z s d ub g).mid):f = s.f ∨ ((pSel ub (ptry (view s) d.id)).1 ≠ 0∧f = (spS s d ub).f) ∨ f = (pGuard Z s d ub g).s.f:=by
 rw [pGuard_free h.ps hd hZ (touch_idle h.ps ha d.id)] at hf ⊢;unfold freeG at hf ⊢;unfold spS;by_cases h0:(pSel ub (ptry (view s) d.id)).1 = 0
 ·rw [if_pos h0,if_neg (by rw [ha];decide)] at hf
  cases hf
 ·rw [if_neg h0] at hf ⊢
  split at hf
  ·rename_i hg
   rw [if_pos hg];simp only [List.mem_cons,List.not_mem_nil,or_false] at hf;rcases hf with rfl | rfl | rfl
   ·exact .inl rfl
   ·exact .inr (.inl ⟨h0,rfl⟩)
   ·exact .inr (.inr rfl)
  ·simp only [List.mem_cons,List.not_mem_nil,or_false] at hf;rcases hf with rfl | rfl
   ·exact .inl rfl
   ·exact .inr (.inl ⟨h0,rfl⟩)
theorem guard_wrong (h:PSP s) (ha:s.act = false) (hd:POk d) (hZ:1800≤Z / 2) (h0:(pSel ub (ptry (view s) d.id)).1 ≠ 0) (a:List Nat):(pGuard Z s d ub (a ++ List.replicate 17 0)).s = spS s d ub∧(pGuard Z s d ub (a ++ List.replicate 17 0)).e = 17:=by
 rw [pGuard_free h.ps hd hZ (touch_idle h.ps ha d.id)];unfold freeG;rw [if_neg h0,if_neg (wrong_ne hd ub a)];exact ⟨rfl,rfl⟩
end
def Tear (Z:Nat) (s:VSt) (x:Pop) (f:Items):Prop:=Left f (qOf s) ∨ Left f (qOp (qOf s) x).1 ∨ Left f (qSpent (qOf s) x) ∨ Left f (qVerified (qOf s) x)
theorem op_act {S:QF} {x:Pop} (ho:x.op≤5):(qOp S x).1.act = S.act:=by
 have hV:∀ id g,(qVerify S id g).1.act = S.act:=fun id g=>by
  unfold qVerify
  split
  ·rfl
  ·unfold qVerP
   repeat' split
   all_goals rfl
 have hR:∀ (T:QF) p v,(qReplace T p v).act = T.act:=fun _ _ _=>rfl;unfold qOp
 split
 ·split
  ·unfold qCreate;split <;> rfl
  ·rfl
 split
 ·unfold qDelete;split <;> rfl
 split
 ·exact hV _ _
 split
 ·unfold qChange
  split
  ·rfl
  ·rename_i p hp
   unfold qChgP
   split
   ·have h1:=hV x.id x.a;unfold qVerify at h1;rw [hp] at h1;unfold qThen
    split
    ·rw [hR];exact h1
    ·exact h1
   ·rfl
 split
 ·unfold qUnblock
  split
  ·rfl
  ·unfold qUnbP
   repeat' split
   all_goals rfl
 split
 ·unfold qSet
  split
  ·rfl
  ·unfold qSetP;split <;> rfl
 split
 ·omega
 split
 ·omega
 split
 ·omega
 ·rfl
theorem left_after {Z:Nat} {s:VSt} {w:World} {x:Pop} (h:PSP s) (ha:s.act = false) (hZ:1800≤Z / 2) (hx:PopAt w x) (ho:x.op≤5):Left (pOp Z s x).s.f (qOp (qOf s) x).1:=by
 obtain ⟨e,hp⟩:=op_rel h hZ hx;refine ⟨_,hp,?_,rfl,by rw [e]⟩;have h1:=op_act (S:=qOf s) ho;rw [e] at h1;rw [← ha];exact h1
theorem left_self {s:VSt} (h:PSP s) (ha:s.act = false):Left s.f (qOf s):=⟨s,h,ha,rfl,rfl⟩
theorem tear_ver {Z:Nat} {s:VSt} (h:PSP s) (ha:s.act = false) (hZ:1800≤Z / 2) (id:Int) (a:List Nat) {f:Items} (hf:f ∈ (pVer Z s id a).mid):f = s.f ∨ Left f (qVerify (qOf s) id (a ++ List.replicate 17 0)).1 ∨ f = (pVer Z s id a).s.f:=by
 obtain ⟨ew,hw⟩:=ver_rel h hZ id (a ++ List.replicate 17 0);unfold pVer at hf ew hw ⊢
 cases hat:atI (pget (view s)) id with
 | none=>rw [hat] at hf;cases hf
 | some d =>
  rw [hat] at hf ew hw;obtain ⟨-,hd,-⟩:=atI_some h.ps.view hat;dsimp only at hf ew hw ⊢;rcases guard_mid h ha hd hZ hf with e | ⟨h0,e⟩ | e
  ·exact .inl e
  ·obtain ⟨g1,-⟩:=guard_wrong h ha hd hZ h0 a;rw [g1] at ew hw;exact .inr (.inl ⟨_,hw,ha,e.symm,by rw [ew]⟩)
  ·exact .inr (.inr e)
theorem tear_chg {Z:Nat} {s:VSt} (h:PSP s) (ha:s.act = false) (hZ:1800≤Z / 2) (id:Int) (a:List Nat) {v:List Nat} (bv:Bytes v) {f:Items} (hf:f ∈ (pChg Z s id a v).mid) :
  f = s.f ∨ Left f (qChange (qOf s) id (a ++ List.replicate 17 0) v).1 ∨ f = (pChg Z s id a v).s.f ∨ ((qChange (qOf s) id a v).2.2 = 0∧Left f (qVerify (qOf s) id a).1):=by
 obtain ⟨ew,hw⟩:=chg_rel h hZ id (a ++ List.replicate 17 0) bv;obtain ⟨ec,hc⟩:=chg_rel h hZ id a bv;obtain ⟨ev,hv⟩:=ver_rel h hZ id a;rw [ec];dsimp only;unfold pChg at hf ew hw ⊢;unfold pVer at ev hv
 cases hat:atI (pget (view s)) id with
 | none=>rw [hat] at hf;cases hf
 | some d =>
  rw [hat] at hf ew hw ev hv;obtain ⟨-,hd,-⟩:=atI_some h.ps.view hat;dsimp only at hf ew hw ev hv ⊢
  split at hf
  ·rename_i hft
   rw [if_pos hft] at ew hw ⊢
   have hsp:(pSel false (ptry (view s) d.id)).1 ≠ 0→f = (spS s d false).f→Left f (qChange (qOf s) id (a ++ List.replicate 17 0) v).1:=fun h0 e=>by
    obtain ⟨g1,g2⟩:=guard_wrong h ha hd hZ h0 a;unfold pThen at ew hw;rw [g2,if_neg (by decide)] at ew hw;rw [g1] at ew hw;exact ⟨_,hw,ha,e.symm,by rw [ew]⟩
   unfold pThen at hf ⊢;by_cases e0:(pGuard Z s d false a).e = 0
   ·rw [if_pos e0] at hf ⊢;dsimp only at hf ⊢;have hG:Left (pGuard Z s d false a).s.f (qVerify (qOf s) id a).1:=⟨_,hv,by rw [(pGuard_ps h.ps hd hZ false a).2.2];exact ha,rfl,by rw [ev]⟩;have hz:(pRepl Z (pGuard Z s d false a).s d v).2 = 0:=(repl_rel hv hZ hd (hd.value hft bv) 0 false).2.1;rw [List.mem_append] at hf;rcases hf with hf | hf
    ·rcases guard_mid h ha hd hZ hf with e | ⟨h0,e⟩ | e
     ·exact .inl e
     ·exact .inr (.inl (hsp h0 e))
     ·exact .inr (.inr (.inr ⟨hz,e ▸ hG⟩))
    ·simp only [List.mem_cons,List.not_mem_nil,or_false] at hf;rcases hf with e | e
     ·exact .inr (.inr (.inr ⟨hz,e ▸ hG⟩))
     ·exact .inr (.inr (.inl e))
   ·rw [if_neg e0] at hf ⊢;rcases guard_mid h ha hd hZ hf with e | ⟨h0,e⟩ | e
    ·exact .inl e
    ·exact .inr (.inl (hsp h0 e))
    ·exact .inr (.inr (.inl e))
  ·cases hf
theorem tear_unb {Z:Nat} {s:VSt} (h:PSP s) (ha:s.act = false) (hZ:1800≤Z / 2) (id:Int) (a:List Nat) {v:List Nat} (bv:Bytes v) {f:Items} (hf:f ∈ (pUnb Z s id a v).mid) :
  f = s.f ∨ Left f (qUnblock (qOf s) id (a ++ List.replicate 17 0) v).1 ∨ f = (pUnb Z s id a v).s.f ∨ ((qUnblock (qOf s) id a v).2.2 = 0∧∃ p,atQ (qOf s).g id = some p∧Left f (qRestored (qOf s) p)):=by
 obtain ⟨ew,hw⟩:=unb_rel h hZ id (a ++ List.replicate 17 0) bv;obtain ⟨ec,hc⟩:=unb_rel h hZ id a bv;rw [ec];dsimp only;rw [atQ_of];unfold pUnb at hf ew hw ⊢
 cases hat:atI (pget (view s)) id with
 | none=>rw [hat] at hf;cases hf
 | some d =>
  rw [hat] at hf ew hw;obtain ⟨rfl,hd,hg0⟩:=atI_some h.ps.view hat;dsimp only [Option.map_some] at hf ew hw ⊢;rw [Int.toNat_natCast]
  split at hf
  ·cases hf
  rename_i hcl
  rw [if_neg hcl] at ew hw ⊢
  split at hf
  ·rename_i hft
   rw [if_pos hft] at ew hw ⊢
   have hsp:(pSel true (ptry (view s) d.id)).1 ≠ 0→f = (spS s d true).f→Left f (qUnblock (qOf s) d.id (a ++ List.replicate 17 0) v).1:=fun h0 e=>by
    obtain ⟨g1,g2⟩:=guard_wrong h ha hd hZ h0 a;unfold pThen at ew hw;rw [g2,if_neg (by decide)] at ew hw;rw [g1] at ew hw;exact ⟨_,hw,ha,e.symm,by rw [ew]⟩
   unfold pThen at hf ⊢;by_cases e0:(pGuard Z s d true a).e = 0
   ·rw [if_pos e0] at hf ⊢;dsimp only at hf ⊢;have i1:=hd.i1;have i8:=hd.i8;have hto:=touch_idle h.ps ha d.id;have ht15:=h.ps.view.tries i1 i8;have hsome:(view s (16 + d.id)).isSome = true:=(pget_some h.ps.view (by rw [hg0];rfl)).1
    have hGs:(pGuard Z s d true a).s = cntS s d.id [(ptry (view s) d.id).1,d.cl]:=by
     rw [pGuard_free h.ps hd hZ hto] at e0 ⊢;unfold freeG at e0 ⊢
     split at e0
     ·split at e0 <;> cases e0
     ·rename_i h1
      rw [if_neg h1]
      split at e0
      ·rename_i h2
       rw [if_pos h2];rfl
      ·cases e0
    have hP:PSP (pGuard Z s d true a).s:=by rw [hGs];exact h.cnt i1 i8 ht15.1 hd.cl15 hto hsome
    have hfr:frOf s d.id = false:=by unfold frOf;rw [ha];rfl
    have hG:Left (pGuard Z s d true a).s.f (qRestored (qOf s) ⟨d,(ptry (view s) d.id).1,(ptry (view s) d.id).2,frOf s d.id⟩):=by
     refine ⟨_,hP,by rw [hGs];exact ha,rfl,?_⟩;rw [hGs,qOf_cnt h hd hg0 hto,hfr];unfold qCount qRestored;rw [if_neg (by show ¬ s.act = true;rw [ha];decide)]
    have hz:(pRepl Z (pGuard Z s d true a).s d v).2 = 0:=(repl_rel hP hZ hd (hd.value hft bv) 0 false).2.1;rw [List.mem_append] at hf;rcases hf with hf | hf
    ·rcases guard_mid h ha hd hZ hf with e | ⟨h0,e⟩ | e
     ·exact .inl e
     ·exact .inr (.inl (hsp h0 e))
     ·exact .inr (.inr (.inr ⟨hz,_,rfl,e ▸ hG⟩))
    ·simp only [List.mem_cons,List.not_mem_nil,or_false] at hf;rcases hf with e | e
     ·exact .inr (.inr (.inr ⟨hz,_,rfl,e ▸ hG⟩))
     ·exact .inr (.inr (.inl e))
   ·rw [if_neg e0] at hf ⊢;rcases guard_mid h ha hd hZ hf with e | ⟨h0,e⟩ | e
    ·exact .inl e
    ·exact .inr (.inl (hsp h0 e))
    ·exact .inr (.inr (.inl e))
  ·cases hf
theorem tear_law {Z:Nat} {s:VSt} {w:World} {x:Pop} (h:PSP s) (ha:s.act = false) (hZ:1800≤Z / 2) (hx:PopAt w x) (ho:x.op≤5) {f:Items} (hf:f ∈ (pOp Z s x).mid):Tear Z s x f:=by
 have hA:=left_after h ha hZ hx ho;have hS:=left_self h ha
 have h2:∀ {y:Items},f ∈ [s.f,y]→(f = y→Tear Z s x f)→Tear Z s x f:=fun hm hy=>by
  simp only [List.mem_cons,List.not_mem_nil,or_false] at hm;rcases hm with e | e
  ·exact .inl (e ▸ hS)
  ·exact hy e
 have hO:=hf;unfold pOp at hf;by_cases o0:x.op = 0
 ·rw [if_pos o0] at hf;unfold pOp at hA;rw [if_pos o0] at hA
  split at hf
  ·rename_i hv
   rw [if_pos hv] at hA;exact h2 hf fun e=>.inr (.inl (e ▸ hA))
  ·simp only [List.mem_cons,List.not_mem_nil,or_false] at hf;exact .inl (hf ▸ hS)
 rw [if_neg o0] at hf;by_cases o1:x.op = 1
 ·rw [if_pos o1] at hf;unfold pOp at hA;rw [if_neg o0,if_pos o1] at hA;exact h2 hf fun e=>.inr (.inl (e ▸ hA))
 rw [if_neg o1] at hf;by_cases o2:x.op = 2
 ·rw [if_pos o2] at hf;unfold pOp at hA;rw [if_neg o0,if_neg o1,if_pos o2] at hA;rcases tear_ver h ha hZ x.id x.a hf with e | e | e
  ·exact .inl (e ▸ hS)
  ·refine .inr (.inr (.inl ?_));unfold qSpent qOp Pop.wrong;rw [if_pos (by omega)];dsimp only;rw [if_neg o0,if_neg o1,if_pos o2];exact e
  ·exact .inr (.inl (e ▸ hA))
 rw [if_neg o2] at hf;by_cases o3:x.op = 3
 ·rw [if_pos o3] at hf;unfold pOp at hA;rw [if_neg o0,if_neg o1,if_neg o2,if_pos o3] at hA;rcases tear_chg h ha hZ x.id x.a hx.bb hf with e | e | e | ⟨e1,e⟩
  ·exact .inl (e ▸ hS)
  ·refine .inr (.inr (.inl ?_));unfold qSpent qOp Pop.wrong;rw [if_pos (by omega)];dsimp only;rw [if_neg o0,if_neg o1,if_neg o2,if_pos o3];exact e
  ·exact .inr (.inl (e ▸ hA))
  ·refine .inr (.inr (.inr ?_));unfold qVerified;rw [if_pos o3,if_pos e1];exact e
 rw [if_neg o3] at hf;by_cases o4:x.op = 4
 ·rw [if_pos o4] at hf;unfold pOp at hA;rw [if_neg o0,if_neg o1,if_neg o2,if_neg o3,if_pos o4] at hA;rcases tear_unb h ha hZ x.id x.a hx.bb hf with e | e | e | ⟨e1,p,hp,e⟩
  ·exact .inl (e ▸ hS)
  ·refine .inr (.inr (.inl ?_));unfold qSpent qOp Pop.wrong;rw [if_pos (by omega)];dsimp only;rw [if_neg o0,if_neg o1,if_neg o2,if_neg o3,if_pos o4];exact e
  ·exact .inr (.inl (e ▸ hA))
  ·refine .inr (.inr (.inr ?_));unfold qVerified;rw [if_neg o3,if_pos o4,if_pos e1,hp];exact e
 rw [if_neg o4] at hf;by_cases o5:x.op = 5
 ·rw [if_pos o5] at hf;unfold pOp at hA;rw [if_neg o0,if_neg o1,if_neg o2,if_neg o3,if_neg o4,if_pos o5] at hA;exact h2 hf fun e=>.inr (.inl (e ▸ hA))
 rw [if_neg o5,if_neg (by omega),if_neg (by omega),if_neg (by omega)] at hf
 cases hf
theorem Tear.inv {Z:Nat} {s:VSt} {x:Pop} {f:Items} (h:Tear Z s x f):PInvF f∧Pairs f:=by
 rcases h with ⟨t,hp,-,rfl,-⟩ | ⟨t,hp,-,rfl,-⟩ | ⟨t,hp,-,rfl,-⟩ | ⟨t,hp,-,rfl,-⟩ <;> exact ⟨hp.ps.f,hp.pf⟩
theorem spent_ok {Z:Nat} {s:VSt} {x:Pop} (h:PSP s) (hZ:1800≤Z / 2) (hb:Bytes x.b):(qSpent (qOf s) x).Ok:=by
 unfold qSpent
 split
 ·rename_i ho
  unfold qOp Pop.wrong;dsimp only;rw [if_neg (by omega),if_neg (by omega)];by_cases o2:x.op = 2
  ·rw [if_pos o2];obtain ⟨e,hp⟩:=ver_rel h hZ x.id (x.a ++ List.replicate 17 0);rw [e];exact qOf_ok hp
  rw [if_neg o2];by_cases o3:x.op = 3
  ·rw [if_pos o3];obtain ⟨e,hp⟩:=chg_rel h hZ x.id (x.a ++ List.replicate 17 0) hb;rw [e];exact qOf_ok hp
  rw [if_neg o3,if_pos (by omega)];obtain ⟨e,hp⟩:=unb_rel h hZ x.id (x.a ++ List.replicate 17 0) hb;rw [e];exact qOf_ok hp
 ·exact qOf_ok h
theorem verified_ok {Z:Nat} {s:VSt} {x:Pop} (h:PSP s) (hZ:1800≤Z / 2):(qVerified (qOf s) x).Ok:=by
 unfold qVerified
 split
 ·split
  ·obtain ⟨e,hp⟩:=ver_rel h hZ x.id x.a;rw [e];exact qOf_ok hp
  ·exact qOf_ok h
 split
 ·split
  ·split
   ·exact qOf_ok h
   ·rename_i p hp
    obtain ⟨-,hpok,-⟩:=atQ_some (qOf_ok h).g hp;exact ⟨(qOf_ok h).g.qupd (p:={ p with u:=p.d.cl }) hpok,(qOf_ok h).o⟩
  ·exact qOf_ok h
 ·exact qOf_ok h
theorem u16_rem2 (z k:Nat) (hk:0 < k):(z:Int).tmod (k:Int) = ((z % k:Nat):Int):=by
 rw [Int.tmod_eq_emod_of_nonneg (by omega)];rfl
end Go.Proofs.YtjanpegbemepgaaGreat
namespace Go.Proofs.YtjanpegbemepgaaGreat
open Go.RowKit
open Jn Vn
attribute [local go_sem] Oper.semAt_some
open Classical in
noncomputable def seenB (F:Items) (S:QF):Bool:=decide (Seen F S)
set_option maxHeartbeats 16000000 in
theorem seen21_is {w:World} {pb:Nat} {A:VAt} {m:Mem} {s:VSt} (hp:PnAt w pb A.vb) (h:VRep w A m s) (hxn:s.l.length≤90000) (hI:PInvF (view s)) {v0:Value} {S:QF} (hq:QRep w v0 S) (hS:S.Ok) :
  Calls Tryz.prog 21 #[ptr pb,v0] w fun e w'=>e = .returned (.bool (seenB (view s) S))∧Mod Nowhere w w':=by
 have hq0:=hq;obtain ⟨lv,ov,rfl,hL⟩:=hq;obtain ⟨la,ln,lc,oa,om,oc,rfl,rfl⟩:=hL.form;obtain ⟨av,hav⟩:∃ av,S.act = av:=⟨_,rfl⟩;rw [hav] at hq0 ⊢;have b0:=Blk.new w [.slice la ln lc,.bool av,.slice oa om oc] 50;have hmW:Mod Nowhere w (w.alloc (.cells #[.slice la ln lc,.bool av,.slice oa om oc] 50)):=(Mod.refl _ w).alloc _;obtain ⟨W,hW⟩:∃ W,w.alloc (.cells #[.slice la ln lc,.bool av,.slice oa om oc] 50) = W:=⟨_,rfl⟩;have b0:Blk W w.heap.size [.slice la ln lc,.bool av,.slice oa om oc] 50:=hW ▸ b0;rw [hW] at hmW;have hPL:=fun X (hm:Mod Nowhere w X)=>pinList_ok (hp.fresh hm) (h.fresh hm) (Nat.le_trans hxn (by decide)) hI;have hPI:=fun X (hm:Mod Nowhere w X) (id:Nat) (hid:id≤9)=>pinInfo_ok (hp.fresh hm) (h.fresh hm) (Nat.le_trans hxn (by decide)) hI (id:Int) (by omega) (by omega)
 have hQL:=fun X (hm:Mod Nowhere w X)=>qList_ok (hq0.fresh hm);have hQI:=fun X (hm:Mod Nowhere w X) (id:Int)=>qInfo_ok (hq0.fresh hm) hS id;obtain ⟨P,hP⟩:∃ P,pids (view s) = P:=⟨_,rfl⟩;obtain ⟨Q,hQ⟩:∃ Q,qIds (ql S.g) = Q:=⟨_,rfl⟩;have hPl:P.length≤9:=by rw [← hP];exact pidsTo_le _ _
 have hQl:Q.length≤9:=by rw [← hQ];unfold qIds;rw [List.length_map];exact ql_len _
 rw [hP] at hPL;rw [hQ] at hQL;have hSe:Seen (view s) S→P = Q:=fun hh=>by rw [← hP,← hQ];exact hh.1
 have hSi:Seen (view s) S→∀ id:Nat,id≤9→infoRes (view s) id = qInfo S id:=fun hh=>hh.2
 have hkk:∀ X,Mod Nowhere W X→X.cell? ⟨w.heap.size,0,none⟩ = some (.slice la ln lc)∧X.cell? ⟨w.heap.size,1,none⟩ = some (.bool av)∧X.cell? ⟨w.heap.size,2,none⟩ = some (.slice oa om oc)∧w.heap.size < X.heap.size:=fun X hm =>
  ⟨(b0.mod hm (fun e=>e)).cell 0,(b0.mod hm (fun e=>e)).cell 1,(b0.mod hm (fun e=>e)).cell 2,(b0.mod hm (fun e=>e)).lt⟩
 have hRow:∀ X u (l:List Nat) B,l.length≤9→X.ownsRow B 3 1 u l.length (ints l)→InRow X u (l.map fun x:Nat=>(x:Int)):=fun X u l B _ ho=>owns_InRow ho rfl
 have hIn:∀ X u v,InRow X u (P.map fun x:Nat=>(x:Int))→InRow X v (Q.map fun x:Nat=>(x:Int))→Calls Tryz.prog 56 #[u,v] X fun e w'=>e = .returned (.bool (decide (P = Q)))∧Mod Nowhere X w':=fun X u v h1 h2=>by
  have:=rInts_ok h1 h2 (by rw [List.length_map];omega) (by rw [List.length_map];omega);rw [show decide ((P.map fun x:Nat=>(x:Int)) = Q.map fun x:Nat=>(x:Int)) = decide (P = Q) from decide_eq_decide.2 ⟨map_cast_inj,fun e=>by rw [e]⟩] at this;exact this
 obtain ⟨k0,k1,k2,kl⟩:=hkk W (Mod.refl _ _);have hmD:=(Mod.refl Nowhere W).drew;have hSb:P = Q→(∀ id:Nat,id≤9→infoRes (view s) id = qInfo S id)→Seen (view s) S:=fun e h=>⟨by rw [hP,hQ];exact e,h⟩;have hbT:Seen (view s) S→seenB (view s) S = true:=fun h=>@decide_eq_true _ (Classical.propDecidable _) h;have hbF:¬ Seen (view s) S→seenB (view s) S = false:=fun h=>@decide_eq_false _ (Classical.propDecidable _) h;obtain ⟨sb,hsb⟩:∃ sb,seenB (view s) S = sb:=⟨_,rfl⟩;rw [hsb] at hbT hbF ⊢;generalize hse:Seen (view s) S = SE at hSe hSi hSb hbT hbF;have hgI:=fun id:Int=>infoRes_form (view s) id;have hgQ:=fun id:Int=>qInfo_form S id
 generalize infoRes (view s) = IR at hPI hSi hgI hSb;generalize hqi:qInfo S = QI at hQI hSi hgQ hSb;refine hid12 ?_ hSb hbT hbF hsb hp h hI hq0 hS hL hav b0;clear hSb hbT hbF hsb hp h hI hq0 hS hL hav b0;intro hSb hbT hbF hsb hp h hI hq0 hS hL hav b0;refine hid12 ?_ hmW hPL hPI hQL hQI hP hQ hPl hQl hSe hSi hkk;clear hmW hPL hPI hQL hQI hP hQ hPl hQl hSe hSi hkk;intro hmW hPL hPI hQL hQI hP hQ hPl hQl hSe hSi hkk;refine hid7 ?_ hRow hIn hse hgI hgQ hqi hmD;clear hRow hIn hse hgI hgQ hqi hmD;intro hRow hIn hse hgI hgQ hqi hmD;go_enter Tryz.func21,Tryz.ntmps21;go_wp2
 go_region_held3 (fun w'=>w'.cell? ⟨w.heap.size,0,none⟩ = some (.slice la ln lc)∧w'.cell? ⟨w.heap.size,1,none⟩ = some (.bool av)∧w'.cell? ⟨w.heap.size,2,none⟩ = some (.slice oa om oc)) (simp [*,World.cell?_alloc_some,World.cell?_setCell_far,World.cell?_setCell_other])
  (first
   | (go_at_call 28;(with_reducible refine (hPL.out _ (hmW.out.trans hmD.out)).mono ?_);rintro e w2 ⟨u2,rfl,ho2,hm2⟩;have hr2:=hRow.out _ _ _ _ hPl.out ho2;clear ho2;have hmw2:=hmD.out.trans hm2;obtain ⟨s0,s1,s2,sl⟩:=hkk.out w2 hmw2;replace hm2:=Lib.hid hm2;replace hmw2:=Lib.hid hmw2;replace hr2:=Lib.hid hr2)
   | (go_at_call 57;(with_reducible refine (hQL.out _ (hmW.out.trans hmw2.out)).mono ?_);rintro e w3 ⟨u3,rfl,ho3,hm3⟩;have hr3:=hRow.out _ _ _ _ hQl.out ho3;clear ho3;have hmw3:=hmw2.out.trans hm3;have hr23:=hr2.out.fresh hm3;obtain ⟨r0,r1,r2,rl⟩:=hkk.out w3 hmw3;replace hm3:=Lib.hid hm3;replace hmw3:=Lib.hid hmw3;replace hr3:=Lib.hid hr3;replace hr23:=Lib.hid hr23)
   | (go_at_call 56;(with_reducible refine (hIn.out _ _ _ hr23.out hr3.out).mono ?_);rintro e w4 ⟨rfl,hm4⟩;have hmw4:=hmw3.out.trans hm4;obtain ⟨q0,q1,q2,ql'⟩:=hkk.out w4 hmw4;replace hm4:=Lib.hid hm4;replace hmw4:=Lib.hid hmw4)
   | fail)
 by_cases hpq:P = Q
 ·rw [decide_eq_true hpq,Bool.not_true];replace hpq:=Lib.hid hpq;clear s0 s1 s2 sl r0 r1 r2 rl q0 q1 q2 ql' k0 k1 k2 kl;go_wp2
  go_loopw [5] (fun i wr=>∃ k:Nat,k≤10∧i = .int .i64 k∧(∀ j:Nat,j < k→IR (j:Int) = QI (j:Int))∧Mod Nowhere W wr) (fun i _=>10 - (RowKit.intOf i).toNat)
  case atStart=>exact ⟨0,by omega,rfl,fun j hj=>absurd hj (Nat.not_lt_zero _),hmw4.out⟩
  case round =>
   obtain ⟨k,hk,rfl,hall0,hmr⟩:=hrel;replace hall0:=Lib.hid hall0;by_cases hk9:k≤9
   ·have hki:(k:Int)≤9:=by omega
    have hcP:=hPI.out wr (hmW.out.trans hmr) k hk9;obtain ⟨a0,a1,a2,a3,ca,ea⟩:=hgI.out (k:Int);obtain ⟨x0,x1,x2,x3,cx,ex⟩:=hgQ.out (k:Int);have hall:SE→info4 a0 a1 a2 a3 ca = info4 x0 x1 x2 x3 cx:=fun hh=>by rw [← ea,← ex];exact hSi.out hh k hk9
    rw [ea] at hcP;have hcQ:=fun X (hm:Mod Nowhere w X)=>hQI.out X hm (k:Int);rw [ex] at hcQ;unfold info4 at hcP hcQ hall;refine hid6 ?_ hmr hcP hcQ hall ea ex;clear hmr hcP hcQ hall ea ex;intro hmr hcP hcQ hall ea ex;go_wp2_with fail;refine hcP.out.mono ?_;rintro e w2 ⟨rfl,hm2⟩;obtain ⟨X1,hX1⟩:∃ X1,w2.alloc (.cells #[.int .i64 a0,.int .i64 a1,.int .i64 a2,.int .i64 a3] 62) = X1:=⟨_,rfl⟩;have bI:Blk X1 w2.heap.size [.int .i64 a0,.int .i64 a1,.int .i64 a2,.int .i64 a3] 62:=hX1 ▸ Blk.new w2 _ _;have m21:Mod Nowhere w2 X1:=hX1 ▸ (Mod.refl _ w2).alloc _;have hm1:=(hmr.out.trans hm2).trans m21;obtain ⟨s0,s1,s2,sl⟩:=hkk.out X1 hm1
    have hcQ1:=hcQ.out X1 (hmW.out.trans hm1);refine hid5 ?_ hm2 bI m21 hm1 hcQ1;clear hm2 bI m21 hm1 hcQ1;intro hm2 bI m21 hm1 hcQ1;go_wp2_with fail;refine hcQ1.out.mono ?_;rintro e w3 ⟨rfl,hm3⟩;obtain ⟨X2,hX2⟩:∃ X2,w3.alloc (.cells #[.int .i64 x0,.int .i64 x1,.int .i64 x2,.int .i64 x3] 62) = X2:=⟨_,rfl⟩;have bJ:Blk X2 w3.heap.size [.int .i64 x0,.int .i64 x1,.int .i64 x2,.int .i64 x3] 62:=hX2 ▸ Blk.new w3 _ _;have m32:Mod Nowhere w3 X2:=hX2 ▸ (Mod.refl _ w3).alloc _;have hm13:=hm3.trans m32;have bI2:=bI.out.mod hm13 (fun e=>e);have hm02:=hm1.out.trans hm13;have i0:=bI2.cell 0;have i1:=bI2.cell 1
    have i2:=bI2.cell 2;have i3:=bI2.cell 3;have j0:=bJ.cell 0;have j1:=bJ.cell 1;have j2:=bJ.cell 2;have j3:=bJ.cell 3;simp only [List.getElem?_cons_zero,List.getElem?_cons_succ] at i0 i1 i2 i3 j0 j1 j2 j3;have il:=bI2.lt;have jl:=bJ.lt;clear s0 s1 s2 sl;refine hid6 ?_ hm3 bJ m32 hm13 bI2 hm02;clear hm3 bJ m32 hm13 bI2 hm02;intro hm3 bJ m32 hm13 bI2 hm02;by_cases hc:ca = cx
    ·subst hc;by_cases h0:a0 = x0∧a1 = x1∧a2 = x2∧a3 = x3
     ·obtain ⟨rfl,rfl,rfl,rfl⟩:=h0
      have hnx:∀ j:Nat,j < k + 1→IR (j:Int) = QI (j:Int):=fun j hj=>by
       by_cases e:j = k
       ·rw [e,ea.out,ex.out]
       ·exact hall0.out j (by omega)
      replace hnx:=Lib.hid hnx;go_wp2;go_roundw
      case rel=>exact ⟨k + 1,by omega,by go_num,hnx.out,hm02.out⟩
      case measure=>simp [RowKit.intOf];omega
     ·have hfin:=hmW.out.trans hm02.out;have hno:=hbF.out fun hh=>h0 (by have:=hall.out hh;simpa [Value.tuple.injEq] using this);replace hno:=Lib.hid hno;go_wp2
      all_goals first | (go_ret;exact ⟨by rw [hno.out];rfl,hfin⟩) | (exfalso;simp_all;done)
    ·have hfin:=hmW.out.trans hm02.out;have hno:=hbF.out fun hh=>hc (by have:=hall.out hh;simp at this;exact this.2);have hne:(ca != cx) = true:=by simpa using hc
     replace hno:=Lib.hid hno;go_wp2
     all_goals first | (go_ret;exact ⟨by rw [hno.out];rfl,hfin⟩) | (exfalso;simp_all;done)
   ·obtain rfl:k = 10:=by omega
    have hfin:=hmW.out.trans hmr;have hyes:=hbT.out (hSb.out hpq.out fun j hj=>hall0.out j (by omega));replace hyes:=Lib.hid hyes;go_wp2;go_ret;exact ⟨by rw [hyes.out];rfl,hfin⟩
 ·rw [decide_eq_false hpq,Bool.not_false];have hfin:=hmW.out.trans hmw4.out;have hno:=hbF.out fun h=>hpq (hSe.out h);replace hno:=Lib.hid hno;go_wp2;go_ret;exact ⟨by rw [hno.out];rfl,hfin⟩
end Go.Proofs.YtjanpegbemepgaaGreat
namespace Go.Proofs.YtjanpegbemepgaaGreat
open Go.RowKit
def apartB (ops:Array Oper):Bool :=
 (List.range ops.size).all fun i=>match (ops[i]?).bind (·.dst) with
  | none=>true
  | some d=>(List.range ops.size).all fun j=>j == i || (ops[j]?).bind (·.dst) != some d
theorem apartB_spec {ops:Array Oper} (h:apartB ops = true) {i j d:Nat} (hi:i < ops.size) (hj:j < ops.size) (hne:j ≠ i) (hd:(ops[i]?).bind (·.dst) = some d):(ops[j]?).bind (·.dst) ≠ some d:=by
 unfold apartB at h;rw [List.all_eq_true] at h;have h1:=h i (List.mem_range.2 hi);rw [hd] at h1;simp only at h1;rw [List.all_eq_true] at h1;have h2:=h1 j (List.mem_range.2 hj);have hb:(j == i) = false:=by simpa using hne
 rw [hb,Bool.false_or] at h2;intro e;rw [e] at h2;simp at h2
def updv (xs:Nat→Value) (i:Nat) (v:Value):Nat→Value:=fun j=>if j = i then v else xs j
theorem put_put (a:Act) (d:Option Tmp) (u v:Value):(a.put d u).put d v = a.put d v:=by
 cases d with
 | none=>rfl
 | some d=>simp [Act.put]
theorem put_self (a:Act) (d:Option Tmp) (h:∀ t,d = some t→True):a.put d ((d.map fun t=>a.tmps.getD t undef).getD undef) = a:=by
 cases d with
 | none=>rfl
 | some d =>
  obtain ⟨tmps,defers⟩:=a;simp only [Act.put,Option.map_some,Option.getD_some]
  congr 1
  apply Array.ext_getElem?
  intro i;rw [Array.getElem?_setIfInBounds]
  split
  ·rename_i e
   subst e
   split
   ·rename_i h2;simp [Array.getD_eq_getD_getElem?,h2]
   ·rename_i h2;simp [Array.getElem?_eq_none (Nat.le_of_not_lt h2)]
  ·rfl
section
variable {ops : Array Oper}
theorem putAll_put (hs:apartB ops = true) {i:Nat} (hi:i < ops.size) (xs:Nat→Value) (v:Value):∀ (l:List Nat) (a:Act),l.Nodup→(∀ j ∈ l,j < ops.size)→i ∉ l →
  (putAll ops xs l a).put ((ops[i]?).bind (·.dst)) v = putAll ops (updv xs i v) l (a.put ((ops[i]?).bind (·.dst)) v)
 | [],_,_,_,_=>rfl
 | j :: l,a,hn,hl,hm=>by
  obtain ⟨hj,hn'⟩:=List.nodup_cons.1 hn;have hji:j ≠ i:=fun e=>hm (by rw [e];exact List.mem_cons_self ..);simp only [putAll];rw [putAll_put hs hi xs v l _ hn' (fun k hk=>hl k (List.mem_cons_of_mem _ hk)) (fun h=>hm (List.mem_cons_of_mem _ h))];rw [show updv xs i v j = xs j by unfold updv;rw [if_neg hji]]
  congr 1
  exact Act.put_comm a _ _ fun d hd=>fun e=>apartB_spec hs (hl j (List.mem_cons_self ..)) hi (Ne.symm hji) hd e
theorem putAll_upd (hs:apartB ops = true) {i:Nat} (hi:i < ops.size) (xs:Nat→Value) (v:Value):∀ (l:List Nat) (a:Act),l.Nodup→(∀ j ∈ l,j < ops.size)→i ∈ l →
  (putAll ops xs l a).put ((ops[i]?).bind (·.dst)) v = putAll ops (updv xs i v) l a
 | [],_,_,_,h=>by cases h
 | j :: l,a,hn,hl,hm=>by
  obtain ⟨hj,hn'⟩:=List.nodup_cons.1 hn;simp only [putAll];by_cases e:j = i
  ·subst e;rw [putAll_put hs hi xs v l _ hn' (fun k hk=>hl k (List.mem_cons_of_mem _ hk)) hj,put_put];rw [show updv xs j v j = v by unfold updv;rw [if_pos rfl]]
  ·have hm':i ∈ l:=by
    rcases List.mem_cons.1 hm with q | q
    ·exact (e q.symm).elim
    ·exact q
   rw [putAll_upd hs hi xs v l _ hn' (fun k hk=>hl k (List.mem_cons_of_mem _ hk)) hm'];rw [show updv xs i v j = xs j by unfold updv;rw [if_neg e]]
theorem putAll_self (a:Act):∀ (l:List Nat),putAll ops (fun i=>(((ops[i]?).bind (·.dst)).map fun t=>a.tmps.getD t undef).getD undef) l a = a
 | []=>rfl
 | i :: l=>by
  simp only [putAll];rw [put_self a _ (fun _ _=>trivial)];exact putAll_self a l
end
def waitsB (ops:Array Oper) (i j:Nat):Bool:=match ops[i]? with
 | none=>false
 | some o=>o.after.any fun e=>Region.binds .any e && e.on == j
theorem waitsB_spec {ops:Array Oper} {i j:Nat} {o:Oper} (ho:ops[i]? = some o) (h:waitsB ops i j = true):∃ e ∈ o.after,Region.binds .any e = true∧e.on = j:=by
 unfold waitsB at h;rw [ho] at h;obtain ⟨e,he,h2⟩:=Array.any_eq_true'.1 h;simp only [Bool.and_eq_true,beq_iff_eq] at h2;exact ⟨e,he,h2.1,h2.2⟩
theorem wp_region_facts {P:Program} {id:Nat} {L:List Oper} {Q:Exit→Act→World→Prop} {a:Act} {w:World} (F:Nat→Value→World→Prop) (R:World→World→Prop) (A:(Nat→Value)→Act)
  (hm:P.follows .mixedOrders = true) (hs:apartB L.toArray = true) (hord:orderB L.toArray = true)
  (hrefl:∀ w,R w w) (htrans:∀ a b c,R a b→R b c→R a c) (hst:∀ i v w w',F i v w→R w w'→F i v w')
  (hA:∀ xs,putAll L.toArray xs (List.range L.toArray.size) a = A xs)
  (hstep:AllFrom (fun i o=>∀ (xs:Nat→Value) (w':World),R w.drew w'→(∀ j,waitsB L.toArray i j = true→F j (xs j) w')→∀ K:Act→World→Prop,(∀ v w'',F i v w''→R w' w''→K ((A xs).put o.dst v) w'') →
   if Region.wanted o (yielded L.toArray (A xs).tmps) = true then Oper.wp P o (A xs) w' K Q else K ((A xs).put o.dst undef) w') 0 L)
  (hend:∀ xs w',R w.drew w'→(∀ i,i < L.toArray.size→F i (xs i) w')→Q .normal (A xs) w') :
  (Code.region id L.toArray true).wp P Q a w:=by
 refine wp_region_any hm ?_
 have key:∀ (fuel:Nat) (listed:Array Bool) (a':Act) (w':World) (xs:Nat→Value),listed.size = L.toArray.size→((List.range L.toArray.size).filter fun j=>!listed.getD j false).length = fuel →
   a' = putAll L.toArray xs (List.range L.toArray.size) a→R w.drew w'→(∀ i,listed.getD i false = true→F i (xs i) w') →
   wpAny P .any L.toArray Q fuel listed a' w':=by
  intro fuel
  induction fuel with
  | zero =>
   intro listed a' w' xs hsz hlen hput hR hF;have hnil:=List.length_eq_zero_iff.1 hlen
   have hall:∀ i,i < L.toArray.size→listed.getD i false = true:=fun i hi=>by
    cases hb:listed.getD i false with
    | true=>rfl
    | false =>
     have:i ∈ (List.range L.toArray.size).filter fun j=>!listed.getD j false:=List.mem_filter.2 ⟨List.mem_range.2 hi,by rw [hb];rfl⟩;rw [hnil] at this
     cases this
   refine ⟨?_,?_⟩
   ·rw [List.eq_nil_iff_forall_not_mem];intro j hj;obtain ⟨h1,o,ho,_⟩:=mem_ready.1 hj;have hlt:=(Array.getElem?_eq_some_iff.1 ho).1;have h2:=hall j hlt;simp only [Array.getD_eq_getD_getElem?,Array.getElem?_eq_getElem (show j < listed.size by omega),Option.getD_some] at h1 h2;rw [h1] at h2;cases h2
   ·subst hput;rw [hA];exact hend _ _ hR (fun i hi=>hF i (hall i hi))
  | succ fuel ih =>
   intro listed a' w' xs hsz hlen hput hR hF;refine ⟨fun hnil=>?_,?_⟩
   ·exfalso
    have hall:=ready_some hord hsz hnil
    have:((List.range L.toArray.size).filter fun j=>!listed.getD j false) = []:=List.filter_eq_nil_iff.2 fun j hj=>by
     rw [hall j (List.mem_range.1 hj)];simp
    rw [this] at hlen
    cases hlen
   ·intro i hi;obtain ⟨h1,o,ho,hdeps⟩:=mem_ready.1 hi;have hlt:=(Array.getElem?_eq_some_iff.1 ho).1;have hf:listed.getD i false = false:=getD_low h1;have hin:i ∈ (List.range L.toArray.size).filter fun j=>!listed.getD j false:=List.mem_filter.2 ⟨List.mem_range.2 hlt,by rw [hf];rfl⟩;have hnd:((List.range L.toArray.size).filter fun j=>!listed.getD j false).Nodup:=List.nodup_range.filter _
    have hset:∀ j,(listed.setIfInBounds i true).getD j false = if j = i then true else listed.getD j false:=by
     intro j;by_cases e:j = i
     ·subst e;rw [if_pos rfl];simp [Array.getD_eq_getD_getElem?,show j < listed.size by omega]
     ·rw [if_neg e,getD_set_ne _ (Ne.symm e)]
    have hrem:((List.range L.toArray.size).filter fun j=>!(listed.setIfInBounds i true).getD j false) = ((List.range L.toArray.size).filter fun j=>!listed.getD j false).filter (· != i):=by
     rw [List.filter_filter];refine List.filter_congr fun j _=>?_;rw [hset];by_cases e:j = i
     ·subst e;simp
     ·have:(j != i) = true:=by simpa using e
      rw [if_neg e,this];simp
    have hst':=(AllFrom.get hstep i o (by simpa using ho));rw [Nat.zero_add] at hst';subst hput;refine wpOp_step ho ?_;intro K' hK';rw [hA];refine hst' xs w' hR (fun j hj=>by obtain ⟨e,he,hb,hon⟩:=waitsB_spec ho hj;rw [← hon];exact hF e.on (hdeps e he hb)) K' ?_;intro v w'' hFv hRw;refine hK' _ _ ?_;rw [← hA]
    have hdo:(L.toArray[i]?).bind (·.dst) = o.dst:=by rw [ho];rfl
    refine ih _ _ _ (updv xs i v) (by simp [hsz]) ?_ ?_ (htrans _ _ _ hR hRw) ?_
    ·rw [hrem];have h4:=List.length_erase_of_mem hin;rw [hnd.erase_eq_filter] at h4;rw [h4,hlen];rfl
    ·rw [← hdo];exact putAll_upd hs hlt xs v _ _ List.nodup_range (fun j hj=>List.mem_range.1 hj) (List.mem_range.2 hlt)
    ·intro j hj;rw [hset] at hj;unfold updv
     split
     ·rename_i e;subst e;exact hFv
     ·rename_i e
      rw [if_neg e] at hj;exact hst _ _ _ _ (hF j hj) hRw
 have hz:∀ j,(Array.replicate L.toArray.size false).getD j false = false:=fun j=>by
  simp only [Array.getD_eq_getD_getElem?,Array.getElem?_replicate]
  split <;> rfl
 have hfil:((List.range L.toArray.size).filter fun j=>!(Array.replicate L.toArray.size false).getD j false) = List.range L.toArray.size:=List.filter_eq_self.2 fun j _=>by rw [hz];rfl
 refine key _ _ _ _ (fun i=>(((L.toArray[i]?).bind (·.dst)).map fun t=>a.tmps.getD t undef).getD undef) (by simp) ?_ (putAll_self a _).symm (hrefl _) ?_
 ·rw [hfil];simp
 ·intro i hi;rw [hz] at hi;cases hi
theorem wp_region_calm {P:Program} {id:Nat} {L:List Oper} {Q:Exit→Act→World→Prop} {a:Act} {w:World} (F:Nat→Value→World→Prop) (A:(Nat→Value)→Act)
  (hm:P.follows .mixedOrders = true) (hs:apartB L.toArray = true) (hord:orderB L.toArray = true)
  (hA:∀ xs,putAll L.toArray xs (List.range L.toArray.size) a = A xs)
  (hstep:AllFrom (fun i o=>∀ (xs:Nat→Value) (w':World),Mod Nowhere w.drew w'→(∀ j,waitsB L.toArray i j = true→∀ W,Mod Nowhere w' W→F j (xs j) W)→∀ K:Act→World→Prop,(∀ v w'',(∀ W,Mod Nowhere w'' W→F i v W)→Mod Nowhere w' w''→K ((A xs).put o.dst v) w'') →
   if Region.wanted o (yielded L.toArray (A xs).tmps) = true then Oper.wp P o (A xs) w' K Q else K ((A xs).put o.dst undef) w') 0 L)
  (hend:∀ xs w',Mod Nowhere w.drew w'→(∀ i,i < L.toArray.size→∀ W,Mod Nowhere w' W→F i (xs i) W)→Q .normal (A xs) w') :
  (Code.region id L.toArray true).wp P Q a w :=
 wp_region_facts (fun i v w'=>∀ W,Mod Nowhere w' W→F i v W) (Mod Nowhere) A hm hs hord (Mod.refl Nowhere) (fun _ _ _=>Mod.trans) (fun _ _ _ _ h hm W hW=>h W (hm.trans hW)) hA hstep hend
end Go.Proofs.YtjanpegbemepgaaGreat
