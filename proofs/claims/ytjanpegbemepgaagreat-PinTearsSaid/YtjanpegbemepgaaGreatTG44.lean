/-
  A call of PINs that came in by value.
-/
import Derived.Test.YtjanpegbemepgaaGreatTG43
set_option linter.unusedVariables false
set_option linter.unusedSimpArgs false
set_option maxRecDepth 100000
namespace Go.Proofs.YtjanpegbemepgaaGreat
open Go.RowKit Go.ChangeShapes Go.WideShapes Go.ChangeAt
open Jn Vn
def Pop.cells (x:Pop):List Value:=[.int .i64 x.op,.int .i64 x.id] ++ (x.d.cells ++ [x.av,x.bv])
structure PopAt (w:World) (x:Pop):Prop where
 sa:Src w x.av x.a
 ba:Bytes x.a
 sb:Src w x.bv x.b
 bb:Bytes x.b
 d:Pin7In w x.d
 op:In64 x.op
 id:In64 x.id
theorem PopAt.fresh {w w':World} {x:Pop} (h:PopAt w x) (hm:Mod Nowhere w w'):PopAt w' x:={ h with sa:=h.sa.fresh hm,sb:=h.sb.fresh hm,d:=h.d.fresh hm }
theorem PopIn.at_ {w:World} {b off:Nat} {x:Pop} (h:PopIn w b off x):PopAt w x:=⟨h.sa,h.ba,h.sb,h.bb,h.d,h.op,h.id⟩
theorem open_row_pop {H:Type} {enc:TypeId × Value→H} {W:World} {v:Value} {d:DataW H} {p:List MemPlace} (hv:Value.okWide Tryz.prog W .any 0 37 v) (h:DataW.Trod enc Tryz.prog W 0 (fun _=>true) true 37 v d p):∃ z:Pop,v = .agg z.cells.toArray∧PopAt W z:=by
 have hu:∃ fs,Tryz.prog.underlying 37 = some (.struct fs):=by
  have:(Tryz.prog.underlying 37).map (fun x=>match x with | .struct fs=>fs.size | _=>0) = some 5:=by kernel_rfl
  cases hh:Tryz.prog.underlying 37 with
  | none=>rw [hh] at this;cases this
  | some d =>
   rw [hh] at this
   cases d <;> simp at this
   exact ⟨_,rfl⟩
 obtain ⟨fs,hfs⟩:=hu;obtain ⟨cs,rfl,hcs⟩:=okWide_struct hfs hv;obtain ⟨fuel,hf⟩:=h;obtain ⟨z,e,h1,h2,h3,h4,h5,h6,h7⟩:=open_popc hf;refine ⟨z,?_,⟨h1,h2,h3,h4,h5,h6,h7⟩⟩;obtain ⟨l⟩:=cs;simp only [Value.cells] at e;rw [e]
 rfl
end Go.Proofs.YtjanpegbemepgaaGreat
namespace Go.Proofs.YtjanpegbemepgaaGreat
open Jn Vn
def Pin7.ok (x:Pin7):Bool:=pinValidB x.id x.v.length x.limit x.lo x.hi x.u.length x.cl
def Pin7.pd (x:Pin7):PinD:=⟨x.id.toNat,x.v,x.limit.toNat,x.lo.toNat,x.hi.toNat,x.u,x.cl.toNat⟩
theorem Pin7In.pok {w:World} {x:Pin7} (h:Pin7In w x) (hv:x.ok = true):POk x.pd∧((x.id.toNat:Nat):Int) = x.id∧((x.limit.toNat:Nat):Int) = x.limit∧((x.lo.toNat:Nat):Int) = x.lo∧((x.hi.toNat:Nat):Int) = x.hi∧((x.cl.toNat:Nat):Int) = x.cl:=by
 unfold Pin7.ok pinValidB unbB fitsB at hv;simp only [Bool.and_eq_true,Bool.or_eq_true,decide_eq_true_eq] at hv;obtain ⟨⟨⟨⟨⟨⟨⟨q1,q2⟩,q3⟩,q4⟩,q5⟩,q6⟩,q7,q8⟩,q9⟩:=hv;refine ⟨⟨?_,?_,?_,?_,?_,?_,?_,?_,?_,h.bv,h.bu⟩,?_⟩
 ·show 1≤x.id.toNat;omega
 ·show x.id.toNat≤8;omega
 ·show 1≤x.limit.toNat;omega
 ·show x.limit.toNat≤15;omega
 ·show 1≤x.lo.toNat;omega
 ·show x.hi.toNat≤16;omega
 ·show x.lo.toNat≤x.v.length;omega
 ·show x.v.length≤x.hi.toNat;omega
 ·show (x.u = []∧x.cl.toNat = 0) ∨ (1≤x.u.length∧x.u.length≤16∧1≤x.cl.toNat∧x.cl.toNat≤15)
  rcases q9 with h1 | h1
  ·exact .inl ⟨List.eq_nil_of_length_eq_zero h1.1,by omega⟩
  ·exact .inr (by omega)
 ·omega
def pOp (Z:Nat) (s:VSt) (x:Pop):Guess :=
 if x.op = 0 then (if x.d.ok = true then ⟨(pCreate Z s x.d.pd true).1,0,(pCreate Z s x.d.pd true).2,[s.f,(pCreate Z s x.d.pd true).1.f]⟩ else ⟨s,0,1,[s.f]⟩)
 else if x.op = 1 then ⟨(pDelI Z s x.id).1,0,(pDelI Z s x.id).2,[s.f,(pDelI Z s x.id).1.f]⟩
 else if x.op = 2 then pVer Z s x.id x.a
 else if x.op = 3 then pChg Z s x.id x.a x.b
 else if x.op = 4 then pUnb Z s x.id x.a x.b
 else if x.op = 5 then ⟨(pSet Z s x.id x.a).1,0,(pSet Z s x.id x.a).2,[s.f,(pSet Z s x.id x.a).1.f]⟩
 else if x.op = 6 then ⟨(vBegin s).1,0,(vBegin s).2,[]⟩
 else if x.op = 7 then ⟨(vCommit Z s).1,0,(vCommit Z s).2,[s.f,(vCommit Z s).1.f]⟩
 else if x.op = 8 then ⟨(vAbort s).1,0,(vAbort s).2,[]⟩
 else ⟨s,0,0,[]⟩
def qOp (S:QF) (x:Pop):QF × Nat × Nat :=
 if x.op = 0 then (if x.d.ok = true then ((qCreate S x.d.pd).1,0,(qCreate S x.d.pd).2) else (S,0,1))
 else if x.op = 1 then ((qDelete S x.id).1,0,(qDelete S x.id).2)
 else if x.op = 2 then qVerify S x.id x.a
 else if x.op = 3 then qChange S x.id x.a x.b
 else if x.op = 4 then qUnblock S x.id x.a x.b
 else if x.op = 5 then ((qSet S x.id x.a).1,0,(qSet S x.id x.a).2)
 else if x.op = 6 then (if S.act = true then (S,0,14) else (qBegin S,0,0))
 else if x.op = 7 then (if S.act = true then (qCommit S,0,0) else (S,0,14))
 else if x.op = 8 then (if S.act = true then (qAbort S,0,0) else (S,0,14))
 else (S,0,0)
theorem op_rel {Z:Nat} {s:VSt} {w:World} {x:Pop} (h:PSP s) (hZ:1800≤Z / 2) (hx:PopAt w x) :
  qOp (qOf s) x = (qOf (pOp Z s x).s,(pOp Z s x).left,(pOp Z s x).e)∧PSP (pOp Z s x).s:=by
 unfold qOp pOp
 split
 ·split
  ·rename_i hv
   obtain ⟨e,hp⟩:=create_rel h hZ (hx.d.pok hv).1;exact ⟨by rw [e],hp⟩
  ·exact ⟨rfl,h⟩
 split
 ·obtain ⟨e,hp⟩:=del_rel h hZ x.id;exact ⟨by rw [e],hp⟩
 split
 ·exact ver_rel h hZ x.id x.a
 split
 ·exact chg_rel h hZ x.id x.a hx.bb
 split
 ·exact unb_rel h hZ x.id x.a hx.bb
 split
 ·obtain ⟨e,hp⟩:=set_rel h hZ x.id hx.ba;exact ⟨by rw [e],hp⟩
 split
 ·have ea:(qOf s).act = s.act:=rfl;rw [ea];by_cases ha:s.act = true
  ·rw [if_pos ha];unfold vBegin;rw [if_pos ha];exact ⟨rfl,h⟩
  ·rw [if_neg ha];obtain ⟨e1,e2,e3⟩:=begin_rel h (by simpa using ha);exact ⟨by rw [e1,e2],e3⟩
 split
 ·have ea:(qOf s).act = s.act:=rfl;rw [ea];by_cases ha:s.act = true
  ·rw [if_pos ha];obtain ⟨e1,e2,e3⟩:=commit_rel h hZ ha;exact ⟨by rw [e1,e2],e3⟩
  ·rw [if_neg ha];unfold vCommit;rw [if_neg ha];exact ⟨rfl,h⟩
 split
 ·have ea:(qOf s).act = s.act:=rfl;rw [ea];by_cases ha:s.act = true
  ·rw [if_pos ha];obtain ⟨e1,e2,e3⟩:=abort_rel h ha;exact ⟨by rw [e1,e2],e3⟩
  ·rw [if_neg ha];unfold vAbort;rw [if_neg ha];exact ⟨rfl,h⟩
 exact ⟨rfl,h⟩
theorem pApp_len (s:VSt) (r:Rec):(pApp s r).l.length≤s.l.length + 1:=by
 unfold pApp
 split
 ·dsimp only;rw [List.length_append];exact Nat.le_refl _
 ·exact Nat.le_succ _
theorem putS_len (s:VSt) (d:PinD) (t u:Nat):(putS s d t u).l.length≤s.l.length + 2:=by
 unfold putS;have h1:=pApp_len s (16 + d.id,some (pinB d));have h2:=pApp_len (pApp s (16 + d.id,some (pinB d))) (24 + d.id,some [t,u]);omega
theorem delS_len (s:VSt) (id:Nat):(delS s id).l.length≤s.l.length + 2:=by
 unfold delS;have h1:=pApp_len s (16 + id,none);have h2:=pApp_len (pApp s (16 + id,none)) (24 + id,none);omega
theorem repl_len {Z:Nat} {s:VSt} (h:PS s) (hZ:1800≤Z / 2) {d:PinD} (hd:POk d) {v:List Nat} (hdv:POk { d with value:=v }):(pRepl Z s d v).1.l.length≤s.l.length + 2:=by
 rw [pRepl_is h hd hdv hZ];exact putS_len _ _ _ _
theorem then_len {Z:Nat} {s:VSt} (hZ:1800≤Z / 2) {d:PinD} (hd:POk d) {v:List Nat} (hdv:POk { d with value:=v }) {G:Guess} (hG:PS G.s) (hl:G.s.l = s.l):(pThen Z d v G).s.l.length≤s.l.length + 2:=by
 unfold pThen
 split
 ·have:=repl_len hG hZ hd hdv;rw [hl] at this;exact this
 ·rw [hl];exact Nat.le_add_right _ _
theorem op_len {Z:Nat} {s:VSt} {w:World} {x:Pop} (h:PSP s) (hZ:1800≤Z / 2) (hx:PopAt w x):(pOp Z s x).s.l.length≤s.l.length + 2:=by
 unfold pOp
 split
 ·split
  ·rename_i hv
   unfold pCreate;rw [if_pos rfl]
   split
   ·exact Nat.le_add_right _ _
   ·have hd:=(hx.d.pok hv).1;rw [pPut_is h.ps hd hd.l15 hd.cl15 hZ];exact putS_len _ _ _ _
  ·exact Nat.le_add_right _ _
 split
 ·unfold pDelI
  split
  ·dsimp only;rw [pDel_is h.ps h.pv _ hZ]
   split
   ·exact delS_len _ _
   ·exact Nat.le_add_right _ _
  ·exact Nat.le_add_right _ _
 split
 ·unfold pVer
  cases ha:atI (pget (view s)) x.id with
  | none=>exact Nat.le_add_right _ _
  | some d =>
   obtain ⟨-,hd,-⟩:=atI_some h.ps.view ha;have:=(pGuard_ps h.ps hd hZ false x.a).2.1;dsimp only;rw [this];exact Nat.le_add_right _ _
 split
 ·unfold pChg
  cases ha:atI (pget (view s)) x.id with
  | none=>exact Nat.le_add_right _ _
  | some d =>
   obtain ⟨-,hd,-⟩:=atI_some h.ps.view ha;obtain ⟨g1,g2,-⟩:=pGuard_ps h.ps hd hZ false x.a;dsimp only
   split
   ·rename_i hf
    exact then_len hZ hd (hd.value hf hx.bb) g1 g2
   ·exact Nat.le_add_right _ _
 split
 ·unfold pUnb
  cases ha:atI (pget (view s)) x.id with
  | none=>exact Nat.le_add_right _ _
  | some d =>
   obtain ⟨-,hd,-⟩:=atI_some h.ps.view ha;obtain ⟨g1,g2,-⟩:=pGuard_ps h.ps hd hZ true x.a;dsimp only
   split
   ·exact Nat.le_add_right _ _
   ·split
    ·rename_i hf
     exact then_len hZ hd (hd.value hf hx.bb) g1 g2
    ·exact Nat.le_add_right _ _
 split
 ·unfold pSet
  cases ha:atI (pget (view s)) x.id with
  | none=>exact Nat.le_add_right _ _
  | some d =>
   obtain ⟨-,hd,-⟩:=atI_some h.ps.view ha;dsimp only
   split
   ·rename_i hf
    exact repl_len h.ps hZ hd (hd.value hf hx.ba)
   ·exact Nat.le_add_right _ _
 split
 ·unfold vBegin
  split
  ·exact Nat.le_add_right _ _
  ·exact Nat.zero_le _
 split
 ·rw [vCommit_pin h.ps hZ]
  split
  ·exact Nat.zero_le _
  ·exact Nat.le_add_right _ _
 split
 ·unfold vAbort
  split
  ·exact Nat.zero_le _
  ·exact Nat.le_add_right _ _
 exact Nat.le_add_right _ _
end Go.Proofs.YtjanpegbemepgaaGreat
namespace Go.Proofs.YtjanpegbemepgaaGreat
open Go.RowKit
open Jn Vn
attribute [local go_sem] Oper.semAt_some
theorem owns_InRow {w:World} {base:Nat} {v:Value} {n:Nat} {l:List Nat} (h:w.ownsRow base 3 1 v n (ints l)) (hn:l.length = n):InRow w v (l.map fun x:Nat=>(x:Int)):=by
 have hs:Sl w v 3 1 n (ints l):=Sl.of_owns h;subst hn;by_cases h0:l.length = 0
 ·obtain ⟨a,c,rfl,h1,h2,-⟩:=hs.gen;refine ⟨a,c,by rw [List.length_map],by rw [List.length_map];exact h1,h2,fun h=>?_⟩;rw [List.length_map] at h;omega
 ·obtain ⟨b,off,cap,rfl,hb,h1,h2,hc,_⟩:=hs.open (by omega);refine ⟨_,cap,by rw [List.length_map],by rw [List.length_map];exact h1,h2,fun _=>⟨b,off,rfl,hb,fun i hi=>?_⟩⟩;rw [List.length_map] at hi;rw [hc i (by omega)];simp [ints,List.getD_eq_getElem?_getD,hi]
def Seen (F:Items) (S:QF):Prop:=pids F = qIds (ql S.g)∧∀ id:Nat,id≤9→infoRes F id = qInfo S id
def info4 (a0 a1 a2 a3:Int) (c:Bool):Value:=.tuple #[.agg #[.int .i64 a0,.int .i64 a1,.int .i64 a2,.int .i64 a3],.bool c]
theorem infoRes_form (F:Items) (id:Int):∃ a0 a1 a2 a3 c,infoRes F id = info4 a0 a1 a2 a3 c:=by
 unfold infoRes
 split
 ·exact ⟨_,_,_,_,_,rfl⟩
 ·exact ⟨_,_,_,_,_,rfl⟩
theorem qInfo_form (S:QF) (id:Int):∃ a0 a1 a2 a3 c,qInfo S id = info4 a0 a1 a2 a3 c:=by
 unfold qInfo
 split
 ·exact ⟨_,_,_,_,_,rfl⟩
 ·exact ⟨_,_,_,_,_,rfl⟩
theorem map_cast_inj {a b:List Nat} (h:(a.map fun x:Nat=>(x:Int)) = b.map fun x:Nat=>(x:Int)):a = b:=(List.map_inj_right (fun x y e=>by omega)).1 h
def shortB (al bl vl ul:Nat):Bool:=decide (al≤40) && decide (bl≤40) && decide (vl≤40) && decide (ul≤40)
set_option maxHeartbeats 8000000 in
theorem short21_ok {w:World} (op id did:Int) (va:Option Addr) (vl vc:Nat) (li lo hi:Int) (ua:Option Addr) (ul uc:Nat) (cl:Int) (aa:Option Addr) (al ac:Nat) (ba:Option Addr) (bl bc:Nat) :
  Calls Tryz.prog 18 #[.agg #[.int .i64 op,.int .i64 id,.int .i64 did,.slice va vl vc,.int .i64 li,.int .i64 lo,.int .i64 hi,.slice ua ul uc,.int .i64 cl,.slice aa al ac,.slice ba bl bc]] w fun e w'=>e = .returned (.bool (shortB al bl vl ul))∧Mod Nowhere w w':=by
 have hm0:Mod Nowhere w (w.alloc (.cells #[.int .i64 op,.int .i64 id,.int .i64 did,.slice va vl vc,.int .i64 li,.int .i64 lo,.int .i64 hi,.slice ua ul uc,.int .i64 cl,.slice aa al ac,.slice ba bl bc] 37)):=(Mod.refl _ w).alloc _;obtain ⟨R,hR⟩:∃ R,shortB al bl vl ul = R:=⟨_,rfl⟩;rw [hR];have hT:al≤40∧bl≤40∧vl≤40∧ul≤40→R = true:=fun h=>by rw [← hR];unfold shortB;simp [h.1,h.2.1,h.2.2.1,h.2.2.2]
 have hF:¬ (al≤40∧bl≤40∧vl≤40∧ul≤40)→R = false:=fun h=>by
  rw [← hR,Bool.eq_false_iff];intro e;unfold shortB at e;simp only [Bool.and_eq_true,decide_eq_true_eq] at e;omega
 refine hid4 ?_ hm0 hR hT hF;clear hm0 hR hT hF;intro hm0 hR hT hF;by_cases c1:(al:Int)≤40
 ·by_cases c2:(bl:Int)≤40
  ·by_cases c3:(vl:Int)≤40
   ·by_cases c4:(ul:Int)≤40
    ·obtain rfl:R = true:=hT.out (by omega);clear hT hF;go_enter Tryz.func18,Tryz.ntmps18;go_wp2;go_ret;exact ⟨rfl,hm0.out⟩
    ·obtain rfl:R = false:=hF.out (by omega);clear hT hF;go_enter Tryz.func18,Tryz.ntmps18;go_wp2;go_ret;exact ⟨ret_bool (by simp <;> omega),hm0.out⟩
   ·obtain rfl:R = false:=hF.out (by omega);clear hT hF;go_enter Tryz.func18,Tryz.ntmps18;go_wp2;go_ret;exact ⟨rfl,hm0.out⟩
  ·obtain rfl:R = false:=hF.out (by omega);clear hT hF;go_enter Tryz.func18,Tryz.ntmps18;go_wp2;go_ret;exact ⟨rfl,hm0.out⟩
 ·obtain rfl:R = false:=hF.out (by omega);clear hT hF;go_enter Tryz.func18,Tryz.ntmps18;go_wp2;go_ret;exact ⟨rfl,hm0.out⟩
end Go.Proofs.YtjanpegbemepgaaGreat
