/-
  The PINs and their reference, in plain numbers: the state of the reference that belongs to a vault's.
-/
import Derived.Test.YtjanpegbemepgaaGreatTG42
set_option linter.unusedVariables false
set_option linter.unusedSimpArgs false
namespace Go.Proofs.YtjanpegbemepgaaGreat
open Jn Vn
def gOf (F:Items) (tch:Nat→Bool):Nat→Option QP:=fun k=>(pget F k).map fun d=>⟨d,(ptry F k).1,(ptry F k).2,tch k⟩
def frOf (s:VSt):Nat→Bool:=fun k=>s.act && touch s k
def qOf (s:VSt):QF:=⟨gOf (view s) (frOf s),s.act,if s.act = true then gOf s.f (fun _=>false) else noQ⟩
theorem gOf_fn {F:Items} (h:PInvF F) (tch:Nat→Bool):QFn (gOf F tch):=⟨fun k p hp=>by
 unfold gOf at hp
 cases hg:pget F k with
 | none=>rw [hg] at hp;cases hp
 | some d =>
  rw [hg] at hp
  cases hp
  obtain ⟨h1,h2,-⟩:=h.get hg
  exact ⟨h2,h1⟩⟩
theorem qOf_ok {s:VSt} (h:PSP s):(qOf s).Ok:=by
 refine ⟨gOf_fn h.ps.view _,?_⟩;unfold qOf;dsimp only
 split
 ·exact gOf_fn h.ps.f _
 ·exact .empty
theorem gOf_tries {F:Items} (h:PInvF F) {tch:Nat→Bool} {k:Nat} {p:QP} (hp:gOf F tch k = some p):p.t≤15∧p.u≤15:=by
 have:=gOf_fn h tch;obtain ⟨e,ho⟩:=this.id k p hp;unfold gOf at hp
 cases hg:pget F k with
 | none=>rw [hg] at hp;cases hp
 | some d =>
  rw [hg] at hp
  cases hp
  dsimp only at e ho ⊢;exact h.tries (by rw [← e];exact ho.i1) (by rw [← e];exact ho.i8)
theorem qOf_begin {s:VSt} (h:PSP s) (ha:s.act = false):qOf { s with act:=true,l:=[] } = qBegin (qOf s):=by
 have hl:=h.ps.idle ha;have hv:view s = s.f:=by unfold Vn.view;rw [hl];rfl
 have e1:frOf s = fun _=>false:=by funext k;unfold frOf;rw [ha];rfl
 have e2:frOf { s with act:=true,l:=[] } = fun _=>false:=rfl;unfold qOf qBegin;rw [e1,e2,hv]
 rfl
theorem settle_gOf (F:Items) (tch:Nat→Bool):settleF (gOf F tch) = gOf F fun _=>false:=by
 funext k
 unfold settleF gOf
 cases pget F k <;> rfl
theorem qOf_commit {s:VSt}:qOf (idleS (view s)) = qCommit (qOf s):=by
 have e1:frOf (idleS (view s)) = fun _=>false:=rfl;unfold qOf qCommit;rw [e1];dsimp only;rw [settle_gOf]
 rfl
theorem qOf_abort {s:VSt} (ha:s.act = true):qOf (idleS s.f) = qAbort (qOf s):=by
 have e1:frOf (idleS s.f) = fun _=>false:=rfl;unfold qOf qAbort;rw [e1];dsimp only;rw [if_pos ha,if_pos ha]
 rfl
theorem pApp_actT {s:VSt} (ha:s.act = true) (r:Rec):pApp s r = { s with l:=s.l ++ [r] }:=by unfold pApp;rw [if_pos ha]
theorem pApp_actF {s:VSt} (ha:s.act = false) (r:Rec):pApp s r = { s with f:=set1 s.f r }:=by unfold pApp;rw [if_neg (by rw [ha];decide)]
theorem touch_app2 {s:VSt} {id k:Nat} (h1:1≤k) (i8:id≤8) (a b:Option (List Nat)):touch (pApp (pApp s (16 + id,a)) (24 + id,b)) k = (touch s k || (s.act && decide (k = id))):=by
 cases ha:s.act with
 | true =>
  rw [pApp_actT ha,pApp_actT (s:={ s with l:=s.l ++ [(16 + id,a)] }) ha];unfold touch;dsimp only;rw [List.any_append,List.any_append];have e1:decide (16 + id = 24 + k) = false:=by simp;omega
  have e2:decide (24 + id = 24 + k) = decide (k = id):=by congr 1;exact propext (by omega)
  simp only [List.any_cons,List.any_nil,Bool.or_false,e1,e2,Bool.true_and]
 | false =>
  rw [pApp_actF ha,pApp_actF (s:={ s with f:=set1 s.f (16 + id,a) }) ha];simp [touch]
theorem app2_act (s:VSt) (a b:Rec):(pApp (pApp s a) b).act = s.act:=by rw [pApp_act,pApp_act]
theorem app2_f {s:VSt} (ha:s.act = true) (a b:Rec):(pApp (pApp s a) b).f = s.f:=by
 rw [pApp_actT ha,pApp_actT (s:={ s with l:=s.l ++ [a] }) ha]
theorem gOf_zero (F:Items) (tch:Nat→Bool):gOf F tch 0 = none:=by
 unfold gOf pget;rw [if_neg (by omega)];rfl
theorem touch_idle {s:VSt} (h:PS s) (ha:s.act = false) (k:Nat):touch s k = false:=by
 unfold touch;rw [h.idle ha];rfl
theorem qOf_put {s:VSt} (h:PSP s) {d:PinD} (hd:POk d) (t u:Nat):qOf (putS s d t u) = ⟨qupd (qOf s).g d.id (some ⟨d,t,u,s.act⟩),s.act,(qOf s).o⟩:=by
 have hact:(putS s d t u).act = s.act:=app2_act _ _ _
 have hg:gOf (view (putS s d t u)) (frOf (putS s d t u)) = qupd (gOf (view s) (frOf s)) d.id (some ⟨d,t,u,s.act⟩):=by
  funext k
  have i1:=hd.i1;by_cases hk0:k = 0
  ·subst hk0;rw [gOf_zero];unfold qupd;rw [if_neg (by omega),gOf_zero]
  ·have hk1:1≤k:=by omega
   have hto:touch (putS s d t u) k = (touch s k || (s.act && decide (k = d.id))):=touch_app2 hk1 hd.i8 _ _;unfold gOf qupd frOf;rw [pget_put h.ps hd,ptry_put h.ps hd hk1,hact,hto];by_cases hk:k = d.id
   ·rw [if_pos hk,if_pos hk,if_pos hk]
    cases ha:s.act <;> simp [hk]
   ·rw [if_neg hk,if_neg hk,if_neg hk];simp [hk]
 have ho:(if (putS s d t u).act = true then gOf (putS s d t u).f (fun _=>false) else noQ) = (qOf s).o:=by
  rw [hact];unfold qOf;dsimp only
  split
  ·rename_i ha
   have e:(putS s d t u).f = s.f:=app2_f ha _ _;rw [e]
  ·rfl
 show (⟨_,_,_⟩:QF) = _
 rw [hg,ho,hact]
 rfl
theorem qOf_del {s:VSt} (h:PSP s) {id:Nat} (h1:1≤id) (h8:id≤8):qOf (delS s id) = ⟨qupd (qOf s).g id none,s.act,(qOf s).o⟩:=by
 have hact:(delS s id).act = s.act:=app2_act _ _ _
 have hg:gOf (view (delS s id)) (frOf (delS s id)) = qupd (gOf (view s) (frOf s)) id none:=by
  funext k
  by_cases hk0:k = 0
  ·subst hk0;rw [gOf_zero];unfold qupd;rw [if_neg (by omega),gOf_zero]
  ·have hk1:1≤k:=by omega
   have hto:touch (delS s id) k = (touch s k || (s.act && decide (k = id))):=touch_app2 hk1 h8 _ _;unfold gOf qupd frOf;rw [pget_delS h.ps h1 h8,hact,hto];by_cases hk:k = id
   ·rw [if_pos hk,if_pos hk];rfl
   ·rw [if_neg hk,if_neg hk,ptry_delS h.ps h1 h8 hk1 hk];simp [hk]
 have ho:(if (delS s id).act = true then gOf (delS s id).f (fun _=>false) else noQ) = (qOf s).o:=by
  rw [hact];unfold qOf;dsimp only
  split
  ·rename_i ha
   have e:(delS s id).f = s.f:=app2_f ha _ _;rw [e]
  ·rfl
 show (⟨_,_,_⟩:QF) = _
 rw [hg,ho,hact]
 rfl
theorem qOf_cnt {s:VSt} (h:PSP s) {d:PinD} (hd:POk d) (hg0:pget (view s) d.id = some d) (hto:touch s d.id = false) (t u:Nat):qOf (cntS s d.id [t,u]) = qCount (qOf s) ⟨d,(ptry (view s) d.id).1,(ptry (view s) d.id).2,false⟩ t u:=by
 have i1:=hd.i1;have i8:=hd.i8
 have hgen:∀ (F:Items) (tch:Nat→Bool),pget F d.id = some d→tch d.id = false→gOf (set1 F (24 + d.id,some [t,u])) tch = qupd (gOf F tch) d.id (some ⟨d,t,u,false⟩):=by
  intro F tch hF ht
  funext k
  unfold gOf qupd;rw [pget_cnt i1 i8,ptry_set];by_cases hk:k = d.id
  ·rw [if_pos hk,if_pos hk,hk,hF,ht];rfl
  ·rw [if_neg hk,if_neg hk]
 have hfr:frOf (cntS s d.id [t,u]) = frOf s:=rfl
 have hg:gOf (view (cntS s d.id [t,u])) (frOf s) = qupd (gOf (view s) (frOf s)) d.id (some ⟨d,t,u,false⟩):=by
  rw [view_cnt hto];exact hgen _ _ hg0 (by unfold frOf;rw [hto,Bool.and_false])
 have ho:(if s.act = true then gOf (cntS s d.id [t,u]).f (fun _=>false) else noQ) = if s.act = true then qupd (qOf s).o d.id (some ⟨d,t,u,false⟩) else (qOf s).o:=by
  split
  ·rename_i ha
   have e:(qOf s).o = gOf s.f fun _=>false:=by unfold qOf;rw [if_pos ha]
   have hf:pget s.f d.id = some d:=by
    rw [← hg0];unfold pget;rw [(h.free i1 i8 hto).1]
   rw [e];exact hgen _ _ hf rfl
  ·rename_i ha
   unfold qOf;rw [if_neg ha]
 show (⟨_,_,_⟩:QF) = _
 rw [hfr,hg]
 show (⟨_,_,if s.act = true then gOf (cntS s d.id [t,u]).f (fun _=>false) else noQ⟩:QF) = _
 rw [ho]
 rfl
theorem atQ_of (s:VSt) (id:Int):atQ (qOf s).g id = (atI (pget (view s)) id).map fun d=>⟨d,(ptry (view s) id.toNat).1,(ptry (view s) id.toNat).2,frOf s id.toNat⟩:=by
 unfold atQ atI
 split
 ·rfl
 ·rfl
theorem qOf_same {s:VSt} (h:PSP s) {d:PinD} (hd:POk d) (hg0:pget (view s) d.id = some d) (hto:touch s d.id = false):qOf (cntS s d.id [(ptry (view s) d.id).1,(ptry (view s) d.id).2]) = qOf s:=by
 rw [qOf_cnt h hd hg0 hto];have i1:=hd.i1;have i8:=hd.i8
 have e1:(qOf s).g d.id = some ⟨d,(ptry (view s) d.id).1,(ptry (view s) d.id).2,false⟩:=by
  show gOf (view s) (frOf s) d.id = _
  unfold gOf frOf;rw [hg0,hto,Bool.and_false];rfl
 have hq:∀ (g:Nat→Option QP) (p:QP),g d.id = some p→qupd g d.id (some p) = g:=fun g p hp=>by
  funext k
  unfold qupd
  split
  ·rename_i e;rw [e,hp]
  ·rfl
 have hf:s.act = true→(qOf s).o d.id = some ⟨d,(ptry (view s) d.id).1,(ptry (view s) d.id).2,false⟩:=fun ha=>by
  have e:(qOf s).o = gOf s.f fun _=>false:=by unfold qOf;rw [if_pos ha]
  obtain ⟨f1,f2⟩:=h.free i1 i8 hto;have hf:pget s.f d.id = some d:=by rw [← hg0];unfold pget;rw [f1]
  have ht:ptry s.f d.id = ptry (view s) d.id:=by unfold ptry;rw [f2]
  rw [e];unfold gOf;rw [hf,ht];rfl
 unfold qCount;rw [hq _ _ e1]
 show (⟨(qOf s).g,s.act,if s.act = true then _ else (qOf s).o⟩:QF) = qOf s
 by_cases ha:s.act = true
 ·rw [if_pos ha,hq _ _ (hf ha)];rfl
 ·rw [if_neg ha];rfl
theorem ver_rel {Z:Nat} {s:VSt} (h:PSP s) (hZ:1800≤Z / 2) (id:Int) (g:List Nat) :
  qVerify (qOf s) id g = (qOf (pVer Z s id g).s,(pVer Z s id g).left,(pVer Z s id g).e)∧PSP (pVer Z s id g).s:=by
 unfold qVerify pVer;rw [atQ_of]
 cases ha:atI (pget (view s)) id with
 | none=>exact ⟨rfl,h⟩
 | some d =>
  obtain ⟨rfl,hd,hg0⟩:=atI_some h.ps.view ha;dsimp only [Option.map_some];rw [Int.toNat_natCast];have i1:=hd.i1;have i8:=hd.i8;have ht15:=h.ps.view.tries i1 i8;have hsome:(view s (16 + d.id)).isSome = true:=(pget_some h.ps.view (by rw [hg0];rfl)).1
  cases hto:touch s d.id with
  | true =>
   have hact:s.act = true:=by
    cases hact:s.act with
    | true=>rfl
    | false=>rw [touch_idle h.ps hact] at hto;cases hto
   rw [pGuard_held h.ps hd hZ hto];refine ⟨?_,h⟩;unfold qVerP frOf;rw [hact,hto];rfl
  | false =>
   have hcnt:∀ t u,t≤15→u≤15→PSP (cntS s d.id [t,u]):=fun t u h1 h2=>h.cnt i1 i8 h1 h2 hto hsome;have hq:=fun t u=>qOf_cnt h hd hg0 hto t u;have hsame:=qOf_same h hd hg0 hto;rw [pGuard_free h.ps hd hZ hto];unfold freeG qVerP frOf;rw [hto,Bool.and_false];dsimp only;rw [if_neg (by decide)];obtain ⟨t,et⟩:∃ t,(ptry (view s) d.id).1 = t:=⟨_,rfl⟩;obtain ⟨u,eu⟩:∃ u,(ptry (view s) d.id).2 = u:=⟨_,rfl⟩;rw [show (pSel false (ptry (view s) d.id)).1 = t from et,show (pSel false (ptry (view s) d.id)).2 = u from eu];rw [et,eu] at ht15 hsame hq ⊢;by_cases h0:t = 0
   ·rw [if_pos h0,if_pos h0];by_cases hact:s.act = true
    ·rw [if_pos hact];have e:cntS s d.id (two false u 0) = cntS s d.id [t,u]:=by rw [h0];rfl
     rw [e];dsimp only;exact ⟨by rw [hsame],hcnt _ _ ht15.1 ht15.2⟩
    ·rw [if_neg hact];exact ⟨rfl,h⟩
   ·rw [if_neg h0,if_neg h0];by_cases hgv:g = d.value
    ·rw [if_pos hgv,if_pos (show g = pVal d false from hgv)];refine ⟨?_,hcnt d.limit u hd.l15 ht15.2⟩
     show _ = (qOf (cntS s d.id [d.limit,u]),d.limit,0)
     rw [hq]
    ·rw [if_neg hgv,if_neg (show ¬ g = pVal d false from hgv)];refine ⟨?_,hcnt (t - 1) u (by omega) ht15.2⟩
     show _ = (qOf (cntS s d.id [t - 1,u]),t - 1,17)
     rw [hq]
theorem repl_rel {Z:Nat} {s:VSt} (h:PSP s) (hZ:1800≤Z / 2) {d:PinD} (hd:POk d) {v:List Nat} (hdv:POk { d with value:=v }) (t:Nat) (fr:Bool) :
  qReplace (qOf s) ⟨d,t,(ptry (view s) d.id).2,fr⟩ v = qOf (pRepl Z s d v).1∧(pRepl Z s d v).2 = 0∧PSP (pRepl Z s d v).1:=by
 rw [pRepl_is h.ps hd hdv hZ];have hu:=(h.ps.view.tries hd.i1 hd.i8).2;refine ⟨?_,rfl,h.put hdv hd.l15 hu⟩;dsimp only;rw [qOf_put h hdv]
 rfl
theorem set_rel {Z:Nat} {s:VSt} (h:PSP s) (hZ:1800≤Z / 2) (id:Int) {v:List Nat} (bv:Bytes v) :
  qSet (qOf s) id v = (qOf (pSet Z s id v).1,(pSet Z s id v).2)∧PSP (pSet Z s id v).1:=by
 unfold qSet pSet;rw [atQ_of]
 cases ha:atI (pget (view s)) id with
 | none=>exact ⟨rfl,h⟩
 | some d =>
  obtain ⟨rfl,hd,hg0⟩:=atI_some h.ps.view ha;dsimp only [Option.map_some];rw [Int.toNat_natCast];unfold qSetP;dsimp only;by_cases hf:fitsB v.length d.lo d.hi = true
  ·rw [if_pos hf,if_pos hf];obtain ⟨e1,e2,e3⟩:=repl_rel h hZ hd (hd.value hf bv) (ptry (view s) d.id).1 (frOf s d.id);exact ⟨by rw [e1,e2],e3⟩
  ·rw [if_neg hf,if_neg hf];exact ⟨rfl,h⟩
theorem create_rel {Z:Nat} {s:VSt} (h:PSP s) (hZ:1800≤Z / 2) {d:PinD} (hd:POk d) :
  qCreate (qOf s) d = (qOf (pCreate Z s d true).1,(pCreate Z s d true).2)∧PSP (pCreate Z s d true).1:=by
 unfold qCreate pCreate;rw [if_pos rfl]
 have e:((qOf s).g d.id).isSome = (pget (view s) d.id).isSome:=by
  show (gOf (view s) (frOf s) d.id).isSome = _
  unfold gOf;rw [Option.isSome_map]
 rw [e]
 split
 ·exact ⟨rfl,h⟩
 ·rw [pPut_is h.ps hd hd.l15 hd.cl15 hZ];refine ⟨?_,h.put hd hd.l15 hd.cl15⟩;dsimp only;rw [qOf_put h hd]
  rfl
theorem del_rel {Z:Nat} {s:VSt} (h:PSP s) (hZ:1800≤Z / 2) (id:Int) :
  qDelete (qOf s) id = (qOf (pDelI Z s id).1,(pDelI Z s id).2)∧PSP (pDelI Z s id).1:=by
 unfold qDelete pDelI;rw [atQ_of,Option.isSome_map]
 cases ha:atI (pget (view s)) id with
 | none=>exact ⟨rfl,h⟩
 | some d =>
  obtain ⟨rfl,hd,hg0⟩:=atI_some h.ps.view ha;rw [Option.isSome_some,if_pos rfl,if_pos rfl,Int.toNat_natCast,pDel_is h.ps h.pv d.id hZ,if_pos (by rw [hg0];rfl)];refine ⟨?_,h.del hd.i1 hd.i8⟩;dsimp only;rw [qOf_del h hd.i1 hd.i8]
  rfl
theorem guard_right {Z:Nat} {s:VSt} (h:PSP s) (hZ:1800≤Z / 2) {d:PinD} (hd:POk d) (g:List Nat) (e0:(pGuard Z s d false g).e = 0) :
  touch s d.id = false∧(pGuard Z s d false g).s = cntS s d.id [d.limit,(ptry (view s) d.id).2]∧(pGuard Z s d false g).left = d.limit:=by
 cases hto:touch s d.id with
 | true=>rw [pGuard_held h.ps hd hZ hto] at e0;cases e0
 | false =>
  rw [pGuard_free h.ps hd hZ hto] at e0 ⊢;unfold freeG at e0 ⊢
  split at e0
  ·split at e0
   ·cases e0
   ·cases e0
  ·rename_i h1
   rw [if_neg h1]
   split at e0
   ·rename_i h2
    rw [if_pos h2];exact ⟨rfl,rfl,rfl⟩
   ·cases e0
theorem chg_rel {Z:Nat} {s:VSt} (h:PSP s) (hZ:1800≤Z / 2) (id:Int) (g:List Nat) {v:List Nat} (bv:Bytes v) :
  qChange (qOf s) id g v = (qOf (pChg Z s id g v).s,(pChg Z s id g v).left,(pChg Z s id g v).e)∧PSP (pChg Z s id g v).s:=by
 have hV:=ver_rel h hZ id g;unfold qVerify pVer at hV;unfold qChange pChg;rw [atQ_of] at hV ⊢
 cases ha:atI (pget (view s)) id with
 | none=>exact ⟨rfl,h⟩
 | some d =>
  rw [ha] at hV;obtain ⟨rfl,hd,hg0⟩:=atI_some h.ps.view ha;dsimp only [Option.map_some] at hV ⊢;rw [Int.toNat_natCast] at hV ⊢;unfold qChgP;dsimp only;obtain ⟨hV1,hV2⟩:=hV;by_cases hf:fitsB v.length d.lo d.hi = true
  ·rw [if_pos hf,if_pos hf,hV1];unfold qThen pThen;dsimp only;by_cases e0:(pGuard Z s d false g).e = 0
   ·rw [if_pos e0,if_pos e0];obtain ⟨hto,es,el⟩:=guard_right h hZ hd g e0
    have hu:(ptry (view (pGuard Z s d false g).s) d.id).2 = (ptry (view s) d.id).2:=by
     rw [es,ptry_cntS hto,if_pos rfl]
    obtain ⟨r1,r2,r3⟩:=repl_rel hV2 hZ hd (hd.value hf bv) (ptry (view s) d.id).1 (frOf s d.id);rw [hu] at r1;dsimp only;refine ⟨?_,r3⟩;rw [r1,r2,el]
    rfl
   ·rw [if_neg e0,if_neg e0];exact ⟨rfl,hV2⟩
  ·rw [if_neg hf,if_neg hf];exact ⟨rfl,h⟩
theorem unb_rel {Z:Nat} {s:VSt} (h:PSP s) (hZ:1800≤Z / 2) (id:Int) (g:List Nat) {v:List Nat} (bv:Bytes v) :
  qUnblock (qOf s) id g v = (qOf (pUnb Z s id g v).s,(pUnb Z s id g v).left,(pUnb Z s id g v).e)∧PSP (pUnb Z s id g v).s:=by
 unfold qUnblock pUnb;rw [atQ_of]
 cases ha:atI (pget (view s)) id with
 | none=>exact ⟨rfl,h⟩
 | some d =>
  obtain ⟨rfl,hd,hg0⟩:=atI_some h.ps.view ha;dsimp only [Option.map_some];rw [Int.toNat_natCast];unfold qUnbP;dsimp only;have i1:=hd.i1;have i8:=hd.i8;have ht15:=h.ps.view.tries i1 i8;have hsome:(view s (16 + d.id)).isSome = true:=(pget_some h.ps.view (by rw [hg0];rfl)).1;by_cases hc:d.code.length = 0
  ·rw [if_pos hc,if_pos hc];exact ⟨rfl,h⟩
  rw [if_neg hc,if_neg hc];by_cases hf:fitsB v.length d.lo d.hi = true
  ·rw [if_neg (by rw [hf];decide),if_pos hf]
   cases hto:touch s d.id with
   | true =>
    have hact:s.act = true:=by
     cases hact:s.act with
     | true=>rfl
     | false=>rw [touch_idle h.ps hact] at hto;cases hto
    rw [pGuard_held h.ps hd hZ hto];unfold pThen frOf;rw [hact,hto];dsimp only;rw [if_pos (show (true && true) = true from rfl),if_neg (show ¬ 14 = 0 by decide)];exact ⟨rfl,h⟩
   | false =>
    have hcnt:∀ t u,t≤15→u≤15→PSP (cntS s d.id [t,u]):=fun t u h1 h2=>h.cnt i1 i8 h1 h2 hto hsome;have hq:=fun t u=>qOf_cnt h hd hg0 hto t u;have hsame:=qOf_same h hd hg0 hto;have hpt:∀ t u,ptry (view (cntS s d.id [t,u])) d.id = (t,u):=fun t u=>by rw [ptry_cntS hto,if_pos rfl]
    rw [pGuard_free h.ps hd hZ hto];unfold freeG frOf;rw [hto,Bool.and_false];rw [if_neg (show ¬ false = true by decide)];obtain ⟨t,et⟩:∃ t,(ptry (view s) d.id).1 = t:=⟨_,rfl⟩;obtain ⟨u,eu⟩:∃ u,(ptry (view s) d.id).2 = u:=⟨_,rfl⟩;rw [show (pSel true (ptry (view s) d.id)).1 = u from eu,show (pSel true (ptry (view s) d.id)).2 = t from et];rw [et,eu] at ht15 hsame hq ⊢;by_cases h0:u = 0
    ·rw [if_pos h0,if_pos h0];by_cases hact:s.act = true
     ·rw [if_pos hact];have e:cntS s d.id (two true t 0) = cntS s d.id [t,u]:=by rw [h0];rfl
      rw [e];unfold pThen;dsimp only;rw [if_neg (show ¬ 18 = 0 by decide)];exact ⟨by rw [hsame],hcnt _ _ ht15.1 ht15.2⟩
     ·rw [if_neg hact];unfold pThen;dsimp only;rw [if_neg (show ¬ 18 = 0 by decide)];exact ⟨rfl,h⟩
    ·rw [if_neg h0,if_neg h0];by_cases hgv:g = d.code
     ·rw [if_pos hgv,if_pos (show g = pVal d true from hgv)];have hP:=hcnt t d.cl ht15.1 hd.cl15;obtain ⟨r1,r2,r3⟩:=repl_rel hP hZ hd (hd.value hf bv) t false;rw [hpt,hq] at r1;unfold pThen;dsimp only;rw [if_pos rfl];dsimp only;refine ⟨?_,r3⟩
      show _ = (qOf (pRepl Z (cntS s d.id [t,d.cl]) d v).1,pLeft d (pRepl Z (cntS s d.id [t,d.cl]) d v).2,(pRepl Z (cntS s d.id [t,d.cl]) d v).2)
      rw [← r1,r2]
      rfl
     ·rw [if_neg hgv,if_neg (show ¬ g = pVal d true from hgv)];unfold pThen;dsimp only;rw [if_neg (show ¬ 17 = 0 by decide)];refine ⟨?_,hcnt t (u - 1) ht15.1 (by omega)⟩
      show _ = (qOf (cntS s d.id [t,u - 1]),u - 1,17)
      rw [hq]
  ·rw [if_pos (by simpa using hf),if_neg hf];exact ⟨rfl,h⟩
theorem info_rel (s:VSt) (h:PSP s) (id:Int):qInfo (qOf s) id = infoRes (view s) id:=by
 unfold qInfo infoRes;rw [atQ_of]
 cases ha:atI (pget (view s)) id with
 | none=>rfl
 | some d =>
  obtain ⟨rfl,hd,hg0⟩:=atI_some h.ps.view ha;dsimp only [Option.map_some];rw [Int.toNat_natCast]
theorem ids_to (F:Items) (h:PInvF F) (tch:Nat→Bool):∀ k,qIds (qlTo (gOf F tch) k) = pidsTo F k
 | 0=>rfl
 | k + 1=>by
  rw [qlTo_succ,pidsTo_succ,← ids_to F h tch k];unfold qIds;rw [List.map_append]
  congr 1
  unfold gOf
  cases hg:pget F k with
  | none=>rfl
  | some d =>
   obtain ⟨-,e,-⟩:=h.get hg;simp [e]
theorem ids_rel (s:VSt) (h:PSP s):qIds (ql (qOf s).g) = pids (view s):=ids_to _ h.ps.view _ 9
theorem begin_rel {s:VSt} (h:PSP s) (ha:s.act = false):(vBegin s).2 = 0∧qOf (vBegin s).1 = qBegin (qOf s)∧PSP (vBegin s).1:=by
 unfold vBegin;rw [if_neg (by rw [ha];decide)];exact ⟨rfl,qOf_begin h ha,h.begin ha⟩
theorem commit_rel {Z:Nat} {s:VSt} (h:PSP s) (hZ:1800≤Z / 2) (ha:s.act = true):(vCommit Z s).2 = 0∧qOf (vCommit Z s).1 = qCommit (qOf s)∧PSP (vCommit Z s).1:=by
 rw [vCommit_pin h.ps hZ,if_pos ha];exact ⟨rfl,qOf_commit,h.commit⟩
theorem abort_rel {s:VSt} (h:PSP s) (ha:s.act = true):(vAbort s).2 = 0∧qOf (vAbort s).1 = qAbort (qOf s)∧PSP (vAbort s).1:=by
 rw [vAbort_pin,if_pos ha];exact ⟨rfl,qOf_abort ha,h.abort⟩
theorem qOf_tries {s:VSt} (h:PSP s):∀ k p,(qOf s).g k = some p→p.t≤15∧p.u≤15:=fun _ _ hp=>gOf_tries h.ps.view hp
end Go.Proofs.YtjanpegbemepgaaGreat
