/-
  The registry: the slot of an entry.
-/
import Derived.Test.YthmahbfmfpjjcaaGreatQG67
set_option linter.unusedVariables false
set_option linter.unusedSimpArgs false
set_option maxHeartbeats 8000000
set_option maxRecDepth 100000
namespace Go.Proofs.YthmahbfmfpjjcaaGreat
open Go.RowKit
open Jn Vn Rg
attribute [local go_sem] Oper.semAt_some
def SPost (w:World) (G:Nat→Option En) (o:Option En) (r:Ending) (w':World):Prop:=∃ (k:Nat) (u v:Value),r = .returned (.tuple #[.int .i64 k,.agg (eCells u v (rOf o)).toArray,.bool o.isSome])∧DSl w' u (rOf o).aid∧DSl w' v (rOf o).dom∧(∀ en,o = some en→G k = some en)∧Mod Nowhere w w'
theorem ZcY {fn:Func} {p u1 u2:Tmp} (h:fn.results = #[.tmp u1,.cell p 24,.tmp u2]) (tmps:Array Value) (w:World) (b:Nat) (c0 c1 c2 c3 c4 c5 c6 c7:Value) (hp:tmps.getD p undef = ptr b) (hb:Blk w b [c0,c1,c2,c3,c4,c5,c6,c7] 24) :
  (results fn tmps).run Tryz.prog w = .ok (.tuple #[tmps.getD u1 undef,.agg #[c0,c1,c2,c3,c4,c5,c6,c7],tmps.getD u2 undef]) w:=by
 have hp':tmps[p]?.getD undef = ptr b:=by simpa using hp
 have k0:=hb.cell 0;have k1:=hb.cell 1;have k2:=hb.cell 2;have k3:=hb.cell 3;have k4:=hb.cell 4;have k5:=hb.cell 5;have k6:=hb.cell 6;have k7:=hb.cell 7;simp only [gz0,gs0] at k0 k1 k2 k3 k4 k5 k6 k7;simp only [results,h];simp [Sem.run_bind,Result.andThen,hp']
 go_simp
theorem ZcZ {w:World} {rb:Nat} {A:VAt} {m:Mem} {s:VSt} {l:List En} (h:Reg w rb A m s l) {G:Nat→Option En} (hG:∀ k,k < 32→view s (192 + k) = (G k).map enB) (hS:SRel G l) {t:Value} {a:List Nat} (ht:Src w t a) (ba:Bytes a) :
  Calls Tryz.prog 58 #[ptr rb,t] w (SPost w G (rFind l a)):=by
 have hm2:=m1 w zero8 24;have hT:=blk_a (w:=w) zero8 24;have hA:=Jl (h.fresh hm2) hG hS;have hE:∀ W,Mod Nowhere w W→∀ u (e:En),DSl W u e.aid→EOk e→Calls Tryz.prog 42 #[u,t] W fun r w'=>r = .returned (.bool (decide (e.aid = a)))∧Mod Nowhere W w':=fun W hm u e hd he=>ZH hd.src (ht.fresh hm) he.ba ba;have hok:∀ k e,G k = some e→EOk e∧k < 32:=fun k e hk=>⟨hS.inv.ok e (hS.mem hk),hS.lt k e hk⟩;obtain ⟨o,ho⟩:∃ o,rFind l a = o:=⟨_,rfl⟩;rw [ho];have hnone:∀ left:Nat→Bool,(∀ k e,G k = some e→left k = false→e.aid ≠ a)→(∀ k,left k = false)→o = none:=fun left h1 h2=>by rw [← ho];exact ZgS hS h1 h2
 have hsome:∀ k e,G k = some e→e.aid = a→o = some e:=fun k e h1 h2=>by rw [← ho,← h2];exact ZgT hS h1
 unfold zero8 at hA hT hm2;obtain ⟨ta,tc,rfl,-⟩:=ht;generalize a.length = n at *;clear h hS hG ho;refine hid7 ?_ hA hT hm2 hE hok hnone hsome;clear hA hT hm2 hE hok hnone hsome;intro hA hT hm2 hE hok hnone hsome;go_enter Tryz.func58,Tryz.ntmps58;go_wp2_with fail;refine (hA.out).mono ?_;rintro e w1 ⟨b,rfl,hb,hem,hmd⟩;obtain ⟨g,hj,hel⟩:=hem.ex
 have hgs:∀ k,(g k).isSome = (G k).isSome:=fun k=>by
  have:=hel k
  cases h1:G k <;> cases h2:g k <;> rw [h1,h2] at this <;> first | rfl | exact this.elim
 obtain ⟨r,hr⟩:∃ r,w1.heap.size = r:=⟨_,rfl⟩;have hrw:w1.heap.size≤r:=by omega
 have hmw1:=hm2.out.trans hmd;refine hid7 ?_ hb hem hmd hel hgs hr hmw1;clear hb hem hmd hel hgs hr hmw1;intro hb hem hmd hel hgs hr hmw1
 go_wp2_with (with_reducible refine ZcO rfl (.tmp 10) 78 rfl 24 Tryz.underlying78 b l.length g rfl hj ?_;intro w2 cnt1 hrg1 hmd1 hsz1;rw [hr.out] at hrg1 ⊢;replace hrg1:=Lib.hid hrg1;replace hmd1:=Lib.hid hmd1;replace hsz1:=Lib.hid hsz1)
 go_frame
 go_loopw [] (fun wr=>∃ (left:Nat→Bool) (cnt:Nat),JRange wr b r l.length g left cnt∧(∀ k e,G k = some e→left k = false→e.aid ≠ a)∧Mod Nowhere w1 wr) (fun wr=>wr.rangeLeft b r)
 case atStart=>exact ⟨_,cnt1,hrg1.out,fun k e hk hl=>(by rw [hgs.out k,hk] at hl;cases hl),hmd1.out⟩
 case round =>
  obtain ⟨left,cnt,hrg,hno,hmw⟩:=hrel;have hleq:=hrg.left_eq;refine hid3 ?_ hno hmw hleq;clear hno hmw hleq;intro hno hmw hleq
  go_wp2_with (with_reducible refine ZcP rfl (.tmp 11) rfl b r l.length cnt g left rfl hrg ?_ ?_)
  ·intro h0 hall;have h0n:=hnone.out left hno.out hall;subst h0n;have bT:=hT.out _ (hmd.out.trans hmw.out);have hb8:=blk8 bT (.slice none 0 0) (.int .i64 0) (.int .i64 0) (.int .i64 0) (.int .i64 0) (.slice none 0 0) (.int .i64 0) (.int .i64 0);unfold put8 at hb8;have hmf:=(hmw1.out.trans hmw.out).own hb8.2 (Nat.le_refl _);have hbl:=hb8.1;clear hb8;have yl:=bT.lt;have y0:=bT.cell 0;have y1:=bT.cell 1;have y2:=bT.cell 2;have y3:=bT.cell 3;have y4:=bT.cell 4;have y5:=bT.cell 5;have y6:=bT.cell 6;have y7:=bT.cell 7;have yf0:=bT.frozen 0;have yf1:=bT.frozen 1;have yf2:=bT.frozen 2;have yf3:=bT.frozen 3;have yf4:=bT.frozen 4;have yf5:=bT.frozen 5;have yf6:=bT.frozen 6;have yf7:=bT.frozen 7;simp only [gz0,gs0] at y0 y1 y2 y3 y4 y5 y6 y7
   refine hid3 ?_ hmf hbl bT;clear hmf hbl bT;intro hmf hbl bT;go_wp2;refine bodyPost_ret (ZcY rfl _ _ w.heap.size _ _ _ _ _ _ _ _ rfl hbl.out) rfl ?_;exact ⟨0,_,_,rfl,Sl.nil _ _ _,Sl.nil _ _ _,fun _ h=>(by cases h),hmf.out⟩
  ·intro k v w' cnt' hk hgk hlk hrg' hlt hmr hszr hen;have hGs:(G k).isSome = true:=by rw [← hgs.out k,hgk];rfl
   obtain ⟨e,hGk⟩:=Option.isSome_iff_exists.1 hGs;have hev:=hel.out k;rw [hGk,hgk] at hev;obtain ⟨u1,u2,rfl,hd1,hd2⟩:=hev;have hsh:Shun (fun j=>j = r) wr 5:=fun i hi cs hb=>by have hi:i = r:=hi;subst hi;exact hrg.noCells hb
   have hd1':=DSl.mod (hd1.fresh hmw.out) hmr hsh;have hd2':=DSl.mod (hd2.fresh hmw.out) hmr hsh;have hmw':=hmw.out.own hmr hrw;have heo:=(hok.out k e hGk).1;have hA1:=m1 w' (eCells u1 u2 e.raw) 24;have hX:=blk_a (w:=w') (eCells u1 u2 e.raw) 24;have hE1:=hE.out _ ((hmw1.out.trans hmw').trans hA1) u1 e (hd1'.fresh hA1) heo
   have hcl:∀ W,Mod Nowhere (w'.alloc (.cells (eCells u1 u2 e.raw).toArray 24)) W→JRange W b r l.length g (fun j=>left j && !decide (j = k)) cnt'∧W.rangeLeft b r < wr.rangeLeft b r:=fun W hm=>by
    have h1:JRange W b r l.length g (fun j=>left j && !decide (j = k)) cnt':=hrg'.mod (hA1.trans hm) id id;exact ⟨h1,by rw [h1.left_eq,hleq.out];exact hlt⟩
   have hnx:=ZgU hno.out hGk;have hsm:=hsome.out k e hGk;rw [hszr] at hX;clear hd1 hd2 hno;have hdd:∀ W,Mod Nowhere (w'.alloc (.cells (eCells u1 u2 e.raw).toArray 24)) W→DSl W u1 e.aid∧DSl W u2 e.dom:=fun W hm=>⟨hd1'.fresh (hA1.trans hm),hd2'.fresh (hA1.trans hm)⟩;obtain ⟨a1,c1,rfl,-⟩:=Sl.len hd1';obtain ⟨a2,c2,rfl,-⟩:=Sl.len hd2';have hgk':∀ en:En,e = en→G k = some en:=fun en h=>by rw [← h];exact hGk
   have hrl:=hrg'.lt.1;obtain ⟨kd,st,bf,pr,pk,ob,aid,dom⟩:=e;unfold eCells at *;dsimp only [En.raw] at *;generalize aid.length = n1 at *;generalize dom.length = n2 at *;obtain ⟨eq,heq⟩:∃ x,decide (aid = a) = x:=⟨_,rfl⟩;rw [heq] at hE1;refine hid12 ?_ hd1' hd2' hmw' hleq hGk hlk hmr hsh hA1 hX hcl hnx;clear hd1' hd2' hmw' hleq hGk hlk hmr hsh hA1 hX hcl hnx;intro hd1' hd2' hmw' hleq hGk hlk hmr hsh hA1 hX hcl hnx;refine hid6 ?_ hsm hdd hgk' hrg' heo heq;clear hsm hdd hgk' hrg' heo heq;intro hsm hdd hgk' hrg' heo heq;go_wp2_with fail;refine hE1.mono ?_;rintro x w3 ⟨rfl,hm3⟩;have X:=hX.out w3 hm3
   have x0:=X.cell 0;have x1:=X.cell 1;have x2:=X.cell 2;have x3:=X.cell 3;have x4:=X.cell 4;have x5:=X.cell 5;have x6:=X.cell 6;have x7:=X.cell 7;simp only [gz0,gs0] at x0 x1 x2 x3 x4 x5 x6 x7
   cases eq
   ·obtain ⟨h1,h2⟩:=hcl.out w3 hm3;have hne:aid ≠ a:=of_decide_eq_false heq.out;have hnx2:=hnx.out hne;refine hid5 ?_ X hm3 h1 h2 hnx2;clear X hm3 h1 h2 hnx2;intro X hm3 h1 h2 hnx2;go_wp2;go_roundw
    case rel=>exact ⟨_,cnt',h1.out,hnx2.out,(hmw'.out.trans hA1.out).trans hm3.out⟩
    case measure=>exact h2.out
   ·have hae:aid = a:=of_decide_eq_true heq.out;have hos:=hsm.out hae;subst hos;have bT:=hT.out w3 (hmd.out.trans (hmw'.out.trans (hA1.out.trans hm3)));obtain ⟨g1,g2⟩:=hdd.out w3 hm3;have hb8:=blk8 bT (.slice a1 n1 c1) (.int .i64 kd) (.int .i64 st) (.int .i64 bf) (.int .i64 pr) (.slice a2 n2 c2) (.int .i64 pk) (.int .i64 ob);unfold put8 at hb8;have hs1:=shun1 (U:=5) bT (by decide);have f1:=DSl.mod g1 hb8.2 hs1;have f2:=DSl.mod g2 hb8.2 hs1;have hmf:=(hmw1.out.trans (hmw'.out.trans (hA1.out.trans hm3))).own hb8.2 (Nat.le_refl _);have hbl:=hb8.1;clear hb8 hs1 g1 g2;have yl:=bT.lt;have y0:=bT.cell 0;have y1:=bT.cell 1;have y2:=bT.cell 2;have y3:=bT.cell 3;have y4:=bT.cell 4;have y5:=bT.cell 5;have y6:=bT.cell 6;have y7:=bT.cell 7;have yf0:=bT.frozen 0;have yf1:=bT.frozen 1;have yf2:=bT.frozen 2;have yf3:=bT.frozen 3;have yf4:=bT.frozen 4;have yf5:=bT.frozen 5;have yf6:=bT.frozen 6;have yf7:=bT.frozen 7
    simp only [gz0,gs0] at y0 y1 y2 y3 y4 y5 y6 y7;have hsz9:=hmd.out.size;simp only [World.size_alloc] at hsz9;have hsz8:=hmw.out.size;have hne1:w.heap.size ≠ wr.heap.size:=by omega
    have hne2:wr.heap.size ≠ w.heap.size:=by omega
    clear hsz9 hsz8;refine hid7 ?_ hmf hbl bT f1 f2 X hm3;clear hmf hbl bT f1 f2 X hm3;intro hmf hbl bT f1 f2 X hm3;go_wp2_with fail
    go_region_held3 (fun W=>W.cell? ⟨wr.heap.size,0,none⟩ = some (.slice a1 n1 c1)∧W.cell? ⟨wr.heap.size,1,none⟩ = some (.int .i64 kd)∧W.cell? ⟨wr.heap.size,2,none⟩ = some (.int .i64 st)∧W.cell? ⟨wr.heap.size,3,none⟩ = some (.int .i64 bf)∧W.cell? ⟨wr.heap.size,4,none⟩ = some (.int .i64 pr)∧W.cell? ⟨wr.heap.size,5,none⟩ = some (.slice a2 n2 c2)∧W.cell? ⟨wr.heap.size,6,none⟩ = some (.int .i64 pk)∧W.cell? ⟨wr.heap.size,7,none⟩ = some (.int .i64 ob)) (simp [*,World.cell?_alloc_some,World.cell?_setCell_far,World.cell?_setCell_other])
     (first | fail)
    have hbd:=hbl.out.drew;have hmd9:=hmf.out.drew;have f1':=f1.out.fresh ((Mod.refl Nowhere _).drew);have f2':=f2.out.fresh ((Mod.refl Nowhere _).drew);clear hmf hbl f1 f2;refine hid4 ?_ hbd hmd9 f1' f2';clear hbd hmd9 f1' f2';intro hbd hmd9 f1' f2';go_wp2;refine bodyPost_ret (ZcY rfl _ _ w.heap.size _ _ _ _ _ _ _ _ rfl hbd.out) rfl ?_;exact ⟨k,_,_,rfl,f1'.out,f2'.out,fun en h=>hgk'.out en (Option.some.inj h),hmd9.out⟩
end Go.Proofs.YthmahbfmfpjjcaaGreat
/-
 The registry: removing an entry.
-/
namespace Go.Proofs.YthmahbfmfpjjcaaGreat
open Go.RowKit
open Jn Vn Rg
attribute [local go_sem] Oper.semAt_some
structure RgM (w:World) (rb:Nat) (A:VAt) (m:Mem) (s:VSt) (M:Md):Prop where
 at_:RgAt w rb A.vb
 rep:VRep w A m s
 len:s.l.length≤900000
 mp:MP s M
 xb:XB 192 32 40 A.Z
theorem RgM.reg {w:World} {rb:Nat} {A:VAt} {m:Mem} {s:VSt} {M:Md} (h:RgM w rb A m s M):Reg w rb A m s M.now:=⟨h.at_,h.rep,by have:=h.len;omega,h.mp.items⟩
theorem RgM.fresh {w w':World} {rb:Nat} {A:VAt} {m:Mem} {s:VSt} {M:Md} (h:RgM w rb A m s M) (hm:Mod Nowhere w w'):RgM w' rb A m s M:=⟨h.at_.fresh hm,h.rep.fresh hm,h.len,h.mp,h.xb⟩
theorem RgM.inv {w:World} {rb:Nat} {A:VAt} {m:Mem} {s:VSt} {M:Md} (h:RgM w rb A m s M):RInv M.now:=h.mp.inv
def RCall (w:World) (A:VAt) (m:Mem) (s:VSt) (M':Md) (er:Nat) (e:Ending) (w':World):Prop:=∃ s',VCall w A m s s' er (vcost A) e w'∧MP s' M'∧s'.l.length≤s.l.length + 1
theorem VRep.runs0 {w:World} {A:VAt} {m:Mem} {s:VSt} (h:VRep w A m s):Runs m m 0:=by
 obtain ⟨P,p,pc,J,bank,end_,ib,lv,xs,h⟩:=h.ex;exact h.jr.runs
theorem RCall.none {w w':World} {rb:Nat} {A:VAt} {m:Mem} {s:VSt} {M:Md} (h:RgM w rb A m s M) (hm:Mod Nowhere w w') (er:Nat):RCall w A m s M er (.returned (errno er)) w' :=
 ⟨s,VCall.same (h.rep.fresh hm) h.rep.runs0 hm.nowhere,h.mp,by omega⟩
theorem Jp (s:VSt) (r:Rec):(xApp s r).l.length≤s.l.length + 1:=by
 unfold xApp
 split
 ·show (s.l ++ [r]).length≤_
  simp
 ·show s.l.length≤_
  omega
theorem RCall.from {w w1 w':World} {A:VAt} {m:Mem} {s:VSt} {M':Md} {er:Nat} {e:Ending} (h:RCall w1 A m s M' er e w') (hm:Mod Nowhere w w1):RCall w A m s M' er e w':=by
 obtain ⟨s',h1,h2,h3⟩:=h;exact ⟨s',h1.from hm.nowhere,h2,h3⟩
theorem RCall.errno {w w':World} {A:VAt} {m:Mem} {s:VSt} {M':Md} {er:Nat} {e:Ending} (h:RCall w A m s M' er e w'):∃ n:Nat,e = .returned (Go.Proofs.YthmahbfmfpjjcaaGreat.errno n):=by
 obtain ⟨s',h1,h2,h3⟩:=h;rcases h1 with ⟨m',k,a,-⟩ | ⟨m',f,a,-⟩
 ·exact ⟨er,a⟩
 ·exact ⟨7,a⟩
theorem VCall.modA {w w':World} {A:VAt} {m:Mem} {s s':VSt} {er n:Nat} {e:Ending} (h:VCall w A m s s' er n e w'):Mod A.S w w':=by
 rcases h with ⟨m',k,-,-,-,-,a⟩ | ⟨m',f,-,-,-,-,a⟩ <;> exact a
theorem VRep.shunT {w:World} {A:VAt} {m:Mem} {s:VSt} (h:VRep w A m s) {T:TypeId} (hT:T ≠ 150∧T ≠ 3∧T ≠ 112∧T ≠ 206) (hV:T ≠ 108):Shun A.S w T:=by
 obtain ⟨P,p,pc,J,bank,end_,ib,lv,xs,h⟩:=h.ex;exact h.shunS hT hV
theorem VRep.noS {w:World} {A:VAt} {m:Mem} {s:VSt} (h:VRep w A m s) {b:Nat} {cs:List Value} {T:TypeId} (hb:Blk w b cs T) (hT:T ≠ 150∧T ≠ 3∧T ≠ 112∧T ≠ 206) (hV:T ≠ 108):¬ A.S b:=fun e=>h.shunT hT hV b e cs hb
theorem ZiE {W:World} {u v u' v':Value} {x e:En} (hx:CE W u v x) (he:InE W u' v' e.raw) {N:Nat} (hN:Blk W N (eCells u' v' e.raw) 24) :
  Calls Tryz.prog 59 #[.agg (eCells u v x.raw).toArray,.pointer (some ⟨N,0,none⟩)] W fun r w'=>r = .returned (.bool (dep e x))∧Mod Nowhere W w':=by
 have hD:=fun W' (hm:Mod Nowhere W W')=>ZiC (hx.fresh hm) (he.fresh hm);have hl:=hN.lt;obtain ⟨a1,c1,rfl,-⟩:=hx.inE.sa;obtain ⟨a2,c2,rfl,-⟩:=hx.inE.sd;obtain ⟨a3,c3,rfl,-⟩:=he.sa;obtain ⟨a4,c4,rfl,-⟩:=he.sd;clear hx he;generalize dep e x = q at *;obtain ⟨k,st,bf,pr,pk,ob,aid,dom⟩:=x;obtain ⟨k',st',bf',pr',pk',ob',aid',dom'⟩:=e;unfold eCells at *;dsimp only [En.raw] at *;generalize aid.length = n1 at *;generalize dom.length = n2 at *;generalize aid'.length = n3 at *;generalize dom'.length = n4 at *;have y0:=hN.cell 0;have y1:=hN.cell 1;have y2:=hN.cell 2;have y3:=hN.cell 3;have y4:=hN.cell 4;have y5:=hN.cell 5;have y6:=hN.cell 6;have y7:=hN.cell 7;simp only [gz0,gs0] at y0 y1 y2 y3 y4 y5 y6 y7
 refine hid2 ?_ hD hN;clear hD hN;intro hD hN;go_enter Tryz.func59,Tryz.ntmps59;go_wp2_with fail;refine (hD.out _ (m1 W _ _)).mono ?_;rintro r w1 ⟨rfl,hm⟩;go_wp2;go_ret;exact ⟨rfl,(m1 W _ _).trans hm⟩
theorem Y6 {l:List En} (p:En→Bool):l.any p = (l.find? p).isSome:=by
 rw [Bool.eq_iff_iff,List.any_eq_true,List.find?_isSome]
theorem Jq {w:World} {u v:Value} {e:En} (h:InE w u v e.raw):Calls Tryz.prog 53 #[.agg (eCells u v e.raw).toArray] w fun r w'=>r = .returned (.bool (isIss e))∧Mod Nowhere w w':=by
 refine (Zfr h).mono ?_;rintro r w' ⟨rfl,hm⟩;refine ⟨Za ?_,hm⟩;unfold isIss;have e1:decide (e.raw.kind = 1) = decide (e.kind = 1):=decide_eq_decide.2 (by show (e.kind:Int) = 1 ↔ _;omega);rw [e1]
 rfl
theorem Zc0 {w:World} {rb:Nat} {A:VAt} {m:Mem} {s:VSt} {M:Md} (h:RgM w rb A m s M) {t:Value} {a:List Nat} (ht:Src w t a) (ba:Bytes a) (hrm:Room m (vcost A)) :
  Calls Tryz.prog 20 #[ptr rb,t] w (RCall w A m s { M with now:=(rRemove M.now a).1 } (rRemove M.now a).2):=by
 obtain ⟨G,hG,hS⟩:=h.mp.items;have hR:=Y5 h.at_ h.rep;have hSl:∀ W,Mod Nowhere w W→Calls Tryz.prog 58 #[ptr rb,t] W (SPost W G (rFind M.now a)):=fun W hm=>ZcZ (h.reg.fresh hm) hG hS (ht.fresh hm) ba
 have hpc:∀ W,Mod Nowhere w W→W.cell? ⟨rb,0,none⟩ = some (ptr A.vb)∧rb < W.heap.size:=fun W hm=>by
  have c0:=Blk.cell (h.at_.fresh hm) 0;simp only [gz0] at c0;exact ⟨c0,Blk.lt (h.at_.fresh hm)⟩
 have hno:∀ er:Nat,rRemove M.now a = (M.now,er)→∀ W,Mod Nowhere w W→RCall w A m s { M with now:=(rRemove M.now a).1 } (rRemove M.now a).2 (.returned (errno er)) W:=fun er e W hm=>by
  rw [e];exact RCall.none h hm er
 obtain ⟨ta,tc,rfl,-⟩:=ht;generalize a.length = n at *
 cases hf:rFind M.now a with
 | none =>
  have hno12:=hno 12 (by unfold rRemove;rw [hf]);rw [hf] at hSl;generalize RCall w A m s { M with now:=(rRemove M.now a).1 } (rRemove M.now a).2 = R at *;clear hno hG hS h;refine hid5 ?_ hR hSl hpc hno12 hf;clear hR hSl hpc hno12 hf;intro hR hSl hpc hno12 hf;go_enter Tryz.func20,Tryz.ntmps20;go_wp2_with fail;refine (hR.out).mono ?_;rintro e w1 ⟨rfl,hm1⟩;have hS1:=hSl.out w1 hm1;refine hid2 ?_ hS1 hm1;clear hS1 hm1;intro hS1 hm1;go_wp2_with fail;refine (hS1.out).mono ?_;rintro e w2 ⟨k,u,v,rfl,d1,d2,-,hm2⟩;obtain ⟨a1,c1,rfl,-⟩:=Sl.len d1;obtain ⟨a2,c2,rfl,-⟩:=Sl.len d2
  clear d1 d2;have hz:rOf none = zeroR:=rfl;rw [hz];unfold eCells zeroR;dsimp only [List.length_nil];have hfin:=fun cs:List Value=>hno12.out _ ((hm1.out.trans hm2).trans (m1 w2 cs 24));refine hid2 ?_ hfin hm2;clear hfin hm2;intro hfin hm2;go_wp2;exact hfin.out _
 | some en =>
  have hen:en ∈ M.now:=List.mem_of_find?_eq_some hf;have hok:=h.inv.ok en hen;rw [hf] at hSl;have hIs:∀ W u v,Mod Nowhere w W→DSl W u en.aid→DSl W v en.dom→Calls Tryz.prog 53 #[.agg (eCells u v en.raw).toArray] W fun r w'=>r = .returned (.bool (isIss en))∧Mod Nowhere W w':=fun W u v hm d1 d2=>Jq ⟨d1.src,d2.src,hok.ba,hok.bd⟩
  have hFi:∀ W u v N,Mod Nowhere w W→DSl W u en.aid→DSl W v en.dom→Blk W N (eCells u v en.raw) 24→Calls Tryz.prog 43 #[ptr rb,.func (.func 59) #[] #[.pointer (some ⟨N,0,none⟩)]] W (FPost W (M.now.find? (dep en))):=fun W u v N hm d1 d2 hN =>
   Z0 (h.reg.fresh hm) 59 #[.pointer (some ⟨N,0,none⟩)] (enters_of Tryz.func59 (by kernel_rfl) rfl) (dep en) fun x hx u' v' W' hm' e1 e2 =>
    ZiE ⟨e1,e2,h.inv.ok x hx⟩ ⟨(d1.fresh hm').src,(d2.fresh hm').src,hok.ba,hok.bd⟩ (hN.mod hm' id)
  cases hi:isIss en with
  | true =>
   have hno14:=hno 14 (by unfold rRemove;rw [hf];dsimp only;rw [if_pos hi]);rw [hi] at hIs;generalize RCall w A m s { M with now:=(rRemove M.now a).1 } (rRemove M.now a).2 = R at *;clear hno hG hS h hFi;refine hid8 ?_ hR hSl hpc hno14 hf hIs hi hok;clear hR hSl hpc hno14 hf hIs hi hok;intro hR hSl hpc hno14 hf hIs hi hok;go_enter Tryz.func20,Tryz.ntmps20;go_wp2_with fail;refine (hR.out).mono ?_;rintro e w1 ⟨rfl,hm1⟩;have hS1:=hSl.out w1 hm1;refine hid2 ?_ hS1 hm1;clear hS1 hm1;intro hS1 hm1;go_wp2_with fail;refine (hS1.out).mono ?_;rintro e w2 ⟨k,u,v,rfl,d1,d2,-,hm2⟩;have hz:rOf (some en) = en.raw:=rfl;rw [hz] at d1 d2 ⊢
   have hA1:=m1 w2 (eCells u v en.raw) 24;have hm12:=(hm1.out.trans hm2).trans hA1;have hIs1:=hIs.out _ u v hm12 (d1.fresh hA1) (d2.fresh hA1);obtain ⟨a1,c1,rfl,-⟩:=Sl.len d1;obtain ⟨a2,c2,rfl,-⟩:=Sl.len d2;clear d1 d2;unfold eCells at *;generalize en.raw.aid.length = n1 at *;generalize en.raw.dom.length = n2 at *;generalize en.raw.kind = f1 at *;generalize en.raw.st = f2 at *;generalize en.raw.bf = f3 at *;generalize en.raw.pr = f4 at *;generalize en.raw.pk = f5 at *;generalize en.raw.ob = f6 at *;refine hid4 ?_ hm2 hA1 hm12 hIs1;clear hm2 hA1 hm12 hIs1;intro hm2 hA1 hm12 hIs1
   go_wp2_with fail;refine hIs1.out.mono ?_;rintro r w3 ⟨rfl,hm3⟩;have hfin:=hno14.out _ (hm12.out.trans hm3);replace hfin:=Lib.hid hfin;go_wp2;exact hfin.out
  | false =>
   rw [hi] at hIs
   cases hb:M.now.any (dep en) with
   | true =>
    have hno15:=hno 15 (by unfold rRemove;rw [hf];dsimp only;rw [if_neg (by rw [hi];decide),if_pos hb]);have hbs:(M.now.find? (dep en)).isSome = true:=by rw [← Y6];exact hb
    generalize RCall w A m s { M with now:=(rRemove M.now a).1 } (rRemove M.now a).2 = R at *;clear hno hG hS h;refine hid10 ?_ hR hSl hpc hno15 hf hIs hi hok hFi hb;clear hR hSl hpc hno15 hf hIs hi hok hFi hb;intro hR hSl hpc hno15 hf hIs hi hok hFi hb;go_enter Tryz.func20,Tryz.ntmps20;go_wp2_with fail;refine (hR.out).mono ?_;rintro e w1 ⟨rfl,hm1⟩;have hS1:=hSl.out w1 hm1;refine hid2 ?_ hS1 hm1;clear hS1 hm1;intro hS1 hm1;go_wp2_with fail;refine (hS1.out).mono ?_;rintro e w2 ⟨k,u,v,rfl,d1,d2,-,hm2⟩;have hz:rOf (some en) = en.raw:=rfl;rw [hz] at d1 d2 ⊢;have hA1:=m1 w2 (eCells u v en.raw) 24;have hN:=blk_a (w:=w2) (eCells u v en.raw) 24
    have hm12:=(hm1.out.trans hm2).trans hA1;have hIs1:=hIs.out _ u v hm12 (d1.fresh hA1) (d2.fresh hA1);have hFi1:=fun W (hm:Mod Nowhere (w2.alloc (.cells (eCells u v en.raw).toArray 24)) W)=>hFi.out W u v _ (hm12.trans hm) (d1.fresh (hA1.trans hm)) (d2.fresh (hA1.trans hm)) (hN W hm);obtain ⟨a1,c1,rfl,-⟩:=Sl.len d1;obtain ⟨a2,c2,rfl,-⟩:=Sl.len d2;clear d1 d2 hN;unfold eCells at *;generalize en.raw.aid.length = n1 at *;generalize en.raw.dom.length = n2 at *;generalize en.raw.kind = f1 at *;generalize en.raw.st = f2 at *;generalize en.raw.bf = f3 at *;generalize en.raw.pr = f4 at *
    generalize en.raw.pk = f5 at *;generalize en.raw.ob = f6 at *;refine hid5 ?_ hm2 hA1 hm12 hIs1 hFi1;clear hm2 hA1 hm12 hIs1 hFi1;intro hm2 hA1 hm12 hIs1 hFi1;go_wp2_with fail;refine hIs1.out.mono ?_;rintro r w3 ⟨rfl,hm3⟩;have hF:=hFi1.out w3 hm3;refine hid2 ?_ hF hm3;clear hF hm3;intro hF hm3;go_wp2_with fail;refine (hF.out).mono ?_;rintro e w4 ⟨u2,v2,rfl,d1,d2,hm4⟩;rw [hbs];obtain ⟨a3,c3,rfl,-⟩:=Sl.len d1;obtain ⟨a4,c4,rfl,-⟩:=Sl.len d2;clear d1 d2;generalize rOf (M.now.find? (dep en)) = re at *;obtain ⟨k',st',bf',pr',pk',ob',aid',dom'⟩:=re;have hfin:=fun cs:List Value=>hno15.out _ (((hm12.out.trans hm3.out).trans hm4).trans (m1 w4 cs 24))
    unfold eCells;dsimp only;refine hid2 ?_ hfin hm4;clear hfin hm4;intro hfin hm4;go_wp2;exact hfin.out _
   | false =>
    have h0:(rRemove M.now a).2 = 0:=by unfold rRemove;rw [hf];dsimp only;rw [if_neg (by rw [hi];decide),if_neg (by rw [hb];decide)]
    have hbs:(M.now.find? (dep en)).isSome = false:=by rw [← Y6];exact hb
    have hde:∀ W k,Mod Nowhere w W→G k = some en→Calls Tryz.prog 61 #[ptr A.vb,.int .i64 ((192 + k:Nat):Int)] W (RCall w A m s { M with now:=(rRemove M.now a).1 } (rRemove M.now a).2):=fun W k hm hk=>by
     have hk32:=hS.lt k en hk;have hv:view s (192 + k) = some (enB en):=by rw [hG k hk32,hk];rfl
     obtain ⟨p1,p2⟩:=h.mp.remove hf h0 hk32 hv h.xb;have:=Zh3 (h.rep.fresh hm) (by have:=h.len;omega) ((192 + k:Nat):Int) hrm;rw [p1] at this;refine this.mono ?_;intro e w' hc;rw [h0];exact ⟨_,hc.from hm.nowhere,p2,Jp _ _⟩
    have hk32:∀ k,G k = some en→k < 32:=fun k hk=>hS.lt k en hk;have her:∀ e w',RCall w A m s { M with now:=(rRemove M.now a).1 } (rRemove M.now a).2 e w'→∃ n:Nat,e = .returned (errno n):=fun e w' hc=>hc.errno;generalize RCall w A m s { M with now:=(rRemove M.now a).1 } (rRemove M.now a).2 = R at *;clear hno hG hS h;refine hid12 ?_ hR hSl hpc hf hIs hi hok hFi hb hde h0 hk32;clear hR hSl hpc hf hIs hi hok hFi hb hde h0 hk32;intro hR hSl hpc hf hIs hi hok hFi hb hde h0 hk32;replace her:=Lib.hid her;go_enter Tryz.func20,Tryz.ntmps20;go_wp2_with fail;refine (hR.out).mono ?_;rintro e w1 ⟨rfl,hm1⟩
    have hS1:=hSl.out w1 hm1;refine hid2 ?_ hS1 hm1;clear hS1 hm1;intro hS1 hm1;go_wp2_with fail;refine (hS1.out).mono ?_;rintro e w2 ⟨k,u,v,rfl,d1,d2,hGk,hm2⟩;have hz:rOf (some en) = en.raw:=rfl;rw [hz] at d1 d2 ⊢;have hA1:=m1 w2 (eCells u v en.raw) 24;have hN:=blk_a (w:=w2) (eCells u v en.raw) 24;have hm12:=(hm1.out.trans hm2).trans hA1;have hIs1:=hIs.out _ u v hm12 (d1.fresh hA1) (d2.fresh hA1);have hFi1:=fun W (hm:Mod Nowhere (w2.alloc (.cells (eCells u v en.raw).toArray 24)) W)=>hFi.out W u v _ (hm12.trans hm) (d1.fresh (hA1.trans hm)) (d2.fresh (hA1.trans hm)) (hN W hm);obtain ⟨a1,c1,rfl,-⟩:=Sl.len d1
    obtain ⟨a2,c2,rfl,-⟩:=Sl.len d2;clear d1 d2 hN;unfold eCells at *;generalize en.raw.aid.length = n1 at *;generalize en.raw.dom.length = n2 at *;generalize en.raw.kind = f1 at *;generalize en.raw.st = f2 at *;generalize en.raw.bf = f3 at *;generalize en.raw.pr = f4 at *;generalize en.raw.pk = f5 at *;generalize en.raw.ob = f6 at *;refine hid5 ?_ hm2 hA1 hm12 hIs1 hFi1;clear hm2 hA1 hm12 hIs1 hFi1;intro hm2 hA1 hm12 hIs1 hFi1;go_wp2_with fail;refine hIs1.out.mono ?_;rintro r w3 ⟨rfl,hm3⟩;have hF:=hFi1.out w3 hm3;refine hid2 ?_ hF hm3;clear hF hm3;intro hF hm3;go_wp2_with fail;refine (hF.out).mono ?_;rintro e w4 ⟨u2,v2,rfl,d1,d2,hm4⟩
    rw [hbs];obtain ⟨a3,c3,rfl,-⟩:=Sl.len d1;obtain ⟨a4,c4,rfl,-⟩:=Sl.len d2;clear d1 d2;generalize rOf (M.now.find? (dep en)) = re at *;obtain ⟨k',st',bf',pr',pk',ob',aid',dom'⟩:=re;have hgk:=hGk en rfl;have hk:=hk32.out k hgk;have hadd:IntKind.i64.wrap (192 + (k:Int)) = ((192 + k:Nat):Int):=by rw [IntKind.wrap_i64];omega
    have hdl:=fun cs:List Value=>hde.out _ k (((hm12.out.trans hm3.out).trans hm4).trans (m1 w4 cs 24)) hgk;have hcl:=fun cs:List Value=>hpc.out _ (((hm12.out.trans hm3.out).trans hm4).trans (m1 w4 cs 24));obtain ⟨z0,zl⟩:=hcl [.slice a3 aid'.length c3,.int .i64 k',.int .i64 st',.int .i64 bf',.int .i64 pr',.slice a4 dom'.length c4,.int .i64 pk',.int .i64 ob'];obtain ⟨z2,zl2⟩:=hpc.out _ ((hm12.out.trans hm3.out).trans hm4);have hdl1:=hdl [.slice a3 aid'.length c3,.int .i64 k',.int .i64 st',.int .i64 bf',.int .i64 pr',.slice a4 dom'.length c4,.int .i64 pk',.int .i64 ob']
    clear hdl hcl;unfold eCells;dsimp only;refine hid4 ?_ hm4 hdl1 hGk hgk;clear hm4 hdl1 hGk hgk;intro hm4 hdl1 hGk hgk;go_wp2_with fail;refine (hdl1.out).mono ?_;rintro e w5 hc;obtain ⟨ne,rfl⟩:=her.out _ _ hc;replace hc:=Lib.hid hc;go_wp2;exact hc.out
end Go.Proofs.YthmahbfmfpjjcaaGreat
