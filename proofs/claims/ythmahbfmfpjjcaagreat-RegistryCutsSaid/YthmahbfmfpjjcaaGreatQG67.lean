/-
  The registry: the properties that are asked of entries.
-/
import Derived.Test.YthmahbfmfpjjcaaGreatQG66
set_option linter.unusedVariables false
set_option linter.unusedSimpArgs false
set_option maxHeartbeats 4000000
set_option maxRecDepth 100000
namespace Go.Proofs.YthmahbfmfpjjcaaGreat
open Go.RowKit
open Jn Vn Rg
attribute [local go_sem] Oper.semAt_some
theorem Zix {W:World} {u v:Value} {e:En} (h:CE W u v e) {B:Nat} {t:Value} {a:List Nat} (hc:W.cell? ⟨B,0,none⟩ = some t) (hB:B < W.heap.size) (ht:Src W t a) (ba:Bytes a) :
  Calls Tryz.prog 44 #[.agg (eCells u v e.raw).toArray,.pointer (some ⟨B,0,none⟩)] W fun r w'=>r = .returned (.bool (isAid a e))∧Mod Nowhere W w':=by
 have hE:∀ W',Mod Nowhere W W'→Calls Tryz.prog 42 #[u,t] W' fun r w'=>r = .returned (.bool (isAid a e))∧Mod Nowhere W' w':=fun W' hm=>ZH (h.inE.sa.fresh hm) (ht.fresh hm) h.inE.ba ba;generalize isAid a e = q at *;obtain ⟨a1,c1,rfl,-⟩:=h.inE.sa;obtain ⟨a2,c2,rfl,-⟩:=h.inE.sd;obtain ⟨a3,c3,rfl,-⟩:=ht;clear h;obtain ⟨k,st,bf,pr,pk,ob,aid,dom⟩:=e;unfold eCells;dsimp only [En.raw] at *;generalize aid.length = n1 at *;generalize dom.length = n2 at *;generalize a.length = n3 at *;replace hE:=Lib.hid hE;go_enter Tryz.func44,Tryz.ntmps44;go_wp2_with fail;refine (hE.out _ (m1 W _ _)).mono ?_;rintro r w1 ⟨rfl,hm⟩
 go_wp2;go_ret;exact ⟨rfl,(m1 W _ _).trans hm⟩
theorem Ziy {W:World} {u v:Value} {e:En} (h:CE W u v e) {B:Nat} {n:Nat} (hc:W.cell? ⟨B,0,none⟩ = some (.int .i64 n)) (hB:B < W.heap.size) :
  Calls Tryz.prog 96 #[.agg (eCells u v e.raw).toArray,.pointer (some ⟨B,0,none⟩)] W fun r w'=>r = .returned (.bool (isPak n e))∧Mod Nowhere W w':=by
 obtain ⟨a1,c1,rfl,-⟩:=h.inE.sa;obtain ⟨a2,c2,rfl,-⟩:=h.inE.sd;clear h;obtain ⟨k,st,bf,pr,pk,ob,aid,dom⟩:=e;unfold isPak eCells;dsimp only [En.raw] at *;generalize aid.length = n1 at *;generalize dom.length = n2 at *;by_cases hk:k = 3
 ·have hkb:((k:Int) == 3) = true:=by simp [hk]
  have hnb:((pk:Int) == (n:Int)) = decide (pk = n):=by by_cases hq:pk = n <;> simp [hq];omega
  rw [decide_eq_true hk];generalize decide (pk = n) = q at *;go_enter Tryz.func96,Tryz.ntmps96;go_wp2;go_ret;exact ⟨Za (by simp),m1 W _ _⟩
 ·have hkb:((k:Int) == 3) = false:=by simp;omega
  rw [decide_eq_false hk];go_enter Tryz.func96,Tryz.ntmps96;go_wp2;go_ret;exact ⟨rfl,m1 W _ _⟩
theorem Ziz {W:World} {u v:Value} {e:En} (h:CE W u v e) :
  Calls Tryz.prog 52 #[.agg (eCells u v e.raw).toArray] W fun r w'=>r = .returned (.bool (isImp e))∧Mod Nowhere W w':=by
 have h1:=and1 (x:=e.pr) (by have:=h.ok.p31;omega);obtain ⟨a1,c1,rfl,-⟩:=h.inE.sa;obtain ⟨a2,c2,rfl,-⟩:=h.inE.sd;clear h;obtain ⟨k,st,bf,pr,pk,ob,aid,dom⟩:=e;unfold isImp eCells;dsimp only [En.raw] at *;generalize aid.length = n1 at *;generalize dom.length = n2 at *;generalize decide (pr % 2 = 1) = q at *;go_enter Tryz.func52,Tryz.ntmps52;go_wp2;go_ret;exact ⟨rfl,m1 W _ _⟩
theorem ZcU {W:World} {u v:Value} {e:En} (h:CE W u v e):Calls Tryz.prog 46 #[.agg (eCells u v e.raw).toArray] W fun r w'=>r = .returned (.bool (isSel e))∧Mod Nowhere W w':=by
 obtain ⟨a1,c1,rfl,-⟩:=h.inE.sa;obtain ⟨a2,c2,rfl,-⟩:=h.inE.sd;refine (Zfj W a1 a2 _ c1 _ c2 e.kind e.st e.bf e.pr e.pk e.ob).mono ?_;rintro r w' ⟨rfl,hm⟩;refine ⟨Za ?_,hm⟩;unfold isSel;have e1:decide ((e.kind:Int) ≠ 3) = decide (e.kind ≠ 3):=decide_eq_decide.2 (by omega);have e2:decide ((e.st:Int) = 3) = decide (e.st = 3):=decide_eq_decide.2 (by omega);have e3:decide ((e.st:Int) = 4) = decide (e.st = 4):=decide_eq_decide.2 (by omega);rw [e1,e2,e3]
theorem ZiA {W:World} {u v:Value} {e:En} (h:CE W u v e) :
  Calls Tryz.prog 49 #[.agg (eCells u v e.raw).toArray] W fun r w'=>r = .returned (.bool (isImp e && isSel e))∧Mod Nowhere W w':=by
 have hS:=fun W' (hm:Mod Nowhere W W')=>ZcU (h.fresh hm);have h1:=and1 (x:=e.pr) (by have:=h.ok.p31;omega);obtain ⟨a1,c1,rfl,-⟩:=h.inE.sa;obtain ⟨a2,c2,rfl,-⟩:=h.inE.sd;clear h;generalize isSel e = sl at *;obtain ⟨k,st,bf,pr,pk,ob,aid,dom⟩:=e;unfold isImp;unfold eCells at *;dsimp only [En.raw] at *;generalize aid.length = n1 at *;generalize dom.length = n2 at *;generalize decide (pr % 2 = 1) = q at *
 cases q
 ·replace hS:=Lib.hid hS;go_enter Tryz.func49,Tryz.ntmps49;go_wp2;go_ret;exact ⟨rfl,m1 W _ _⟩
 ·replace hS:=Lib.hid hS;go_enter Tryz.func49,Tryz.ntmps49;go_wp2_with fail;refine (hS.out _ (m1 W _ _)).mono ?_;rintro r w1 ⟨rfl,hm⟩;go_wp2;go_ret;exact ⟨Za (by simp),(m1 W _ _).trans hm⟩
theorem ZiB {W:World} {u v:Value} {e:En} (h:CE W u v e) {B C:Nat} {t1 t2:Value} {p a:List Nat} (hc:W.cell? ⟨B,0,none⟩ = some t1) (hB:B < W.heap.size) (hd:W.cell? ⟨C,0,none⟩ = some t2) (hC:C < W.heap.size) (ht1:Src W t1 p) (ht2:Src W t2 a) (bp:Bytes p) (ba:Bytes a) :
  Calls Tryz.prog 45 #[.agg (eCells u v e.raw).toArray,.pointer (some ⟨B,0,none⟩),.pointer (some ⟨C,0,none⟩)] W fun r w'=>r = .returned (.bool (isNext (fun e=>begB p e.aid) a e))∧Mod Nowhere W w':=by
 have hS:=fun W' (hm:Mod Nowhere W W')=>ZcU (h.fresh hm);have hP:∀ W',Mod Nowhere W W'→Calls Tryz.prog 47 #[u,t1] W' fun r w'=>r = .returned (.bool (begB p e.aid))∧Mod Nowhere W' w':=fun W' hm=>Zfq (h.inE.sa.fresh hm) (ht1.fresh hm) h.inE.ba bp;have hK:∀ W',Mod Nowhere W W'→Calls Tryz.prog 48 #[u,t2] W' fun r w'=>r = .returned (.int .i64 (cmpB e.aid a))∧w' = W':=fun W' hm=>Zbe (h.inE.sa.fresh hm) (ht2.fresh hm) h.inE.ba ba;have hcc:∀ W',Mod Nowhere W W'→W'.cell? ⟨B,0,none⟩ = some t1∧W'.cell? ⟨C,0,none⟩ = some t2:=fun W' hm=>⟨(hm.cell (p:=⟨B,0,none⟩) hB id).trans hc,(hm.cell (p:=⟨C,0,none⟩) hC id).trans hd⟩;obtain ⟨a1,c1,rfl,-⟩:=h.inE.sa
 obtain ⟨a2,c2,rfl,-⟩:=h.inE.sd;obtain ⟨a3,c3,rfl,-⟩:=ht1;obtain ⟨a4,c4,rfl,-⟩:=ht2;clear h;unfold isNext;have hxe:∀ W':World,Mod Nowhere (W.alloc (.cells (eCells (.slice a1 e.raw.aid.length c1) (.slice a2 e.raw.dom.length c2) e.raw).toArray 24)) W'→Blk W' W.heap.size (eCells (.slice a1 e.raw.aid.length c1) (.slice a2 e.raw.dom.length c2) e.raw) 24:=fun W' hm=>(Blk.new W _ _).mod hm id
 have hx0:∀ W':World,Mod Nowhere (W.alloc (.cells (eCells (.slice a1 e.raw.aid.length c1) (.slice a2 e.raw.dom.length c2) e.raw).toArray 24)) W'→W'.cell? ⟨W.heap.size,0,none⟩ = some (.slice a1 e.raw.aid.length c1):=fun W' hm=>by
  have:=(hxe W' hm).cell 0;simpa [eCells] using this
 clear hxe;generalize isSel e = sl at *
 show Calls _ _ _ _ (fun r w'=>r = .returned (.bool (sl && begB p e.aid && decide (cmpB e.aid a > 0)))∧Mod Nowhere W w')
 generalize begB p e.aid = gb at *;generalize cmpB e.aid a = cb at *;obtain ⟨k,st,bf,pr,pk,ob,aid,dom⟩:=e;unfold eCells at *;dsimp only [En.raw] at *;generalize aid.length = n1 at *;generalize dom.length = n2 at *;generalize p.length = n3 at *;generalize a.length = n4 at *;refine hid5 ?_ hS hP hK hcc hx0;clear hS hP hK hcc hx0;intro hS hP hK hcc hx0
 cases sl
 ·go_enter Tryz.func45,Tryz.ntmps45;go_wp2_with fail;refine (hS.out _ (m1 W _ _)).mono ?_;rintro r w1 ⟨rfl,hm⟩;go_wp2;go_ret;exact ⟨rfl,(m1 W _ _).trans hm⟩
 ·go_enter Tryz.func45,Tryz.ntmps45;go_wp2_with fail;refine (hS.out _ (m1 W _ _)).mono ?_;rintro r w1 ⟨rfl,hm⟩;have q0:=hx0.out w1 hm;have hmw:=(m1 W _ _).trans hm;obtain ⟨q1,q2⟩:=hcc.out w1 hmw;have hP1:=hP.out w1 hmw;refine hid3 ?_ hP1 hm hmw;clear hP1 hm hmw;intro hP1 hm hmw
  cases gb
  ·go_wp2_with fail;refine (hP1.out).mono ?_;rintro e w2 ⟨rfl,hm2⟩;go_wp2;go_ret;exact ⟨rfl,hmw.out.trans hm2⟩
  ·go_wp2_with fail;refine (hP1.out).mono ?_;rintro e w2 ⟨rfl,hm2⟩;have q3:=hx0.out w2 (hm.out.trans hm2);have hmw2:=hmw.out.trans hm2;obtain ⟨q4,q5⟩:=hcc.out w2 hmw2;have hK2:=hK.out w2 hmw2;have hgt:∀ b:Bool,decide (cb > 0) = b→decide (0 < cb) = b:=fun b h=>h;refine hid3 ?_ hK2 hm2 hmw2;clear hK2 hm2 hmw2;intro hK2 hm2 hmw2;go_wp2_with fail;refine (hK2.out).mono ?_;rintro e w3 ⟨rfl,rfl⟩;go_wp2;go_ret;exact ⟨Za (by simp),hmw2.out⟩
theorem ZiC {W:World} {u v u' v':Value} {x e:En} (hx:CE W u v x) (he:InE W u' v' e.raw) :
  Calls Tryz.prog 60 #[.agg (eCells u v x.raw).toArray,.agg (eCells u' v' e.raw).toArray] W fun r w'=>r = .returned (.bool (dep e x))∧Mod Nowhere W w':=by
 have hE1:∀ W',Mod Nowhere W W'→Calls Tryz.prog 42 #[u,u'] W' fun r w'=>r = .returned (.bool (decide (x.aid = e.aid)))∧Mod Nowhere W' w':=fun W' hm=>ZH (hx.inE.sa.fresh hm) (he.sa.fresh hm) hx.inE.ba he.ba;have hE2:∀ W',Mod Nowhere W W'→Calls Tryz.prog 42 #[v,u'] W' fun r w'=>r = .returned (.bool (decide (x.dom = e.aid)))∧Mod Nowhere W' w':=fun W' hm=>ZH (hx.inE.sd.fresh hm) (he.sa.fresh hm) hx.inE.bd he.ba;unfold dep;generalize decide (x.aid = e.aid) = b4 at *;generalize decide (x.dom = e.aid) = b5 at *;obtain ⟨a1,c1,rfl,-⟩:=hx.inE.sa;obtain ⟨a2,c2,rfl,-⟩:=hx.inE.sd;obtain ⟨a3,c3,rfl,-⟩:=he.sa
 obtain ⟨a4,c4,rfl,-⟩:=he.sd;clear hx he;obtain ⟨k,st,bf,pr,pk,ob,aid,dom⟩:=x;obtain ⟨k',st',bf',pr',pk',ob',aid',dom'⟩:=e;unfold eCells;dsimp only [En.raw] at *;have e1:((k:Int) == 2) = decide (k = 2):=by by_cases hq:k = 2 <;> simp [hq];omega
 have e2:((k':Int) == 3) = decide (k' = 3):=by by_cases hq:k' = 3 <;> simp [hq];omega
 have e3:((pk:Int) == (pk':Int)) = decide (pk = pk'):=by by_cases hq:pk = pk' <;> simp [hq];omega
 generalize decide (k = 2) = b1 at *;generalize decide (k' = 3) = b2 at *;generalize decide (pk = pk') = b3 at *;generalize aid.length = n1 at *;generalize dom.length = n2 at *;generalize aid'.length = n3 at *;generalize dom'.length = n4 at *;have m2:∀ a b:List Value,Mod Nowhere W ((W.alloc (.cells a.toArray 24)).alloc (.cells b.toArray 24)):=fun a b=>(m1 W a _).trans (m1 _ b _)
 have hX:∀ (cs ds:List Value) W',Mod Nowhere ((W.alloc (.cells cs.toArray 24)).alloc (.cells ds.toArray 24)) W'→Blk W' W.heap.size cs 24∧Blk W' (W.heap.size + 1) ds 24:=fun cs ds W' hm=>⟨((Blk.new W cs _).mod (m1 _ ds _) id).mod hm id,by
  have:=(Blk.new (W.alloc (.cells cs.toArray 24)) ds 24).mod hm id
  simpa using this⟩
 refine hid4 ?_ hE1 hE2 m2 hX;clear hE1 hE2 m2 hX;intro hE1 hE2 m2 hX;go_enter Tryz.func60,Tryz.ntmps60;go_wp2_with fail;refine (hE1.out _ (m2.out _ _)).mono ?_;rintro r w1 ⟨rfl,hm⟩
 cases b4
 ·obtain ⟨X,Y⟩:=hX.out _ _ _ hm;have x1:=X.cell 1;have x5:=X.cell 5;have x6:=X.cell 6;have y0:=Y.cell 0;have y1:=Y.cell 1;have y6:=Y.cell 6;simp only [gz0,gs0] at x1 x5 x6 y0 y1 y6;have hmw:=(m2.out _ _).trans hm;have hE3:=hE2.out w1 hmw;refine hid5 ?_ hE3 X Y hm hmw;clear hE3 X Y hm hmw;intro hE3 X Y hm hmw;go_wp2_with fail;refine hE3.out.mono ?_;rintro r w2 ⟨rfl,hm2⟩;obtain ⟨X2,Y2⟩:=hX.out _ _ _ (hm.out.trans hm2);have z1:=X2.cell 1;have z6:=X2.cell 6;have v1:=Y2.cell 1;have v6:=Y2.cell 6;simp only [gz0,gs0] at z1 z6 v1 v6;refine hid3 ?_ X2 Y2 hm2;clear X2 Y2 hm2;intro X2 Y2 hm2
  cases b5
  ·cases b1
   ·go_wp2;go_ret;exact ⟨rfl,hmw.out.trans hm2.out⟩
   ·cases b2
    ·go_wp2;go_ret;exact ⟨rfl,hmw.out.trans hm2.out⟩
    ·go_wp2;go_ret;exact ⟨Za (by simp),hmw.out.trans hm2.out⟩
  ·go_wp2;go_ret;exact ⟨rfl,hmw.out.trans hm2.out⟩
 ·replace hm:=Lib.hid hm;go_wp2;go_ret;exact ⟨rfl,(m2.out _ _).trans hm.out⟩
end Go.Proofs.YthmahbfmfpjjcaaGreat
/-
 The registry: Find, Next, Default; whether there is a domain, a package.
-/
namespace Go.Proofs.YthmahbfmfpjjcaaGreat
open Go.RowKit
open Jn Vn Rg
attribute [local go_sem] Oper.semAt_some
theorem Jo {w:World} {rb:Nat} {A:VAt} {m:Mem} {s:VSt} {l:List En} (h:Reg w rb A m s l) {t:Value} {a:List Nat} (ht:Src w t a) (ba:Bytes a):Calls Tryz.prog 16 #[ptr rb,t] w (FPost w (rFind l a)):=by
 have hm2:=m2z w [t] zero8 22 24;have hB:=blk_b (w:=w) [t] zero8 22 24;have hinv:=h.inv
 have hF:=Z0 (h.fresh hm2) 44 #[.pointer (some ⟨w.heap.size,0,none⟩)] (enters_of Tryz.func44 (by kernel_rfl) rfl) (isAid a) fun e he u v W hm d1 d2 =>
  Zix ⟨d1,d2,hinv.ok e he⟩ (by have:=(hB W hm).1.cell 0;simpa using this) (hB W hm).1.lt (ht.fresh (hm2.trans hm)) ba
 have hT:∀ W,Mod Nowhere ((w.alloc (.cells [t].toArray 22)).alloc (.cells zero8.toArray 24)) W→Blk W (w.heap.size + 1) zero8 24:=fun W hm=>(hB W hm).2;obtain ⟨o,ho⟩:∃ o,rFind l a = o:=⟨_,rfl⟩;rw [show l.find? (isAid a) = o from ho] at hF;rw [ho];unfold zero8 at hF hT hm2;obtain ⟨ta,tc,rfl,-⟩:=ht;generalize a.length = n at *;clear hB h;refine hid5 ?_ hF hT hm2 ho hinv;clear hF hT hm2 ho hinv;intro hF hT hm2 ho hinv;go_enter Tryz.func16,Tryz.ntmps16;go_wp2_with fail;refine (hF.out).mono ?_;rintro e w3 hr;obtain ⟨u,v,rfl,d1,d2,hm⟩:=hr;obtain ⟨re,hre⟩:∃ re,rOf o = re:=⟨_,rfl⟩;rw [hre] at d1 d2 ⊢
 obtain ⟨k,st,bf,pr,pk,ob,aid,dom⟩:=re;unfold eCells;dsimp only at d1 d2 ⊢;replace hre:=Lib.hid hre;obtain ⟨a1,c1,rfl,-⟩:=Sl.len d1;obtain ⟨a2,c2,rfl,-⟩:=Sl.len d2;have bT:=hT.out _ hm;have hb8:=blk8 bT (.slice a1 aid.length c1) (.int .i64 k) (.int .i64 st) (.int .i64 bf) (.int .i64 pr) (.slice a2 dom.length c2) (.int .i64 pk) (.int .i64 ob);unfold put8 at hb8;have hs1:=shun1 (U:=5) bT (by decide);have f1:=DSl.mod d1 hb8.2 hs1;have f2:=DSl.mod d2 hb8.2 hs1;have hmf:=(hm2.out.trans hm).own hb8.2 (by omega);have hbl:=hb8.1;clear hb8 hs1 d1 d2;have yl:=bT.lt;have y0:=bT.cell 0;have y1:=bT.cell 1;have y2:=bT.cell 2;have y3:=bT.cell 3;have y4:=bT.cell 4;have y5:=bT.cell 5;have y6:=bT.cell 6;have y7:=bT.cell 7;have yf0:=bT.frozen 0;have yf1:=bT.frozen 1;have yf2:=bT.frozen 2;have yf3:=bT.frozen 3;have yf4:=bT.frozen 4;have yf5:=bT.frozen 5;have yf6:=bT.frozen 6;have yf7:=bT.frozen 7
 simp only [gz0,gs0] at y0 y1 y2 y3 y4 y5 y6 y7;refine hid6 ?_ hmf hbl bT f1 f2 hm;clear hmf hbl bT f1 f2 hm;intro hmf hbl bT f1 f2 hm;go_wp2;refine bodyPost_ret (ZX rfl _ _ (w.heap.size + 1) _ _ _ _ _ _ _ _ rfl hbl.out) rfl ?_
 show FPost w o _ _
 unfold FPost;rw [hre.out];exact ⟨_,_,rfl,f1.out,f2.out,hmf.out⟩
theorem ZcV {w:World} {rb:Nat} {A:VAt} {m:Mem} {s:VSt} {l:List En} (h:Reg w rb A m s l) {t1 t2:Value} {p a:List Nat} (ht1:Src w t1 p) (ht2:Src w t2 a) (bp:Bytes p) (ba:Bytes a) :
  Calls Tryz.prog 17 #[ptr rb,t1,t2] w (FPost w (rNext l (fun e=>begB p e.aid) a)):=by
 have hm2:=(m2z w [t1] [t2] 22 22).trans (m1 _ zero8 24)
 have hB:∀ W,Mod Nowhere (((w.alloc (.cells [t1].toArray 22)).alloc (.cells [t2].toArray 22)).alloc (.cells zero8.toArray 24)) W→(Blk W w.heap.size [t1] 22∧Blk W (w.heap.size + 1) [t2] 22)∧Blk W (w.heap.size + 1 + 1) zero8 24:=fun W hm =>
  ⟨blk_b (w:=w) [t1] [t2] 22 22 W ((m1 _ zero8 _).trans hm),by
   have:=blk_a (w:=(w.alloc (.cells [t1].toArray 22)).alloc (.cells [t2].toArray 22)) zero8 24 W hm
   simpa using this⟩
 have hinv:=h.inv
 have hF:=Z0 (h.fresh hm2) 45 #[.pointer (some ⟨w.heap.size,0,none⟩),.pointer (some ⟨w.heap.size + 1,0,none⟩)] (enters_of Tryz.func45 (by kernel_rfl) rfl) (isNext (fun e=>begB p e.aid) a) fun e he u v W hm d1 d2 =>
  ZiB ⟨d1,d2,hinv.ok e he⟩ (by have:=(hB W hm).1.1.cell 0;simpa using this) (hB W hm).1.1.lt (by have:=(hB W hm).1.2.cell 0;simpa using this) (hB W hm).1.2.lt (ht1.fresh (hm2.trans hm)) (ht2.fresh (hm2.trans hm)) bp ba
 have hT:∀ W,Mod Nowhere (((w.alloc (.cells [t1].toArray 22)).alloc (.cells [t2].toArray 22)).alloc (.cells zero8.toArray 24)) W→Blk W (w.heap.size + 1 + 1) zero8 24:=fun W hm=>(hB W hm).2;obtain ⟨o,ho⟩:∃ o,rNext l (fun e=>begB p e.aid) a = o:=⟨_,rfl⟩;rw [show l.find? (isNext (fun e=>begB p e.aid) a) = o from ho] at hF;rw [ho];unfold zero8 at hF hT hm2;obtain ⟨ta,tc,rfl,-⟩:=ht1;obtain ⟨sa,sc,rfl,-⟩:=ht2;generalize a.length = n at *;generalize p.length = n2 at *;clear hB h;refine hid5 ?_ hF hT hm2 ho hinv;clear hF hT hm2 ho hinv;intro hF hT hm2 ho hinv;go_enter Tryz.func17,Tryz.ntmps17
 go_wp2_with fail;refine (hF.out).mono ?_;rintro e w3 hr;obtain ⟨u,v,rfl,d1,d2,hm⟩:=hr;obtain ⟨re,hre⟩:∃ re,rOf o = re:=⟨_,rfl⟩;rw [hre] at d1 d2 ⊢;obtain ⟨k,st,bf,pr,pk,ob,aid,dom⟩:=re;unfold eCells;dsimp only at d1 d2 ⊢;replace hre:=Lib.hid hre;obtain ⟨a1,c1,rfl,-⟩:=Sl.len d1;obtain ⟨a2,c2,rfl,-⟩:=Sl.len d2;have bT:=hT.out _ hm;have hb8:=blk8 bT (.slice a1 aid.length c1) (.int .i64 k) (.int .i64 st) (.int .i64 bf) (.int .i64 pr) (.slice a2 dom.length c2) (.int .i64 pk) (.int .i64 ob);unfold put8 at hb8;have hs1:=shun1 (U:=5) bT (by decide);have f1:=DSl.mod d1 hb8.2 hs1;have f2:=DSl.mod d2 hb8.2 hs1
 have hmf:=(hm2.out.trans hm).own hb8.2 (by omega);have hbl:=hb8.1;clear hb8 hs1 d1 d2;have yl:=bT.lt;have y0:=bT.cell 0;have y1:=bT.cell 1;have y2:=bT.cell 2;have y3:=bT.cell 3;have y4:=bT.cell 4;have y5:=bT.cell 5;have y6:=bT.cell 6;have y7:=bT.cell 7;have yf0:=bT.frozen 0;have yf1:=bT.frozen 1;have yf2:=bT.frozen 2;have yf3:=bT.frozen 3;have yf4:=bT.frozen 4;have yf5:=bT.frozen 5;have yf6:=bT.frozen 6;have yf7:=bT.frozen 7;simp only [gz0,gs0] at y0 y1 y2 y3 y4 y5 y6 y7;refine hid6 ?_ hmf hbl bT f1 f2 hm;clear hmf hbl bT f1 f2 hm;intro hmf hbl bT f1 f2 hm
 go_wp2;refine bodyPost_ret (ZX rfl _ _ (w.heap.size + 1 + 1) _ _ _ _ _ _ _ _ rfl hbl.out) rfl ?_
 show FPost w o _ _
 unfold FPost;rw [hre.out];exact ⟨_,_,rfl,f1.out,f2.out,hmf.out⟩
theorem ZcW {w:World} {rb:Nat} {A:VAt} {m:Mem} {s:VSt} {l:List En} (h:Reg w rb A m s l):Calls Tryz.prog 18 #[ptr rb] w (FPost w (pDefault l)):=by
 have hm2:=m1 w zero8 24;have hT:=blk_a (w:=w) zero8 24;have hinv:=h.inv;have hF:=Z0 (h.fresh hm2) 49 #[] (enters_of Tryz.func49 (by kernel_rfl) rfl) (fun e=>isImp e && isSel e) fun e he u v W hm d1 d2=>ZiA ⟨d1,d2,hinv.ok e he⟩;obtain ⟨o,ho⟩:∃ o,pDefault l = o:=⟨_,rfl⟩;rw [show l.find? (fun e=>isImp e && isSel e) = o from ho] at hF;rw [ho];unfold zero8 at hF hT hm2;clear h;refine hid5 ?_ hF hT hm2 ho hinv;clear hF hT hm2 ho hinv;intro hF hT hm2 ho hinv;go_enter Tryz.func18,Tryz.ntmps18;go_wp2_with fail;refine (hF.out).mono ?_;rintro e w3 hr;obtain ⟨u,v,rfl,d1,d2,hm⟩:=hr;obtain ⟨re,hre⟩:∃ re,rOf o = re:=⟨_,rfl⟩
 rw [hre] at d1 d2 ⊢;obtain ⟨k,st,bf,pr,pk,ob,aid,dom⟩:=re;unfold eCells;dsimp only at d1 d2 ⊢;replace hre:=Lib.hid hre;obtain ⟨a1,c1,rfl,-⟩:=Sl.len d1;obtain ⟨a2,c2,rfl,-⟩:=Sl.len d2;have bT:=hT.out _ hm;have hb8:=blk8 bT (.slice a1 aid.length c1) (.int .i64 k) (.int .i64 st) (.int .i64 bf) (.int .i64 pr) (.slice a2 dom.length c2) (.int .i64 pk) (.int .i64 ob);unfold put8 at hb8;have hs1:=shun1 (U:=5) bT (by decide);have f1:=DSl.mod d1 hb8.2 hs1;have f2:=DSl.mod d2 hb8.2 hs1;have hmf:=(hm2.out.trans hm).own hb8.2 (by omega);have hbl:=hb8.1;clear hb8 hs1 d1 d2;have yl:=bT.lt;have y0:=bT.cell 0;have y1:=bT.cell 1;have y2:=bT.cell 2;have y3:=bT.cell 3;have y4:=bT.cell 4;have y5:=bT.cell 5;have y6:=bT.cell 6;have y7:=bT.cell 7
 have yf0:=bT.frozen 0;have yf1:=bT.frozen 1;have yf2:=bT.frozen 2;have yf3:=bT.frozen 3;have yf4:=bT.frozen 4;have yf5:=bT.frozen 5;have yf6:=bT.frozen 6;have yf7:=bT.frozen 7;simp only [gz0,gs0] at y0 y1 y2 y3 y4 y5 y6 y7;refine hid6 ?_ hmf hbl bT f1 f2 hm;clear hmf hbl bT f1 f2 hm;intro hmf hbl bT f1 f2 hm;go_wp2;refine bodyPost_ret (ZX rfl _ _ (w.heap.size) _ _ _ _ _ _ _ _ rfl hbl.out) rfl ?_
 show FPost w o _ _
 unfold FPost;rw [hre.out];exact ⟨_,_,rfl,f1.out,f2.out,hmf.out⟩
theorem ZcX {w:World} {rb:Nat} {A:VAt} {m:Mem} {s:VSt} {l:List En} (h:Reg w rb A m s l) {t:Value} {a:List Nat} (ht:Src w t a) (ba:Bytes a):Calls Tryz.prog 54 #[ptr rb,t] w fun e w'=>e = .returned (.bool (l.any (isDom a)))∧Mod Nowhere w w':=by
 have hF:=Jo h ht ba;rw [Zbh h.inv a];obtain ⟨ta,tc,rfl,-⟩:=ht;generalize a.length = n at *;generalize rFind l a = o at *;clear h;replace hF:=Lib.hid hF
 cases o with
 | none =>
  go_enter Tryz.func54,Tryz.ntmps54;go_wp2_with fail;refine (hF.out).mono ?_;rintro e w1 ⟨u,v,rfl,d1,d2,hm⟩;obtain ⟨a1,c1,rfl,-⟩:=Sl.len d1;obtain ⟨a2,c2,rfl,-⟩:=Sl.len d2;unfold eCells;have hz:rOf none = zeroR:=rfl;rw [hz];unfold zeroR;clear d1 d2;dsimp only [List.length_nil];replace hm:=Lib.hid hm;go_wp2;go_ret;exact ⟨rfl,hm.out.trans (m1 _ _ _)⟩
 | some e =>
  obtain ⟨k,st,bf,pr,pk,ob,aid,dom⟩:=e
  show Calls _ _ _ _ (fun r w'=>r = .returned (.bool (decide (k = 1)))∧Mod Nowhere w w')
  have hkb:((k:Int) == 1) = decide (k = 1):=by by_cases hq:k = 1 <;> simp [hq];omega
  generalize decide (k = 1) = q at *;go_enter Tryz.func54,Tryz.ntmps54;go_wp2_with fail;refine (hF.out).mono ?_;rintro e w1 ⟨u,v,rfl,d1,d2,hm⟩;obtain ⟨a1,c1,rfl,-⟩:=Sl.len d1;obtain ⟨a2,c2,rfl,-⟩:=Sl.len d2;clear d1 d2;unfold eCells;have hz:rOf (some ⟨k,st,bf,pr,pk,ob,aid,dom⟩) = ⟨k,st,bf,pr,pk,ob,aid,dom⟩:=rfl;rw [hz];dsimp only;generalize aid.length = n1 at *;generalize dom.length = n2 at *;replace hm:=Lib.hid hm;go_wp2;go_ret;exact ⟨rfl,hm.out.trans (m1 _ _ _)⟩
theorem ZiD {w:World} {rb:Nat} {A:VAt} {m:Mem} {s:VSt} {l:List En} (h:Reg w rb A m s l) (n:Nat):Calls Tryz.prog 55 #[ptr rb,.int .i64 n] w fun e w'=>e = .returned (.bool (l.any (isPak n)))∧Mod Nowhere w w':=by
 have hm2:=m1 w [.int .i64 n] 3;have hB:=blk_a (w:=w) [.int .i64 n] 3;have hinv:=h.inv
 have hF:=Z0 (h.fresh hm2) 96 #[.pointer (some ⟨w.heap.size,0,none⟩)] (enters_of Tryz.func96 (by kernel_rfl) rfl) (isPak n) fun e he u v W hm d1 d2 =>
  Ziy ⟨d1,d2,hinv.ok e he⟩ (by have:=(hB W hm).cell 0;simpa using this) (hB W hm).lt
 rw [Zfw];generalize l.find? (isPak n) = o at *;clear hB h;refine hid3 ?_ hF hm2 hinv;clear hF hm2 hinv;intro hF hm2 hinv;go_enter Tryz.func55,Tryz.ntmps55;go_wp2_with fail;refine (hF.out).mono ?_;rintro e w3 ⟨u,v,rfl,d1,d2,hm⟩;obtain ⟨a1,c1,rfl,-⟩:=Sl.len d1;obtain ⟨a2,c2,rfl,-⟩:=Sl.len d2;clear d1 d2;generalize rOf o = re at *;obtain ⟨k,st,bf,pr,pk,ob,aid,dom⟩:=re;unfold eCells;dsimp only;replace hm:=Lib.hid hm;go_wp2;go_ret;exact ⟨rfl,(hm2.out.trans hm.out).trans (m1 _ _ _)⟩
end Go.Proofs.YthmahbfmfpjjcaaGreat
