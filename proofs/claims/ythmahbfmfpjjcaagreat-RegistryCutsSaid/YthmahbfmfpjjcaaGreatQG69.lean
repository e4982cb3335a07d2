/-
  The registry: changing an entry.
-/
import Derived.Test.YthmahbfmfpjjcaaGreatQGn
import Derived.Test.YthmahbfmfpjjcaaGreatQG49
set_option linter.unusedVariables false
set_option linter.unusedSimpArgs false
set_option maxHeartbeats 8000000
set_option maxRecDepth 100000
namespace Go.Proofs.YthmahbfmfpjjcaaGreat
open Go.RowKit
open Jn Vn Rg
attribute [local go_sem] Oper.semAt_some
def ChPost (W:World) (N:Nat) (f:En × Nat) (r:Ending) (w':World):Prop :=
 r = .returned (errno f.2)∧(f.2 = 0→∃ u v,Blk w' N (eCells u v f.1.raw) 24∧InE w' u v f.1.raw)∧Mod (fun j=>j = N) W w'
theorem Js {w:World} {rb:Nat} {A:VAt} {m:Mem} {s:VSt} {M:Md} (h:RgM w rb A m s M) {t:Value} {a:List Nat} (ht:Src w t a) (ba:Bytes a) (hrm:Room m (vcost A)) (f:En→En × Nat) (g:FuncId) (cap:Array Value)
  (hent:∀ args w,(callFunc g args).run Tryz.prog w = .ok (.enter g args) w) (haid:∀ e,(f e).1.aid = e.aid) (hinv:RInv (rChange M.now a f).1)
  (hcall:∀ en ∈ M.now,∀ W N u v,Mod Nowhere w W→w.heap.size≤N→Blk W N (eCells u v en.raw) 24→CE W u v en→Calls Tryz.prog g (#[ptr N] ++ cap) W (ChPost W N (f en))) :
  Calls Tryz.prog 62 #[ptr rb,t,.func (.func g) #[] cap] w (RCall w A m s { M with now:=(rChange M.now a f).1 } (rChange M.now a f).2):=by
 obtain ⟨G,hG,hS⟩:=h.mp.items;have hR:=Y5 h.at_ h.rep;have hSl:∀ W,Mod Nowhere w W→Calls Tryz.prog 58 #[ptr rb,t] W (SPost W G (rFind M.now a)):=fun W hm=>ZcZ (h.reg.fresh hm) hG hS (ht.fresh hm) ba
 have hpc:∀ W,Mod Nowhere w W→W.cell? ⟨rb,0,none⟩ = some (ptr A.vb)∧rb < W.heap.size:=fun W hm=>by
  have c0:=Blk.cell (h.at_.fresh hm) 0;simp only [gz0] at c0;exact ⟨c0,Blk.lt (h.at_.fresh hm)⟩
 have hno:∀ er:Nat,rChange M.now a f = (M.now,er)→∀ W,Mod Nowhere w W→RCall w A m s { M with now:=(rChange M.now a f).1 } (rChange M.now a f).2 (.returned (errno er)) W:=fun er e W hm=>by
  rw [e];exact RCall.none h hm er
 obtain ⟨ta,tc,rfl,-⟩:=ht;generalize a.length = n at *
 cases hf:rFind M.now a with
 | none =>
  have hno12:=hno 12 (by unfold rChange;rw [hf]);rw [hf] at hSl;generalize RCall w A m s { M with now:=(rChange M.now a f).1 } (rChange M.now a f).2 = R at *;clear hno hG hS h hcall;refine hid7 ?_ hR hSl hpc hno12 hf hinv haid;clear hR hSl hpc hno12 hf hinv haid;intro hR hSl hpc hno12 hf hinv haid;go_enter Tryz.func62,Tryz.ntmps62;go_wp2_with fail;refine (hR.out).mono ?_;rintro e w1 ⟨rfl,hm1⟩;have hS1:=hSl.out w1 hm1;refine hid2 ?_ hS1 hm1;clear hS1 hm1;intro hS1 hm1;go_wp2_with fail;refine (hS1.out).mono ?_;rintro e w2 ⟨k,u,v,rfl,d1,d2,-,hm2⟩;obtain ⟨a1,c1,rfl,-⟩:=Sl.len d1;obtain ⟨a2,c2,rfl,-⟩:=Sl.len d2
  clear d1 d2;have hz:rOf none = zeroR:=rfl;rw [hz];unfold eCells zeroR;dsimp only [List.length_nil];have hfin:=fun cs:List Value=>hno12.out _ ((hm1.out.trans hm2).trans (m1 w2 cs 24));refine hid2 ?_ hfin hm2;clear hfin hm2;intro hfin hm2;go_wp2;exact hfin.out _
 | some en =>
  have hen:en ∈ M.now:=List.mem_of_find?_eq_some hf;have hok:=h.inv.ok en hen;rw [hf] at hSl;have hC:∀ W N u v,Mod Nowhere w W→w.heap.size≤N→Blk W N (eCells u v en.raw) 24→DSl W u en.aid→DSl W v en.dom→Calls Tryz.prog g (#[ptr N] ++ cap) W (ChPost W N (f en)):=fun W N u v hm hN hb d1 d2=>hcall en hen W N u v hm hN hb ⟨d1,d2,hok⟩;by_cases h0:(f en).2 = 0
  ·have hr0:(rChange M.now a f).2 = 0:=by unfold rChange;rw [hf];dsimp only;rw [if_pos h0]
   have hok':EOk (f en).1:=by
    have e1:(rChange M.now a f).1 = repl M.now (f en).1:=by unfold rChange;rw [hf];dsimp only;rw [if_pos h0]
    rw [e1] at hinv;exact hinv.ok _ (Za6 ⟨en,hen,(haid en).symm⟩)
   have hput:∀ W c k,Mod Nowhere w W→G k = some en→Src W c (enB (f en).1)→Calls Tryz.prog 56 #[ptr A.vb,.int .i64 (192 + (k:Int)),c] W (fun e w'=>RCall w A m s { M with now:=(rChange M.now a f).1 } (rChange M.now a f).2 e w'∧Mod A.S W w'):=fun W c k hm hk hc=>by
    have hk32:=hS.lt k en hk;have hv:view s (192 + k) = some (enB en):=by rw [hG k hk32,hk];rfl
    obtain ⟨p1,p2⟩:=h.mp.change hf h0 (haid en) hinv hk32 hv h.xb;have:=ZcA (h.rep.fresh hm) (by have:=h.len;omega) ((192 + k:Nat):Int) hc (ZbT hok') (by have:=hok'.len;omega) hrm;rw [p1,show ((192 + k:Nat):Int) = 192 + (k:Int) by omega] at this;refine this.mono ?_;intro e w' hc;rw [hr0];exact ⟨⟨_,hc.from hm.nowhere,p2,Jp _ _⟩,hc.modA⟩
   have hEn:∀ W u v,InE W u v (f en).1.raw→Calls Tryz.prog 57 #[.agg (eCells u v (f en).1.raw).toArray] W (BPost W (enB (f en).1)):=fun W u v hi=>Zbg hok' hi
   have hnA:∀ W W' N cs,Mod Nowhere w W→Blk W N cs 24→Mod A.S W W'→Blk W' N cs 24∧W'.cell? ⟨rb,0,none⟩ = some (ptr A.vb)∧rb < W'.heap.size:=fun W W' N cs hm hb hm'=>by
    have hr:=h.rep.fresh hm;have h1:=hb.mod hm' (hr.noS hb (by decide) (by decide));have hrb:=h.at_.fresh hm;have h2:Blk W' rb [ptr A.vb] 75:=Blk.mod hrb hm' (hr.noS hrb (by decide) (by decide));have c0:=h2.cell 0;simp only [gz0] at c0;exact ⟨h1,c0,h2.lt⟩
   have hk32:∀ k,G k = some en→k < 32:=fun k hk=>hS.lt k en hk;have her:∀ e w',RCall w A m s { M with now:=(rChange M.now a f).1 } (rChange M.now a f).2 e w'→∃ n:Nat,e = .returned (errno n):=fun e w' hc=>hc.errno;generalize RCall w A m s { M with now:=(rChange M.now a f).1 } (rChange M.now a f).2 = R at *;generalize enB (f en).1 = eb at *;clear hno hG hS h hcall hr0;refine hid12 ?_ hR hSl hpc hf hok hput hEn hnA hk32 her hC h0;clear hR hSl hpc hf hok hput hEn hnA hk32 her hC h0;intro hR hSl hpc hf hok hput hEn hnA hk32 her hC h0;refine hid4 ?_ hok' hinv haid hen;clear hok' hinv haid hen;intro hok' hinv haid hen
   go_enter Tryz.func62,Tryz.ntmps62;go_wp2_with fail;refine (hR.out).mono ?_;rintro e w1 ⟨rfl,hm1⟩;have hS1:=hSl.out w1 hm1;refine hid2 ?_ hS1 hm1;clear hS1 hm1;intro hS1 hm1;go_wp2_with fail;refine (hS1.out).mono ?_;rintro e w2 ⟨k,u,v,rfl,d1,d2,hGk,hm2⟩;have hz:rOf (some en) = en.raw:=rfl;rw [hz] at d1 d2 ⊢;have hA1:=m1 w2 (eCells u v en.raw) 24;have hm12:=(hm1.out.trans hm2).trans hA1;have hC1:=hC.out _ _ u v hm12 (by have:=(hm1.out.trans hm2).size;omega) (blk_a (w:=w2) (eCells u v en.raw) 24 _ (Mod.refl _ _)) (d1.fresh hA1) (d2.fresh hA1);obtain ⟨a1,c1,rfl,-⟩:=Sl.len d1;obtain ⟨a2,c2,rfl,-⟩:=Sl.len d2
   clear d1 d2;have hgk:=hGk en rfl;have hk:=hk32.out k hgk;have hwN:w.heap.size≤w2.heap.size:=(hm1.out.trans hm2).size;unfold eCells at hC1 ⊢ hA1 hm12;generalize en.raw.aid.length = n1 at *;generalize en.raw.dom.length = n2 at *;generalize en.raw.kind = f1 at *;generalize en.raw.st = f2 at *;generalize en.raw.bf = f3 at *;generalize en.raw.pr = f4 at *;generalize en.raw.pk = f5 at *;generalize en.raw.ob = f6 at *;refine hid7 ?_ hm2 hA1 hm12 hC1 hGk hgk hwN;clear hm2 hA1 hm12 hC1 hGk hgk hwN;intro hm2 hA1 hm12 hC1 hGk hgk hwN;go_wp2_with fail;refine hC1.out.mono ?_;rintro r w3 ⟨rfl,hnew,hm3⟩;rw [h0.out]
   obtain ⟨u',v',hb3,hi3⟩:=hnew h0.out;have hmw3:=hm12.out.own hm3 hwN.out;have hEn3:=hEn.out _ u' v' (hi3.fresh ((Mod.refl Nowhere w3).drew));obtain ⟨a3,c3,rfl,-⟩:=hi3.sa;obtain ⟨a4,c4,rfl,-⟩:=hi3.sd
   have hF:∀ W,Mod Nowhere w3 W→W.cell? ⟨w2.heap.size,0,none⟩ = some (.slice a3 (f en).1.raw.aid.length c3)∧W.cell? ⟨w2.heap.size,1,none⟩ = some (.int .i64 (f en).1.raw.kind)∧W.cell? ⟨w2.heap.size,2,none⟩ = some (.int .i64 (f en).1.raw.st)∧W.cell? ⟨w2.heap.size,3,none⟩ = some (.int .i64 (f en).1.raw.bf)∧W.cell? ⟨w2.heap.size,4,none⟩ = some (.int .i64 (f en).1.raw.pr)∧W.cell? ⟨w2.heap.size,5,none⟩ = some (.slice a4 (f en).1.raw.dom.length c4)∧W.cell? ⟨w2.heap.size,6,none⟩ = some (.int .i64 (f en).1.raw.pk)∧W.cell? ⟨w2.heap.size,7,none⟩ = some (.int .i64 (f en).1.raw.ob)∧w2.heap.size < W.heap.size∧W.cell? ⟨rb,0,none⟩ = some (ptr A.vb)∧rb < W.heap.size:=fun W hm=>by
    have X:=hb3.mod hm id;have x0:=X.cell 0;have x1:=X.cell 1;have x2:=X.cell 2;have x3:=X.cell 3;have x4:=X.cell 4;have x5:=X.cell 5;have x6:=X.cell 6;have x7:=X.cell 7;obtain ⟨y0,y1⟩:=hpc.out W (hmw3.trans hm);exact ⟨x0,x1,x2,x3,x4,x5,x6,x7,X.lt,y0,y1⟩
   obtain ⟨x0,x1,x2,x3,x4,x5,x6,x7,xl,q0,ql⟩:=hF w3 (Mod.refl _ _);have hnB:∀ W W',Mod Nowhere w3 W→Mod A.S W W'→Blk W' w2.heap.size (eCells (.slice a3 (f en).1.raw.aid.length c3) (.slice a4 (f en).1.raw.dom.length c4) (f en).1.raw) 24∧W'.cell? ⟨rb,0,none⟩ = some (ptr A.vb)∧rb < W'.heap.size:=fun W W' hm hm'=>hnA.out W W' _ _ (hmw3.trans hm) (hb3.mod hm id) hm';have hadd:IntKind.i64.wrap (192 + (k:Int)) = 192 + (k:Int):=by rw [IntKind.wrap_i64];omega
   have hd3:Mod Nowhere w3 w3.drew:=(Mod.refl Nowhere w3).drew;have hdr:=hmw3.drew;clear hb3 hi3 hnew;unfold eCells at hEn3 hnB;generalize (f en).1.raw.aid.length = p1 at *;generalize (f en).1.raw.dom.length = p2 at *;generalize (f en).1.raw.kind = g1 at *;generalize (f en).1.raw.st = g2 at *;generalize (f en).1.raw.bf = g3 at *;generalize (f en).1.raw.pr = g4 at *;generalize (f en).1.raw.pk = g5 at *;generalize (f en).1.raw.ob = g6 at *;refine hid7 ?_ hm3 hmw3 hEn3 hF hnB hd3 hdr;clear hm3 hmw3 hEn3 hF hnB hd3 hdr;intro hm3 hmw3 hEn3 hF hnB hd3 hdr;go_wp2_with fail
   go_region_held3 (fun W=>W.cell? ⟨w2.heap.size,0,none⟩ = some (.slice a3 p1 c3)∧W.cell? ⟨w2.heap.size,1,none⟩ = some (.int .i64 g1)∧W.cell? ⟨w2.heap.size,2,none⟩ = some (.int .i64 g2)∧W.cell? ⟨w2.heap.size,3,none⟩ = some (.int .i64 g3)∧W.cell? ⟨w2.heap.size,4,none⟩ = some (.int .i64 g4)∧W.cell? ⟨w2.heap.size,5,none⟩ = some (.slice a4 p2 c4)∧W.cell? ⟨w2.heap.size,6,none⟩ = some (.int .i64 g5)∧W.cell? ⟨w2.heap.size,7,none⟩ = some (.int .i64 g6)∧W.cell? ⟨rb,0,none⟩ = some (ptr A.vb)) (simp [*,World.cell?_alloc_some,World.cell?_setCell_far,World.cell?_setCell_other])
    (first
     | (go_at_call 57;(with_reducible refine hEn3.out.mono ?_);rintro x w7 ⟨ea,ec,rfl,ho7,hm7⟩;have hm37:=hd3.out.trans hm7;obtain ⟨z0,z1,z2,z3,z4,z5,z6,z7,zl,zq,zql⟩:=hF.out w7 hm37;have hsc:=DSl.src (show DSl w7 (.slice ea eb.length ec) eb from Sl.of_owns ho7);have hP:=hput.out w7 _ k (hmw3.out.trans hm37) hgk.out hsc;replace ho7:=Lib.hid ho7;replace hm7:=Lib.hid hm7;replace hm37:=Lib.hid hm37;replace hsc:=Lib.hid hsc;replace hP:=Lib.hid hP)
     | (go_at_call 56;(with_reducible refine hP.out.mono ?_);rintro x w8 ⟨hc8,hm8⟩;obtain ⟨ne,rfl⟩:=her.out _ _ hc8;obtain ⟨Y,t0,tl⟩:=hnB.out w7 w8 hm37.out hm8;have y0:=Y.cell 0;have y1:=Y.cell 1;have y2:=Y.cell 2;have y3:=Y.cell 3;have y4:=Y.cell 4;have y5:=Y.cell 5;have y6:=Y.cell 6;have y7:=Y.cell 7;simp only [gz0,gs0] at y0 y1 y2 y3 y4 y5 y6 y7;replace hc8:=Lib.hid hc8;replace hm8:=Lib.hid hm8;replace Y:=Lib.hid Y)
     | fail)
   go_wp2;exact hc8.out
  ·have hnoe:=hno (f en).2 (by unfold rChange;rw [hf];dsimp only;rw [if_neg h0])
   have her0:(errno ((f en).2:Nat) = errno 0) = False:=by
    simp [Go.Proofs.YthmahbfmfpjjcaaGreat.errno];omega
   generalize RCall w A m s { M with now:=(rChange M.now a f).1 } (rChange M.now a f).2 = R at *;clear hno hG hS h hcall;have hne:(((f en).2:Int) != 0) = true:=by simp;omega
   generalize hfe:f en = fe at *;obtain ⟨fe1,fe2⟩:=fe;dsimp only at *;refine hid12 ?_ hR hSl hpc hf hok hC hnoe hinv haid hen hfe her0;clear hR hSl hpc hf hok hC hnoe hinv haid hen hfe her0;intro hR hSl hpc hf hok hC hnoe hinv haid hen hfe her0;go_enter Tryz.func62,Tryz.ntmps62;go_wp2_with fail;refine (hR.out).mono ?_;rintro e w1 ⟨rfl,hm1⟩;have hS1:=hSl.out w1 hm1;refine hid2 ?_ hS1 hm1;clear hS1 hm1;intro hS1 hm1;go_wp2_with fail;refine (hS1.out).mono ?_;rintro e w2 ⟨k,u,v,rfl,d1,d2,hGk,hm2⟩;have hz:rOf (some en) = en.raw:=rfl;rw [hz] at d1 d2 ⊢;have hA1:=m1 w2 (eCells u v en.raw) 24;have hm12:=(hm1.out.trans hm2).trans hA1
   have hC1:=hC.out _ _ u v hm12 (by have:=(hm1.out.trans hm2).size;omega) (blk_a (w:=w2) (eCells u v en.raw) 24 _ (Mod.refl _ _)) (d1.fresh hA1) (d2.fresh hA1);obtain ⟨a1,c1,rfl,-⟩:=Sl.len d1;obtain ⟨a2,c2,rfl,-⟩:=Sl.len d2;clear d1 d2;have hwN:w.heap.size≤w2.heap.size:=(hm1.out.trans hm2).size;unfold eCells at hC1 ⊢ hA1 hm12;generalize en.raw.aid.length = n1 at *;generalize en.raw.dom.length = n2 at *;generalize en.raw.kind = f1 at *;generalize en.raw.st = f2 at *;generalize en.raw.bf = f3 at *;generalize en.raw.pr = f4 at *;generalize en.raw.pk = f5 at *;generalize en.raw.ob = f6 at *;refine hid6 ?_ hm2 hA1 hm12 hC1 hGk hwN;clear hm2 hA1 hm12 hC1 hGk hwN;intro hm2 hA1 hm12 hC1 hGk hwN
   go_wp2_with fail;refine hC1.out.mono ?_;rintro r w3 ⟨rfl,hnew,hm3⟩;have hfin:=hnoe.out _ (hm12.out.own hm3 hwN.out);clear hnew;unfold Go.Proofs.YthmahbfmfpjjcaaGreat.errno at *;refine hid2 ?_ hm3 hfin;clear hm3 hfin;intro hm3 hfin;go_wp2;exact hfin.out
end Go.Proofs.YthmahbfmfpjjcaaGreat
/-
 The registry: locking an entry.
-/
namespace Go.Proofs.YthmahbfmfpjjcaaGreat
open Go.RowKit
open Jn Vn Rg
attribute [local go_sem] Oper.semAt_some
theorem ChPost.no {W w':World} {N:Nat} {en:En} {er:Nat} (he:er ≠ 0) (hm:Mod Nowhere W w'):ChPost W N (en,er) (.returned (errno er)) w':=⟨rfl,fun h=>absurd h he,hm.nowhere⟩
theorem ChPost.yes {W w1 w':World} {N:Nat} {cs:List Value} {u v:Value} {en:En} (hx:CE W u v en) (hb0:Blk W N cs 24) {e':En} (ea:e'.aid = en.aid) (ed:e'.dom = en.dom) (hm1:Mod Nowhere W w1) (hm:Mod (fun j=>j = N) w1 w') (hb:Blk w' N (eCells u v e'.raw) 24):ChPost W N (e',0) (.returned (errno 0)) w':=by
 have hs:=shun1 (U:=5) (hb0.mod hm1 id) (by decide);have d1:=DSl.mod (hx.d1.fresh hm1) hm hs;have d2:=DSl.mod (hx.d2.fresh hm1) hm hs;refine ⟨rfl,fun _=>⟨u,v,hb,⟨?_,?_,?_,?_⟩⟩,(hm1.nowhere (S:=fun j=>j = N)).trans hm⟩
 ·show Src w' u e'.aid
  rw [ea];exact d1.src
 ·show Src w' v e'.dom
  rw [ed];exact d2.src
 ·show Bytes e'.aid
  rw [ea];exact hx.ok.ba
 ·show Bytes e'.dom
  rw [ed];exact hx.ok.bd
theorem ZiG {W:World} {N:Nat} {u v:Value} {en:En} (hb:Blk W N (eCells u v en.raw) 24) (hx:CE W u v en) {B:Nat} {b:Bool} (hc:W.cell? ⟨B,0,none⟩ = some (.bool b)) (hB:B < W.heap.size) :
  Calls Tryz.prog 65 #[ptr N,.pointer (some ⟨B,0,none⟩)] W (ChPost W N (fLock b en)):=by
 have hIs:∀ X,Mod Nowhere W X→Calls Tryz.prog 53 #[.agg (eCells u v en.raw).toArray] X fun r w'=>r = .returned (.bool (isIss en))∧Mod Nowhere X w':=fun X hm=>Jq (hx.fresh hm).inE;have hno:∀ er:Nat,(fLock b en = (en,er)∧er ≠ 0)→∀ X,Mod Nowhere W X→ChPost W N (fLock b en) (.returned (errno er)) X:=fun er h X hm=>by rw [h.1];exact ChPost.no h.2 hm
 have hyes:∀ e':En,(fLock b en = (e',0)∧e'.aid = en.aid∧e'.dom = en.dom)→∀ w1 w',Mod Nowhere W w1→Mod (fun j=>j = N) w1 w'→Blk w' N (eCells u v e'.raw) 24→ChPost W N (fLock b en) (.returned (errno 0)) w':=fun e' h w1 w' h1 h2 h3=>by rw [h.1];exact ChPost.yes hx hb h.2.1 h.2.2 h1 h2 h3
 have hfl:∀ is,isIss en = is→fLock b en = (if en.kind = 3 then (en,22) else if is = true ∨ b = decide (en.st = 5) then (en,14) else if b = true then ({ en with st:=5,bf:=en.st },0) else ({ en with st:=en.bf,bf:=0 },0)):=fun is h=>by unfold fLock;rw [h]
 have hcl:∀ X,Mod Nowhere W X→X.cell? ⟨N,0,none⟩ = some u∧X.cell? ⟨N,1,none⟩ = some (.int .i64 en.kind)∧X.cell? ⟨N,2,none⟩ = some (.int .i64 en.st)∧X.cell? ⟨N,3,none⟩ = some (.int .i64 en.bf)∧X.cell? ⟨N,4,none⟩ = some (.int .i64 en.pr)∧X.cell? ⟨N,5,none⟩ = some v∧X.cell? ⟨N,6,none⟩ = some (.int .i64 en.pk)∧X.cell? ⟨N,7,none⟩ = some (.int .i64 en.ob)∧N < X.heap.size∧X.cell? ⟨B,0,none⟩ = some (.bool b)∧B < X.heap.size:=fun X hm=>by
  have Y:=hb.mod hm id;exact ⟨Y.cell 0,Y.cell 1,Y.cell 2,Y.cell 3,Y.cell 4,Y.cell 5,Y.cell 6,Y.cell 7,Y.lt,(hm.cell (p:=⟨B,0,none⟩) hB id).trans hc,Nat.lt_of_lt_of_le hB hm.size⟩
 obtain ⟨a1,c1,rfl,-⟩:=hx.inE.sa;obtain ⟨a2,c2,rfl,-⟩:=hx.inE.sd;have hbl:=hb;clear hx hc hb hB;obtain ⟨R,hRd⟩:∃ R,ChPost W N (fLock b en) = R:=⟨_,rfl⟩;rw [hRd] at hno hyes ⊢;clear hRd;obtain ⟨iss,hiss⟩:∃ x,isIss en = x:=⟨_,rfl⟩;have hfl:=hfl iss hiss;rw [hiss] at hIs;clear hiss;obtain ⟨k,st,bf,pr,pk,ob,aid,dom⟩:=en;unfold eCells at *;dsimp only [En.raw] at *;generalize hn1:aid.length = n1 at *;generalize hn2:dom.length = n2 at *;have hcl0:=hcl W (Mod.refl _ _);obtain ⟨z0,z1,z2,z3,z4,z5,z6,z7,zl,t0,tl⟩:=hcl0;by_cases hk:k = 3
 ·have hkb:((k:Int) == 3) = true:=by simp [hk]
  have hfin:=hno 22 ⟨by rw [hfl,if_pos hk],by decide⟩ W (Mod.refl _ _);refine hid10 ?_ hIs hno hyes hcl hfl hbl hk hfin hn1 hn2;clear hIs hno hyes hcl hfl hbl hk hfin hn1 hn2;intro hIs hno hyes hcl hfl hbl hk hfin hn1 hn2;go_enter Tryz.func65,Tryz.ntmps65;go_wp2;exact hfin.out
 ·have hkb:((k:Int) == 3) = false:=by simp;omega
  cases iss
  ·have hqb:((st:Int) == 5) = decide (st = 5):=by by_cases hq:st = 5 <;> simp [hq];omega
   obtain ⟨q,hq⟩:∃ q,decide (st = 5) = q:=⟨_,rfl⟩;rw [hq] at hqb;rw [if_neg hk,hq] at hfl;refine hid10 ?_ hIs hno hyes hcl hfl hbl hk hq hn1 hn2;clear hIs hno hyes hcl hfl hbl hk hq hn1 hn2;intro hIs hno hyes hcl hfl hbl hk hq hn1 hn2
   cases b
   ·cases q
    ·skip
     go_enter Tryz.func65,Tryz.ntmps65;go_wp2_with fail;refine ZC (fun i v w'=>match i with | 0=>(v = .pointer (some ⟨N,0,none⟩)) | 1=>(v = .pointer (some ⟨N,0,none⟩)) | 2=>(v = .agg #[.slice a1 n1 c1,.int .i64 k,.int .i64 st,.int .i64 bf,.int .i64 pr,.slice a2 n2 c2,.int .i64 pk,.int .i64 ob]) | 3=>(v = .bool false) | 4=>(v = .bool false) | 5=>(v = .bool false) | 6=>(v = .pointer (some ⟨N,0,none⟩)) | 7=>(v = .pointer (some ⟨N,0,none⟩)) | 8=>(v = .pointer (some ⟨N,2,none⟩)) | 9=>(v = .int .i64 st) | 10=>(v = .bool false) | 11=>(v = .bool true) | 12=>(v = .bool true) | 13=>(v = .bool true) | _=>True) ?A_ (by first | assumption | kernel_rfl) (by kernel_rfl) (by kernel_rfl) ?hA_ ?hS_ ?hE_
     case hA_=>intro xs;simp [putAll,List.range,List.range.loop,Act.put] <;> rfl
     case hS_ =>
      refine ⟨?_,?_,?_,?_,?_,?_,?_,?_,?_,?_,?_,?_,?_,?_,trivial⟩
      ·-- 0: t21:=move(t0)
       intro yv w' hR hF K hK;clear hF
       go_simp
       exact hK _ _ (fun _ _=>by first | trivial | rfl | simp [*]) (Mod.refl _ _)
      ·-- 1: t22:=nilCheck(t21)
       intro yv w' hR hF K hK;have f0:(yv 0) = .pointer (some ⟨N,0,none⟩):=hF 0 (by kernel_rfl) w' (Mod.refl _ _);clear hF;generalize yv 0 = y0 at *;subst f0
       go_simp
       exact hK _ _ (fun _ _=>by first | trivial | rfl | simp [*]) (Mod.refl _ _)
      ·-- 2: t23:=load(24,t22)
       intro yv w' hR hF K hK;have f1:(yv 1) = .pointer (some ⟨N,0,none⟩):=hF 1 (by kernel_rfl) w' (Mod.refl _ _);clear hF;generalize yv 1 = y1 at *;subst f1;have hm1:=(Mod.refl Nowhere W).drew.trans hR;obtain ⟨x0,x1,x2,x3,x4,x5,x6,x7,xl,y0,yl⟩:=hcl.out w' hm1
       go_simp
       exact hK _ _ (fun _ _=>rfl) (Mod.refl _ _)
      ·-- 3: t24:=CALL F53 (t23)
       intro yv w' hR hF K hK;have f2:(yv 2) = .agg #[.slice a1 n1 c1,.int .i64 k,.int .i64 st,.int .i64 bf,.int .i64 pr,.slice a2 n2 c2,.int .i64 pk,.int .i64 ob]:=hF 2 (by kernel_rfl) w' (Mod.refl _ _);clear hF;generalize yv 2 = y2 at *;subst f2;have hm1:=(Mod.refl Nowhere W).drew.trans hR;have hc:=hIs.out w' hm1;replace hc:=Lib.hid hc
       go_simp
       go_at_call 53
       refine hc.out.mono ?_;rintro e w1 ⟨rfl,hm1'⟩;exact hK _ _ (fun _ _=>rfl) hm1'
      ·-- 4: t25:=move(t24)
       intro yv w' hR hF K hK;have f3:(yv 3) = .bool false:=hF 3 (by kernel_rfl) w' (Mod.refl _ _);clear hF;generalize yv 3 = y3 at *;subst f3
       go_simp
       exact hK _ _ (fun _ _=>by first | trivial | rfl | simp [*]) (Mod.refl _ _)
      ·-- 5: t26:=load(4,t1)   [guard (4,false)]
       intro yv w' hR hF K hK;have f4:(yv 4) = .bool false:=hF 4 (by kernel_rfl) w' (Mod.refl _ _);clear hF;generalize yv 4 = y4 at *;subst f4;have hm1:=(Mod.refl Nowhere W).drew.trans hR;obtain ⟨x0,x1,x2,x3,x4,x5,x6,x7,xl,y0,yl⟩:=hcl.out w' hm1
       go_simp
       exact hK _ _ (fun _ _=>rfl) (Mod.refl _ _)
      ·-- 6: t27:=move(t0)   [guard (4,false)]
       intro yv w' hR hF K hK;have f4:(yv 4) = .bool false:=hF 4 (by kernel_rfl) w' (Mod.refl _ _);clear hF;generalize yv 4 = y4 at *;subst f4
       go_simp
       exact hK _ _ (fun _ _=>by first | trivial | rfl | simp [*]) (Mod.refl _ _)
      ·-- 7: t28:=nilCheck(t27)   [guard (4,false)]
       intro yv w' hR hF K hK;have f6:(yv 6) = .pointer (some ⟨N,0,none⟩):=hF 6 (by kernel_rfl) w' (Mod.refl _ _);have f4:(yv 4) = .bool false:=hF 4 (by kernel_rfl) w' (Mod.refl _ _);clear hF;generalize yv 6 = y6 at *;subst f6;generalize yv 4 = y4 at *;subst f4
       go_simp
       exact hK _ _ (fun _ _=>by first | trivial | rfl | simp [*]) (Mod.refl _ _)
      ·-- 8: t29:=fieldAddr(24,t28,2)   [guard (4,false)]
       intro yv w' hR hF K hK;have f7:(yv 7) = .pointer (some ⟨N,0,none⟩):=hF 7 (by kernel_rfl) w' (Mod.refl _ _);have f4:(yv 4) = .bool false:=hF 4 (by kernel_rfl) w' (Mod.refl _ _);clear hF;generalize yv 7 = y7 at *;subst f7;generalize yv 4 = y4 at *;subst f4
       go_simp
       exact hK _ _ (fun _ _=>by first | trivial | rfl | simp [*]) (Mod.refl _ _)
      ·-- 9: t30:=load(3,t29)   [guard (4,false)]
       intro yv w' hR hF K hK;have f8:(yv 8) = .pointer (some ⟨N,2,none⟩):=hF 8 (by kernel_rfl) w' (Mod.refl _ _);have f4:(yv 4) = .bool false:=hF 4 (by kernel_rfl) w' (Mod.refl _ _);clear hF;generalize yv 8 = y8 at *;subst f8;generalize yv 4 = y4 at *;subst f4;have hm1:=(Mod.refl Nowhere W).drew.trans hR;obtain ⟨x0,x1,x2,x3,x4,x5,x6,x7,xl,y0,yl⟩:=hcl.out w' hm1
       go_simp
       exact hK _ _ (fun _ _=>rfl) (Mod.refl _ _)
      ·-- 10: t31:=binOp(eql,3,t30,5:i64,3)   [guard (4,false)]
       intro yv w' hR hF K hK;have f9:(yv 9) = .int .i64 st:=hF 9 (by kernel_rfl) w' (Mod.refl _ _);have f4:(yv 4) = .bool false:=hF 4 (by kernel_rfl) w' (Mod.refl _ _);clear hF;generalize yv 9 = y9 at *;subst f9;generalize yv 4 = y4 at *;subst f4
       go_simp
       exact hK _ _ (fun _ _=>by first | trivial | rfl | simp [*]) (Mod.refl _ _)
      ·-- 11: t32:=binOp(eql,4,t26,t31,4)   [guard (4,false)]
       intro yv w' hR hF K hK;have f5:(yv 5) = .bool false:=hF 5 (by kernel_rfl) w' (Mod.refl _ _);have f10:(yv 10) = .bool false:=hF 10 (by kernel_rfl) w' (Mod.refl _ _);have f4:(yv 4) = .bool false:=hF 4 (by kernel_rfl) w' (Mod.refl _ _);clear hF;generalize yv 5 = y5 at *;subst f5;generalize yv 10 = y10 at *;subst f10;generalize yv 4 = y4 at *;subst f4
       go_simp
       exact hK _ _ (fun _ _=>by first | trivial | rfl | simp [*]) (Mod.refl _ _)
      ·-- 12: t33:=pick(t25,const(Value.bool(true)),t32)
       intro yv w' hR hF K hK;have f4:(yv 4) = .bool false:=hF 4 (by kernel_rfl) w' (Mod.refl _ _);have f11:(yv 11) = .bool true:=hF 11 (by kernel_rfl) w' (Mod.refl _ _);clear hF;generalize yv 4 = y4 at *;subst f4;generalize yv 11 = y11 at *;subst f11
       go_simp
       exact hK _ _ (fun _ _=>by first | trivial | rfl | simp [*]) (Mod.refl _ _)
      ·-- 13: t20:=assign(t33)
       intro yv w' hR hF K hK;have f12:(yv 12) = .bool true:=hF 12 (by kernel_rfl) w' (Mod.refl _ _);have f4:(yv 4) = .bool false:=hF 4 (by kernel_rfl) w' (Mod.refl _ _);clear hF;generalize yv 12 = y12 at *;subst f12;generalize yv 4 = y4 at *;subst f4
       go_simp
       exact hK _ _ (fun _ _=>by first | trivial | rfl | simp [*]) (Mod.refl _ _)
     case hE_ =>
      intro yv w' hR hF;have f0:(yv 0) = .pointer (some ⟨N,0,none⟩):=hF 0 (by simp) w' (Mod.refl _ _);have f1:(yv 1) = .pointer (some ⟨N,0,none⟩):=hF 1 (by simp) w' (Mod.refl _ _);have f2:(yv 2) = .agg #[.slice a1 n1 c1,.int .i64 k,.int .i64 st,.int .i64 bf,.int .i64 pr,.slice a2 n2 c2,.int .i64 pk,.int .i64 ob]:=hF 2 (by simp) w' (Mod.refl _ _);have f3:(yv 3) = .bool false:=hF 3 (by simp) w' (Mod.refl _ _);have f4:(yv 4) = .bool false:=hF 4 (by simp) w' (Mod.refl _ _);have f5:(yv 5) = .bool false:=hF 5 (by simp) w' (Mod.refl _ _);have f6:(yv 6) = .pointer (some ⟨N,0,none⟩):=hF 6 (by simp) w' (Mod.refl _ _);have f7:(yv 7) = .pointer (some ⟨N,0,none⟩):=hF 7 (by simp) w' (Mod.refl _ _)
      have f8:(yv 8) = .pointer (some ⟨N,2,none⟩):=hF 8 (by simp) w' (Mod.refl _ _);have f9:(yv 9) = .int .i64 st:=hF 9 (by simp) w' (Mod.refl _ _);have f10:(yv 10) = .bool false:=hF 10 (by simp) w' (Mod.refl _ _);have f11:(yv 11) = .bool true:=hF 11 (by simp) w' (Mod.refl _ _);have f12:(yv 12) = .bool true:=hF 12 (by simp) w' (Mod.refl _ _);have f13:(yv 13) = .bool true:=hF 13 (by simp) w' (Mod.refl _ _);clear hF;generalize yv 0 = y0 at *;subst f0;generalize yv 1 = y1 at *;subst f1;generalize yv 2 = y2 at *;subst f2;generalize yv 3 = y3 at *;subst f3;generalize yv 4 = y4 at *
      subst f4;generalize yv 5 = y5 at *;subst f5;generalize yv 6 = y6 at *;subst f6;generalize yv 7 = y7 at *;subst f7;generalize yv 8 = y8 at *;subst f8;generalize yv 9 = y9 at *;subst f9;generalize yv 10 = y10 at *;subst f10;generalize yv 11 = y11 at *;subst f11;generalize yv 12 = y12 at *;subst f12;generalize yv 13 = y13 at *;subst f13;have hfin:=hno.out 14 (⟨by rw [hfl.out];rfl,by decide⟩) _ ((Mod.refl Nowhere W).drew.trans hR);replace hfin:=Lib.hid hfin;go_wp2;exact hfin.out
    ·skip
     go_enter Tryz.func65,Tryz.ntmps65;go_wp2_with fail;refine ZC (fun i v w'=>match i with | 0=>(v = .pointer (some ⟨N,0,none⟩)) | 1=>(v = .pointer (some ⟨N,0,none⟩)) | 2=>(v = .agg #[.slice a1 n1 c1,.int .i64 k,.int .i64 st,.int .i64 bf,.int .i64 pr,.slice a2 n2 c2,.int .i64 pk,.int .i64 ob]) | 3=>(v = .bool false) | 4=>(v = .bool false) | 5=>(v = .bool false) | 6=>(v = .pointer (some ⟨N,0,none⟩)) | 7=>(v = .pointer (some ⟨N,0,none⟩)) | 8=>(v = .pointer (some ⟨N,2,none⟩)) | 9=>(v = .int .i64 st) | 10=>(v = .bool true) | 11=>(v = .bool false) | 12=>(v = .bool false) | 13=>(v = .bool false) | _=>True) ?A_ (by first | assumption | kernel_rfl) (by kernel_rfl) (by kernel_rfl) ?hA_ ?hS_ ?hE_
     case hA_=>intro xs;simp [putAll,List.range,List.range.loop,Act.put] <;> rfl
     case hS_ =>
      refine ⟨?_,?_,?_,?_,?_,?_,?_,?_,?_,?_,?_,?_,?_,?_,trivial⟩
      ·-- 0: t21:=move(t0)
       intro yv w' hR hF K hK;clear hF
       go_simp
       exact hK _ _ (fun _ _=>by first | trivial | rfl | simp [*]) (Mod.refl _ _)
      ·-- 1: t22:=nilCheck(t21)
       intro yv w' hR hF K hK;have f0:(yv 0) = .pointer (some ⟨N,0,none⟩):=hF 0 (by kernel_rfl) w' (Mod.refl _ _);clear hF;generalize yv 0 = y0 at *;subst f0
       go_simp
       exact hK _ _ (fun _ _=>by first | trivial | rfl | simp [*]) (Mod.refl _ _)
      ·-- 2: t23:=load(24,t22)
       intro yv w' hR hF K hK;have f1:(yv 1) = .pointer (some ⟨N,0,none⟩):=hF 1 (by kernel_rfl) w' (Mod.refl _ _);clear hF;generalize yv 1 = y1 at *;subst f1;have hm1:=(Mod.refl Nowhere W).drew.trans hR;obtain ⟨x0,x1,x2,x3,x4,x5,x6,x7,xl,y0,yl⟩:=hcl.out w' hm1
       go_simp
       exact hK _ _ (fun _ _=>rfl) (Mod.refl _ _)
      ·-- 3: t24:=CALL F53 (t23)
       intro yv w' hR hF K hK;have f2:(yv 2) = .agg #[.slice a1 n1 c1,.int .i64 k,.int .i64 st,.int .i64 bf,.int .i64 pr,.slice a2 n2 c2,.int .i64 pk,.int .i64 ob]:=hF 2 (by kernel_rfl) w' (Mod.refl _ _);clear hF;generalize yv 2 = y2 at *;subst f2;have hm1:=(Mod.refl Nowhere W).drew.trans hR;have hc:=hIs.out w' hm1;replace hc:=Lib.hid hc
       go_simp
       go_at_call 53
       refine hc.out.mono ?_;rintro e w1 ⟨rfl,hm1'⟩;exact hK _ _ (fun _ _=>rfl) hm1'
      ·-- 4: t25:=move(t24)
       intro yv w' hR hF K hK;have f3:(yv 3) = .bool false:=hF 3 (by kernel_rfl) w' (Mod.refl _ _);clear hF;generalize yv 3 = y3 at *;subst f3
       go_simp
       exact hK _ _ (fun _ _=>by first | trivial | rfl | simp [*]) (Mod.refl _ _)
      ·-- 5: t26:=load(4,t1)   [guard (4,false)]
       intro yv w' hR hF K hK;have f4:(yv 4) = .bool false:=hF 4 (by kernel_rfl) w' (Mod.refl _ _);clear hF;generalize yv 4 = y4 at *;subst f4;have hm1:=(Mod.refl Nowhere W).drew.trans hR;obtain ⟨x0,x1,x2,x3,x4,x5,x6,x7,xl,y0,yl⟩:=hcl.out w' hm1
       go_simp
       exact hK _ _ (fun _ _=>rfl) (Mod.refl _ _)
      ·-- 6: t27:=move(t0)   [guard (4,false)]
       intro yv w' hR hF K hK;have f4:(yv 4) = .bool false:=hF 4 (by kernel_rfl) w' (Mod.refl _ _);clear hF;generalize yv 4 = y4 at *;subst f4
       go_simp
       exact hK _ _ (fun _ _=>by first | trivial | rfl | simp [*]) (Mod.refl _ _)
      ·-- 7: t28:=nilCheck(t27)   [guard (4,false)]
       intro yv w' hR hF K hK;have f6:(yv 6) = .pointer (some ⟨N,0,none⟩):=hF 6 (by kernel_rfl) w' (Mod.refl _ _);have f4:(yv 4) = .bool false:=hF 4 (by kernel_rfl) w' (Mod.refl _ _);clear hF;generalize yv 6 = y6 at *;subst f6;generalize yv 4 = y4 at *;subst f4
       go_simp
       exact hK _ _ (fun _ _=>by first | trivial | rfl | simp [*]) (Mod.refl _ _)
      ·-- 8: t29:=fieldAddr(24,t28,2)   [guard (4,false)]
       intro yv w' hR hF K hK;have f7:(yv 7) = .pointer (some ⟨N,0,none⟩):=hF 7 (by kernel_rfl) w' (Mod.refl _ _);have f4:(yv 4) = .bool false:=hF 4 (by kernel_rfl) w' (Mod.refl _ _);clear hF;generalize yv 7 = y7 at *;subst f7;generalize yv 4 = y4 at *;subst f4
       go_simp
       exact hK _ _ (fun _ _=>by first | trivial | rfl | simp [*]) (Mod.refl _ _)
      ·-- 9: t30:=load(3,t29)   [guard (4,false)]
       intro yv w' hR hF K hK;have f8:(yv 8) = .pointer (some ⟨N,2,none⟩):=hF 8 (by kernel_rfl) w' (Mod.refl _ _);have f4:(yv 4) = .bool false:=hF 4 (by kernel_rfl) w' (Mod.refl _ _);clear hF;generalize yv 8 = y8 at *;subst f8;generalize yv 4 = y4 at *;subst f4;have hm1:=(Mod.refl Nowhere W).drew.trans hR;obtain ⟨x0,x1,x2,x3,x4,x5,x6,x7,xl,y0,yl⟩:=hcl.out w' hm1
       go_simp
       exact hK _ _ (fun _ _=>rfl) (Mod.refl _ _)
      ·-- 10: t31:=binOp(eql,3,t30,5:i64,3)   [guard (4,false)]
       intro yv w' hR hF K hK;have f9:(yv 9) = .int .i64 st:=hF 9 (by kernel_rfl) w' (Mod.refl _ _);have f4:(yv 4) = .bool false:=hF 4 (by kernel_rfl) w' (Mod.refl _ _);clear hF;generalize yv 9 = y9 at *;subst f9;generalize yv 4 = y4 at *;subst f4
       go_simp
       exact hK _ _ (fun _ _=>by first | trivial | rfl | simp [*]) (Mod.refl _ _)
      ·-- 11: t32:=binOp(eql,4,t26,t31,4)   [guard (4,false)]
       intro yv w' hR hF K hK;have f5:(yv 5) = .bool false:=hF 5 (by kernel_rfl) w' (Mod.refl _ _);have f10:(yv 10) = .bool true:=hF 10 (by kernel_rfl) w' (Mod.refl _ _);have f4:(yv 4) = .bool false:=hF 4 (by kernel_rfl) w' (Mod.refl _ _);clear hF;generalize yv 5 = y5 at *;subst f5;generalize yv 10 = y10 at *;subst f10;generalize yv 4 = y4 at *;subst f4
       go_simp
       exact hK _ _ (fun _ _=>by first | trivial | rfl | simp [*]) (Mod.refl _ _)
      ·-- 12: t33:=pick(t25,const(Value.bool(true)),t32)
       intro yv w' hR hF K hK;have f4:(yv 4) = .bool false:=hF 4 (by kernel_rfl) w' (Mod.refl _ _);have f11:(yv 11) = .bool false:=hF 11 (by kernel_rfl) w' (Mod.refl _ _);clear hF;generalize yv 4 = y4 at *;subst f4;generalize yv 11 = y11 at *;subst f11
       go_simp
       exact hK _ _ (fun _ _=>by first | trivial | rfl | simp [*]) (Mod.refl _ _)
      ·-- 13: t20:=assign(t33)
       intro yv w' hR hF K hK;have f12:(yv 12) = .bool false:=hF 12 (by kernel_rfl) w' (Mod.refl _ _);have f4:(yv 4) = .bool false:=hF 4 (by kernel_rfl) w' (Mod.refl _ _);clear hF;generalize yv 12 = y12 at *;subst f12;generalize yv 4 = y4 at *;subst f4
       go_simp
       exact hK _ _ (fun _ _=>by first | trivial | rfl | simp [*]) (Mod.refl _ _)
     case hE_ =>
      intro yv w' hR hF;have f0:(yv 0) = .pointer (some ⟨N,0,none⟩):=hF 0 (by simp) w' (Mod.refl _ _);have f1:(yv 1) = .pointer (some ⟨N,0,none⟩):=hF 1 (by simp) w' (Mod.refl _ _);have f2:(yv 2) = .agg #[.slice a1 n1 c1,.int .i64 k,.int .i64 st,.int .i64 bf,.int .i64 pr,.slice a2 n2 c2,.int .i64 pk,.int .i64 ob]:=hF 2 (by simp) w' (Mod.refl _ _);have f3:(yv 3) = .bool false:=hF 3 (by simp) w' (Mod.refl _ _);have f4:(yv 4) = .bool false:=hF 4 (by simp) w' (Mod.refl _ _);have f5:(yv 5) = .bool false:=hF 5 (by simp) w' (Mod.refl _ _);have f6:(yv 6) = .pointer (some ⟨N,0,none⟩):=hF 6 (by simp) w' (Mod.refl _ _);have f7:(yv 7) = .pointer (some ⟨N,0,none⟩):=hF 7 (by simp) w' (Mod.refl _ _)
      have f8:(yv 8) = .pointer (some ⟨N,2,none⟩):=hF 8 (by simp) w' (Mod.refl _ _);have f9:(yv 9) = .int .i64 st:=hF 9 (by simp) w' (Mod.refl _ _);have f10:(yv 10) = .bool true:=hF 10 (by simp) w' (Mod.refl _ _);have f11:(yv 11) = .bool false:=hF 11 (by simp) w' (Mod.refl _ _);have f12:(yv 12) = .bool false:=hF 12 (by simp) w' (Mod.refl _ _);have f13:(yv 13) = .bool false:=hF 13 (by simp) w' (Mod.refl _ _);clear hF;generalize yv 0 = y0 at *;subst f0;generalize yv 1 = y1 at *;subst f1;generalize yv 2 = y2 at *;subst f2;generalize yv 3 = y3 at *;subst f3;generalize yv 4 = y4 at *
      subst f4;generalize yv 5 = y5 at *;subst f5;generalize yv 6 = y6 at *;subst f6;generalize yv 7 = y7 at *;subst f7;generalize yv 8 = y8 at *;subst f8;generalize yv 9 = y9 at *;subst f9;generalize yv 10 = y10 at *;subst f10;generalize yv 11 = y11 at *;subst f11;generalize yv 12 = y12 at *;subst f12;generalize yv 13 = y13 at *;subst f13;have hm1:=(Mod.refl Nowhere W).drew.trans hR;obtain ⟨x0,x1,x2,x3,x4,x5,x6,x7,xl,y0,yl⟩:=hcl.out w' hm1;have bT:=hbl.out.mod hm1 id;have f2:=bT.frozen 2;have f3:=bT.frozen 3;have hb2:=(bT.setCell 2 (.int .i64 bf)).setCell 3 (.int .i64 0);have hm2:Mod (fun j=>j = N) w' ((w'.setCell ⟨N,2,none⟩ (.int .i64 bf)).setCell ⟨N,3,none⟩ (.int .i64 0)):=((Mod.refl (fun j=>j = N) w').setCell (p:=⟨N,2,none⟩) (fun _=>rfl) _).setCell (p:=⟨N,3,none⟩) (fun _=>rfl) _
      have hfin:=hyes.out ⟨k,bf,0,pr,pk,ob,aid,dom⟩ (⟨by rw [hfl.out];rfl,rfl,rfl⟩) _ _ hm1 hm2 hb2;replace hfin:=Lib.hid hfin;clear hb2 hm2;replace bT:=Lib.hid bT;go_wp2;exact hfin.out
   ·cases q
    ·skip
     go_enter Tryz.func65,Tryz.ntmps65;go_wp2_with fail;refine ZC (fun i v w'=>match i with | 0=>(v = .pointer (some ⟨N,0,none⟩)) | 1=>(v = .pointer (some ⟨N,0,none⟩)) | 2=>(v = .agg #[.slice a1 n1 c1,.int .i64 k,.int .i64 st,.int .i64 bf,.int .i64 pr,.slice a2 n2 c2,.int .i64 pk,.int .i64 ob]) | 3=>(v = .bool false) | 4=>(v = .bool false) | 5=>(v = .bool true) | 6=>(v = .pointer (some ⟨N,0,none⟩)) | 7=>(v = .pointer (some ⟨N,0,none⟩)) | 8=>(v = .pointer (some ⟨N,2,none⟩)) | 9=>(v = .int .i64 st) | 10=>(v = .bool false) | 11=>(v = .bool false) | 12=>(v = .bool false) | 13=>(v = .bool false) | _=>True) ?A_ (by first | assumption | kernel_rfl) (by kernel_rfl) (by kernel_rfl) ?hA_ ?hS_ ?hE_
     case hA_=>intro xs;simp [putAll,List.range,List.range.loop,Act.put] <;> rfl
     case hS_ =>
      refine ⟨?_,?_,?_,?_,?_,?_,?_,?_,?_,?_,?_,?_,?_,?_,trivial⟩
      ·-- 0: t21:=move(t0)
       intro yv w' hR hF K hK;clear hF
       go_simp
       exact hK _ _ (fun _ _=>by first | trivial | rfl | simp [*]) (Mod.refl _ _)
      ·-- 1: t22:=nilCheck(t21)
       intro yv w' hR hF K hK;have f0:(yv 0) = .pointer (some ⟨N,0,none⟩):=hF 0 (by kernel_rfl) w' (Mod.refl _ _);clear hF;generalize yv 0 = y0 at *;subst f0
       go_simp
       exact hK _ _ (fun _ _=>by first | trivial | rfl | simp [*]) (Mod.refl _ _)
      ·-- 2: t23:=load(24,t22)
       intro yv w' hR hF K hK;have f1:(yv 1) = .pointer (some ⟨N,0,none⟩):=hF 1 (by kernel_rfl) w' (Mod.refl _ _);clear hF;generalize yv 1 = y1 at *;subst f1;have hm1:=(Mod.refl Nowhere W).drew.trans hR;obtain ⟨x0,x1,x2,x3,x4,x5,x6,x7,xl,y0,yl⟩:=hcl.out w' hm1
       go_simp
       exact hK _ _ (fun _ _=>rfl) (Mod.refl _ _)
      ·-- 3: t24:=CALL F53 (t23)
       intro yv w' hR hF K hK;have f2:(yv 2) = .agg #[.slice a1 n1 c1,.int .i64 k,.int .i64 st,.int .i64 bf,.int .i64 pr,.slice a2 n2 c2,.int .i64 pk,.int .i64 ob]:=hF 2 (by kernel_rfl) w' (Mod.refl _ _);clear hF;generalize yv 2 = y2 at *;subst f2;have hm1:=(Mod.refl Nowhere W).drew.trans hR;have hc:=hIs.out w' hm1;replace hc:=Lib.hid hc
       go_simp
       go_at_call 53
       refine hc.out.mono ?_;rintro e w1 ⟨rfl,hm1'⟩;exact hK _ _ (fun _ _=>rfl) hm1'
      ·-- 4: t25:=move(t24)
       intro yv w' hR hF K hK;have f3:(yv 3) = .bool false:=hF 3 (by kernel_rfl) w' (Mod.refl _ _);clear hF;generalize yv 3 = y3 at *;subst f3
       go_simp
       exact hK _ _ (fun _ _=>by first | trivial | rfl | simp [*]) (Mod.refl _ _)
      ·-- 5: t26:=load(4,t1)   [guard (4,false)]
       intro yv w' hR hF K hK;have f4:(yv 4) = .bool false:=hF 4 (by kernel_rfl) w' (Mod.refl _ _);clear hF;generalize yv 4 = y4 at *;subst f4;have hm1:=(Mod.refl Nowhere W).drew.trans hR;obtain ⟨x0,x1,x2,x3,x4,x5,x6,x7,xl,y0,yl⟩:=hcl.out w' hm1
       go_simp
       exact hK _ _ (fun _ _=>rfl) (Mod.refl _ _)
      ·-- 6: t27:=move(t0)   [guard (4,false)]
       intro yv w' hR hF K hK;have f4:(yv 4) = .bool false:=hF 4 (by kernel_rfl) w' (Mod.refl _ _);clear hF;generalize yv 4 = y4 at *;subst f4
       go_simp
       exact hK _ _ (fun _ _=>by first | trivial | rfl | simp [*]) (Mod.refl _ _)
      ·-- 7: t28:=nilCheck(t27)   [guard (4,false)]
       intro yv w' hR hF K hK;have f6:(yv 6) = .pointer (some ⟨N,0,none⟩):=hF 6 (by kernel_rfl) w' (Mod.refl _ _);have f4:(yv 4) = .bool false:=hF 4 (by kernel_rfl) w' (Mod.refl _ _);clear hF;generalize yv 6 = y6 at *;subst f6;generalize yv 4 = y4 at *;subst f4
       go_simp
       exact hK _ _ (fun _ _=>by first | trivial | rfl | simp [*]) (Mod.refl _ _)
      ·-- 8: t29:=fieldAddr(24,t28,2)   [guard (4,false)]
       intro yv w' hR hF K hK;have f7:(yv 7) = .pointer (some ⟨N,0,none⟩):=hF 7 (by kernel_rfl) w' (Mod.refl _ _);have f4:(yv 4) = .bool false:=hF 4 (by kernel_rfl) w' (Mod.refl _ _);clear hF;generalize yv 7 = y7 at *;subst f7;generalize yv 4 = y4 at *;subst f4
       go_simp
       exact hK _ _ (fun _ _=>by first | trivial | rfl | simp [*]) (Mod.refl _ _)
      ·-- 9: t30:=load(3,t29)   [guard (4,false)]
       intro yv w' hR hF K hK;have f8:(yv 8) = .pointer (some ⟨N,2,none⟩):=hF 8 (by kernel_rfl) w' (Mod.refl _ _);have f4:(yv 4) = .bool false:=hF 4 (by kernel_rfl) w' (Mod.refl _ _);clear hF;generalize yv 8 = y8 at *;subst f8;generalize yv 4 = y4 at *;subst f4;have hm1:=(Mod.refl Nowhere W).drew.trans hR;obtain ⟨x0,x1,x2,x3,x4,x5,x6,x7,xl,y0,yl⟩:=hcl.out w' hm1
       go_simp
       exact hK _ _ (fun _ _=>rfl) (Mod.refl _ _)
      ·-- 10: t31:=binOp(eql,3,t30,5:i64,3)   [guard (4,false)]
       intro yv w' hR hF K hK;have f9:(yv 9) = .int .i64 st:=hF 9 (by kernel_rfl) w' (Mod.refl _ _);have f4:(yv 4) = .bool false:=hF 4 (by kernel_rfl) w' (Mod.refl _ _);clear hF;generalize yv 9 = y9 at *;subst f9;generalize yv 4 = y4 at *;subst f4
       go_simp
       exact hK _ _ (fun _ _=>by first | trivial | rfl | simp [*]) (Mod.refl _ _)
      ·-- 11: t32:=binOp(eql,4,t26,t31,4)   [guard (4,false)]
       intro yv w' hR hF K hK;have f5:(yv 5) = .bool true:=hF 5 (by kernel_rfl) w' (Mod.refl _ _);have f10:(yv 10) = .bool false:=hF 10 (by kernel_rfl) w' (Mod.refl _ _);have f4:(yv 4) = .bool false:=hF 4 (by kernel_rfl) w' (Mod.refl _ _);clear hF;generalize yv 5 = y5 at *;subst f5;generalize yv 10 = y10 at *;subst f10;generalize yv 4 = y4 at *;subst f4
       go_simp
       exact hK _ _ (fun _ _=>by first | trivial | rfl | simp [*]) (Mod.refl _ _)
      ·-- 12: t33:=pick(t25,const(Value.bool(true)),t32)
       intro yv w' hR hF K hK;have f4:(yv 4) = .bool false:=hF 4 (by kernel_rfl) w' (Mod.refl _ _);have f11:(yv 11) = .bool false:=hF 11 (by kernel_rfl) w' (Mod.refl _ _);clear hF;generalize yv 4 = y4 at *;subst f4;generalize yv 11 = y11 at *;subst f11
       go_simp
       exact hK _ _ (fun _ _=>by first | trivial | rfl | simp [*]) (Mod.refl _ _)
      ·-- 13: t20:=assign(t33)
       intro yv w' hR hF K hK;have f12:(yv 12) = .bool false:=hF 12 (by kernel_rfl) w' (Mod.refl _ _);have f4:(yv 4) = .bool false:=hF 4 (by kernel_rfl) w' (Mod.refl _ _);clear hF;generalize yv 12 = y12 at *;subst f12;generalize yv 4 = y4 at *;subst f4
       go_simp
       exact hK _ _ (fun _ _=>by first | trivial | rfl | simp [*]) (Mod.refl _ _)
     case hE_ =>
      intro yv w' hR hF;have f0:(yv 0) = .pointer (some ⟨N,0,none⟩):=hF 0 (by simp) w' (Mod.refl _ _);have f1:(yv 1) = .pointer (some ⟨N,0,none⟩):=hF 1 (by simp) w' (Mod.refl _ _);have f2:(yv 2) = .agg #[.slice a1 n1 c1,.int .i64 k,.int .i64 st,.int .i64 bf,.int .i64 pr,.slice a2 n2 c2,.int .i64 pk,.int .i64 ob]:=hF 2 (by simp) w' (Mod.refl _ _);have f3:(yv 3) = .bool false:=hF 3 (by simp) w' (Mod.refl _ _);have f4:(yv 4) = .bool false:=hF 4 (by simp) w' (Mod.refl _ _);have f5:(yv 5) = .bool true:=hF 5 (by simp) w' (Mod.refl _ _);have f6:(yv 6) = .pointer (some ⟨N,0,none⟩):=hF 6 (by simp) w' (Mod.refl _ _);have f7:(yv 7) = .pointer (some ⟨N,0,none⟩):=hF 7 (by simp) w' (Mod.refl _ _)
      have f8:(yv 8) = .pointer (some ⟨N,2,none⟩):=hF 8 (by simp) w' (Mod.refl _ _);have f9:(yv 9) = .int .i64 st:=hF 9 (by simp) w' (Mod.refl _ _);have f10:(yv 10) = .bool false:=hF 10 (by simp) w' (Mod.refl _ _);have f11:(yv 11) = .bool false:=hF 11 (by simp) w' (Mod.refl _ _);have f12:(yv 12) = .bool false:=hF 12 (by simp) w' (Mod.refl _ _);have f13:(yv 13) = .bool false:=hF 13 (by simp) w' (Mod.refl _ _);clear hF;generalize yv 0 = y0 at *;subst f0;generalize yv 1 = y1 at *;subst f1;generalize yv 2 = y2 at *;subst f2;generalize yv 3 = y3 at *;subst f3;generalize yv 4 = y4 at *
      subst f4;generalize yv 5 = y5 at *;subst f5;generalize yv 6 = y6 at *;subst f6;generalize yv 7 = y7 at *;subst f7;generalize yv 8 = y8 at *;subst f8;generalize yv 9 = y9 at *;subst f9;generalize yv 10 = y10 at *;subst f10;generalize yv 11 = y11 at *;subst f11;generalize yv 12 = y12 at *;subst f12;generalize yv 13 = y13 at *;subst f13;have hm1:=(Mod.refl Nowhere W).drew.trans hR;obtain ⟨x0,x1,x2,x3,x4,x5,x6,x7,xl,y0,yl⟩:=hcl.out w' hm1;have bT:=hbl.out.mod hm1 id;have f2:=bT.frozen 2;have f3:=bT.frozen 3;have hb2:=(bT.setCell 2 (.int .i64 5)).setCell 3 (.int .i64 st);have hm2:Mod (fun j=>j = N) w' ((w'.setCell ⟨N,2,none⟩ (.int .i64 5)).setCell ⟨N,3,none⟩ (.int .i64 st)):=((Mod.refl (fun j=>j = N) w').setCell (p:=⟨N,2,none⟩) (fun _=>rfl) _).setCell (p:=⟨N,3,none⟩) (fun _=>rfl) _
      have hfin:=hyes.out ⟨k,5,st,pr,pk,ob,aid,dom⟩ (⟨by rw [hfl.out];rfl,rfl,rfl⟩) _ _ hm1 hm2 hb2;replace hfin:=Lib.hid hfin;clear hb2 hm2;replace bT:=Lib.hid bT;go_wp2;exact hfin.out
    ·skip
     go_enter Tryz.func65,Tryz.ntmps65;go_wp2_with fail;refine ZC (fun i v w'=>match i with | 0=>(v = .pointer (some ⟨N,0,none⟩)) | 1=>(v = .pointer (some ⟨N,0,none⟩)) | 2=>(v = .agg #[.slice a1 n1 c1,.int .i64 k,.int .i64 st,.int .i64 bf,.int .i64 pr,.slice a2 n2 c2,.int .i64 pk,.int .i64 ob]) | 3=>(v = .bool false) | 4=>(v = .bool false) | 5=>(v = .bool true) | 6=>(v = .pointer (some ⟨N,0,none⟩)) | 7=>(v = .pointer (some ⟨N,0,none⟩)) | 8=>(v = .pointer (some ⟨N,2,none⟩)) | 9=>(v = .int .i64 st) | 10=>(v = .bool true) | 11=>(v = .bool true) | 12=>(v = .bool true) | 13=>(v = .bool true) | _=>True) ?A_ (by first | assumption | kernel_rfl) (by kernel_rfl) (by kernel_rfl) ?hA_ ?hS_ ?hE_
     case hA_=>intro xs;simp [putAll,List.range,List.range.loop,Act.put] <;> rfl
     case hS_ =>
      refine ⟨?_,?_,?_,?_,?_,?_,?_,?_,?_,?_,?_,?_,?_,?_,trivial⟩
      ·-- 0: t21:=move(t0)
       intro yv w' hR hF K hK;clear hF
       go_simp
       exact hK _ _ (fun _ _=>by first | trivial | rfl | simp [*]) (Mod.refl _ _)
      ·-- 1: t22:=nilCheck(t21)
       intro yv w' hR hF K hK;have f0:(yv 0) = .pointer (some ⟨N,0,none⟩):=hF 0 (by kernel_rfl) w' (Mod.refl _ _);clear hF;generalize yv 0 = y0 at *;subst f0
       go_simp
       exact hK _ _ (fun _ _=>by first | trivial | rfl | simp [*]) (Mod.refl _ _)
      ·-- 2: t23:=load(24,t22)
       intro yv w' hR hF K hK;have f1:(yv 1) = .pointer (some ⟨N,0,none⟩):=hF 1 (by kernel_rfl) w' (Mod.refl _ _);clear hF;generalize yv 1 = y1 at *;subst f1;have hm1:=(Mod.refl Nowhere W).drew.trans hR;obtain ⟨x0,x1,x2,x3,x4,x5,x6,x7,xl,y0,yl⟩:=hcl.out w' hm1
       go_simp
       exact hK _ _ (fun _ _=>rfl) (Mod.refl _ _)
      ·-- 3: t24:=CALL F53 (t23)
       intro yv w' hR hF K hK;have f2:(yv 2) = .agg #[.slice a1 n1 c1,.int .i64 k,.int .i64 st,.int .i64 bf,.int .i64 pr,.slice a2 n2 c2,.int .i64 pk,.int .i64 ob]:=hF 2 (by kernel_rfl) w' (Mod.refl _ _);clear hF;generalize yv 2 = y2 at *;subst f2;have hm1:=(Mod.refl Nowhere W).drew.trans hR;have hc:=hIs.out w' hm1;replace hc:=Lib.hid hc
       go_simp
       go_at_call 53
       refine hc.out.mono ?_;rintro e w1 ⟨rfl,hm1'⟩;exact hK _ _ (fun _ _=>rfl) hm1'
      ·-- 4: t25:=move(t24)
       intro yv w' hR hF K hK;have f3:(yv 3) = .bool false:=hF 3 (by kernel_rfl) w' (Mod.refl _ _);clear hF;generalize yv 3 = y3 at *;subst f3
       go_simp
       exact hK _ _ (fun _ _=>by first | trivial | rfl | simp [*]) (Mod.refl _ _)
      ·-- 5: t26:=load(4,t1)   [guard (4,false)]
       intro yv w' hR hF K hK;have f4:(yv 4) = .bool false:=hF 4 (by kernel_rfl) w' (Mod.refl _ _);clear hF;generalize yv 4 = y4 at *;subst f4;have hm1:=(Mod.refl Nowhere W).drew.trans hR;obtain ⟨x0,x1,x2,x3,x4,x5,x6,x7,xl,y0,yl⟩:=hcl.out w' hm1
       go_simp
       exact hK _ _ (fun _ _=>rfl) (Mod.refl _ _)
      ·-- 6: t27:=move(t0)   [guard (4,false)]
       intro yv w' hR hF K hK;have f4:(yv 4) = .bool false:=hF 4 (by kernel_rfl) w' (Mod.refl _ _);clear hF;generalize yv 4 = y4 at *;subst f4
       go_simp
       exact hK _ _ (fun _ _=>by first | trivial | rfl | simp [*]) (Mod.refl _ _)
      ·-- 7: t28:=nilCheck(t27)   [guard (4,false)]
       intro yv w' hR hF K hK;have f6:(yv 6) = .pointer (some ⟨N,0,none⟩):=hF 6 (by kernel_rfl) w' (Mod.refl _ _);have f4:(yv 4) = .bool false:=hF 4 (by kernel_rfl) w' (Mod.refl _ _);clear hF;generalize yv 6 = y6 at *;subst f6;generalize yv 4 = y4 at *;subst f4
       go_simp
       exact hK _ _ (fun _ _=>by first | trivial | rfl | simp [*]) (Mod.refl _ _)
      ·-- 8: t29:=fieldAddr(24,t28,2)   [guard (4,false)]
       intro yv w' hR hF K hK;have f7:(yv 7) = .pointer (some ⟨N,0,none⟩):=hF 7 (by kernel_rfl) w' (Mod.refl _ _);have f4:(yv 4) = .bool false:=hF 4 (by kernel_rfl) w' (Mod.refl _ _);clear hF;generalize yv 7 = y7 at *;subst f7;generalize yv 4 = y4 at *;subst f4
       go_simp
       exact hK _ _ (fun _ _=>by first | trivial | rfl | simp [*]) (Mod.refl _ _)
      ·-- 9: t30:=load(3,t29)   [guard (4,false)]
       intro yv w' hR hF K hK;have f8:(yv 8) = .pointer (some ⟨N,2,none⟩):=hF 8 (by kernel_rfl) w' (Mod.refl _ _);have f4:(yv 4) = .bool false:=hF 4 (by kernel_rfl) w' (Mod.refl _ _);clear hF;generalize yv 8 = y8 at *;subst f8;generalize yv 4 = y4 at *;subst f4;have hm1:=(Mod.refl Nowhere W).drew.trans hR;obtain ⟨x0,x1,x2,x3,x4,x5,x6,x7,xl,y0,yl⟩:=hcl.out w' hm1
       go_simp
       exact hK _ _ (fun _ _=>rfl) (Mod.refl _ _)
      ·-- 10: t31:=binOp(eql,3,t30,5:i64,3)   [guard (4,false)]
       intro yv w' hR hF K hK;have f9:(yv 9) = .int .i64 st:=hF 9 (by kernel_rfl) w' (Mod.refl _ _);have f4:(yv 4) = .bool false:=hF 4 (by kernel_rfl) w' (Mod.refl _ _);clear hF;generalize yv 9 = y9 at *;subst f9;generalize yv 4 = y4 at *;subst f4
       go_simp
       exact hK _ _ (fun _ _=>by first | trivial | rfl | simp [*]) (Mod.refl _ _)
      ·-- 11: t32:=binOp(eql,4,t26,t31,4)   [guard (4,false)]
       intro yv w' hR hF K hK;have f5:(yv 5) = .bool true:=hF 5 (by kernel_rfl) w' (Mod.refl _ _);have f10:(yv 10) = .bool true:=hF 10 (by kernel_rfl) w' (Mod.refl _ _);have f4:(yv 4) = .bool false:=hF 4 (by kernel_rfl) w' (Mod.refl _ _);clear hF;generalize yv 5 = y5 at *;subst f5;generalize yv 10 = y10 at *;subst f10;generalize yv 4 = y4 at *;subst f4
       go_simp
       exact hK _ _ (fun _ _=>by first | trivial | rfl | simp [*]) (Mod.refl _ _)
      ·-- 12: t33:=pick(t25,const(Value.bool(true)),t32)
       intro yv w' hR hF K hK;have f4:(yv 4) = .bool false:=hF 4 (by kernel_rfl) w' (Mod.refl _ _);have f11:(yv 11) = .bool true:=hF 11 (by kernel_rfl) w' (Mod.refl _ _);clear hF;generalize yv 4 = y4 at *;subst f4;generalize yv 11 = y11 at *;subst f11
       go_simp
       exact hK _ _ (fun _ _=>by first | trivial | rfl | simp [*]) (Mod.refl _ _)
      ·-- 13: t20:=assign(t33)
       intro yv w' hR hF K hK;have f12:(yv 12) = .bool true:=hF 12 (by kernel_rfl) w' (Mod.refl _ _);have f4:(yv 4) = .bool false:=hF 4 (by kernel_rfl) w' (Mod.refl _ _);clear hF;generalize yv 12 = y12 at *;subst f12;generalize yv 4 = y4 at *;subst f4
       go_simp
       exact hK _ _ (fun _ _=>by first | trivial | rfl | simp [*]) (Mod.refl _ _)
     case hE_ =>
      intro yv w' hR hF;have f0:(yv 0) = .pointer (some ⟨N,0,none⟩):=hF 0 (by simp) w' (Mod.refl _ _);have f1:(yv 1) = .pointer (some ⟨N,0,none⟩):=hF 1 (by simp) w' (Mod.refl _ _);have f2:(yv 2) = .agg #[.slice a1 n1 c1,.int .i64 k,.int .i64 st,.int .i64 bf,.int .i64 pr,.slice a2 n2 c2,.int .i64 pk,.int .i64 ob]:=hF 2 (by simp) w' (Mod.refl _ _);have f3:(yv 3) = .bool false:=hF 3 (by simp) w' (Mod.refl _ _);have f4:(yv 4) = .bool false:=hF 4 (by simp) w' (Mod.refl _ _);have f5:(yv 5) = .bool true:=hF 5 (by simp) w' (Mod.refl _ _);have f6:(yv 6) = .pointer (some ⟨N,0,none⟩):=hF 6 (by simp) w' (Mod.refl _ _);have f7:(yv 7) = .pointer (some ⟨N,0,none⟩):=hF 7 (by simp) w' (Mod.refl _ _)
      have f8:(yv 8) = .pointer (some ⟨N,2,none⟩):=hF 8 (by simp) w' (Mod.refl _ _);have f9:(yv 9) = .int .i64 st:=hF 9 (by simp) w' (Mod.refl _ _);have f10:(yv 10) = .bool true:=hF 10 (by simp) w' (Mod.refl _ _);have f11:(yv 11) = .bool true:=hF 11 (by simp) w' (Mod.refl _ _);have f12:(yv 12) = .bool true:=hF 12 (by simp) w' (Mod.refl _ _);have f13:(yv 13) = .bool true:=hF 13 (by simp) w' (Mod.refl _ _);clear hF;generalize yv 0 = y0 at *;subst f0;generalize yv 1 = y1 at *;subst f1;generalize yv 2 = y2 at *;subst f2;generalize yv 3 = y3 at *;subst f3;generalize yv 4 = y4 at *
      subst f4;generalize yv 5 = y5 at *;subst f5;generalize yv 6 = y6 at *;subst f6;generalize yv 7 = y7 at *;subst f7;generalize yv 8 = y8 at *;subst f8;generalize yv 9 = y9 at *;subst f9;generalize yv 10 = y10 at *;subst f10;generalize yv 11 = y11 at *;subst f11;generalize yv 12 = y12 at *;subst f12;generalize yv 13 = y13 at *;subst f13;have hfin:=hno.out 14 (⟨by rw [hfl.out];rfl,by decide⟩) _ ((Mod.refl Nowhere W).drew.trans hR);replace hfin:=Lib.hid hfin;go_wp2;exact hfin.out
  ·rw [if_neg hk] at hfl;refine hid9 ?_ hIs hno hyes hcl hfl hbl hk hn1 hn2;clear hIs hno hyes hcl hfl hbl hk hn1 hn2;intro hIs hno hyes hcl hfl hbl hk hn1 hn2;go_enter Tryz.func65,Tryz.ntmps65;go_wp2_with fail;refine ZC (fun i v w'=>match i with | 0=>(v = .pointer (some ⟨N,0,none⟩)) | 1=>(v = .pointer (some ⟨N,0,none⟩)) | 2=>(v = .agg #[.slice a1 n1 c1,.int .i64 k,.int .i64 st,.int .i64 bf,.int .i64 pr,.slice a2 n2 c2,.int .i64 pk,.int .i64 ob]) | 3=>(v = .bool true) | 4=>(v = .bool true) | 12=>(v = .bool true) | 13=>(v = .bool true) | _=>True) ?A_ (by first | assumption | kernel_rfl) (by kernel_rfl) (by kernel_rfl) ?hA_ ?hS_ ?hE_
   case hA_=>intro xs;simp [putAll,List.range,List.range.loop,Act.put] <;> rfl
   case hS_ =>
    refine ⟨?_,?_,?_,?_,?_,?_,?_,?_,?_,?_,?_,?_,?_,?_,trivial⟩
    ·-- 0: t21:=move(t0)
     intro yv w' hR hF K hK;clear hF
     go_simp
     exact hK _ _ (fun _ _=>by first | trivial | rfl | simp [*]) (Mod.refl _ _)
    ·-- 1: t22:=nilCheck(t21)
     intro yv w' hR hF K hK;have f0:(yv 0) = .pointer (some ⟨N,0,none⟩):=hF 0 (by kernel_rfl) w' (Mod.refl _ _);clear hF;generalize yv 0 = y0 at *;subst f0
     go_simp
     exact hK _ _ (fun _ _=>by first | trivial | rfl | simp [*]) (Mod.refl _ _)
    ·-- 2: t23:=load(24,t22)
     intro yv w' hR hF K hK;have f1:(yv 1) = .pointer (some ⟨N,0,none⟩):=hF 1 (by kernel_rfl) w' (Mod.refl _ _);clear hF;generalize yv 1 = y1 at *;subst f1;have hm1:=(Mod.refl Nowhere W).drew.trans hR;obtain ⟨x0,x1,x2,x3,x4,x5,x6,x7,xl,y0,yl⟩:=hcl.out w' hm1
     go_simp
     exact hK _ _ (fun _ _=>rfl) (Mod.refl _ _)
    ·-- 3: t24:=CALL F53 (t23)
     intro yv w' hR hF K hK;have f2:(yv 2) = .agg #[.slice a1 n1 c1,.int .i64 k,.int .i64 st,.int .i64 bf,.int .i64 pr,.slice a2 n2 c2,.int .i64 pk,.int .i64 ob]:=hF 2 (by kernel_rfl) w' (Mod.refl _ _);clear hF;generalize yv 2 = y2 at *;subst f2;have hm1:=(Mod.refl Nowhere W).drew.trans hR;have hc:=hIs.out w' hm1;replace hc:=Lib.hid hc
     go_simp
     go_at_call 53
     refine hc.out.mono ?_;rintro e w1 ⟨rfl,hm1'⟩;exact hK _ _ (fun _ _=>rfl) hm1'
    ·-- 4: t25:=move(t24)
     intro yv w' hR hF K hK;have f3:(yv 3) = .bool true:=hF 3 (by kernel_rfl) w' (Mod.refl _ _);clear hF;generalize yv 3 = y3 at *;subst f3
     go_simp
     exact hK _ _ (fun _ _=>by first | trivial | rfl | simp [*]) (Mod.refl _ _)
    ·-- 5: t26:=load(4,t1)   [guard (4,false)]
     intro yv w' hR hF K hK;have f4:(yv 4) = .bool true:=hF 4 (by kernel_rfl) w' (Mod.refl _ _);clear hF;generalize yv 4 = y4 at *;subst f4
     go_simp
     exact hK _ _ (fun _ _=>by first | trivial | rfl | simp [*]) (Mod.refl _ _)
    ·-- 6: t27:=move(t0)   [guard (4,false)]
     intro yv w' hR hF K hK;have f4:(yv 4) = .bool true:=hF 4 (by kernel_rfl) w' (Mod.refl _ _);clear hF;generalize yv 4 = y4 at *;subst f4
     go_simp
     exact hK _ _ (fun _ _=>by first | trivial | rfl | simp [*]) (Mod.refl _ _)
    ·-- 7: t28:=nilCheck(t27)   [guard (4,false)]
     intro yv w' hR hF K hK;have f4:(yv 4) = .bool true:=hF 4 (by kernel_rfl) w' (Mod.refl _ _);clear hF;generalize yv 4 = y4 at *;subst f4
     go_simp
     exact hK _ _ (fun _ _=>by first | trivial | rfl | simp [*]) (Mod.refl _ _)
    ·-- 8: t29:=fieldAddr(24,t28,2)   [guard (4,false)]
     intro yv w' hR hF K hK;have f4:(yv 4) = .bool true:=hF 4 (by kernel_rfl) w' (Mod.refl _ _);clear hF;generalize yv 4 = y4 at *;subst f4
     go_simp
     exact hK _ _ (fun _ _=>by first | trivial | rfl | simp [*]) (Mod.refl _ _)
    ·-- 9: t30:=load(3,t29)   [guard (4,false)]
     intro yv w' hR hF K hK;have f4:(yv 4) = .bool true:=hF 4 (by kernel_rfl) w' (Mod.refl _ _);clear hF;generalize yv 4 = y4 at *;subst f4
     go_simp
     exact hK _ _ (fun _ _=>by first | trivial | rfl | simp [*]) (Mod.refl _ _)
    ·-- 10: t31:=binOp(eql,3,t30,5:i64,3)   [guard (4,false)]
     intro yv w' hR hF K hK;have f4:(yv 4) = .bool true:=hF 4 (by kernel_rfl) w' (Mod.refl _ _);clear hF;generalize yv 4 = y4 at *;subst f4
     go_simp
     exact hK _ _ (fun _ _=>by first | trivial | rfl | simp [*]) (Mod.refl _ _)
    ·-- 11: t32:=binOp(eql,4,t26,t31,4)   [guard (4,false)]
     intro yv w' hR hF K hK;have f4:(yv 4) = .bool true:=hF 4 (by kernel_rfl) w' (Mod.refl _ _);clear hF;generalize yv 4 = y4 at *;subst f4
     go_simp
     exact hK _ _ (fun _ _=>by first | trivial | rfl | simp [*]) (Mod.refl _ _)
    ·-- 12: t33:=pick(t25,const(Value.bool(true)),t32)
     intro yv w' hR hF K hK;have f4:(yv 4) = .bool true:=hF 4 (by kernel_rfl) w' (Mod.refl _ _);clear hF;generalize yv 4 = y4 at *;subst f4
     go_simp
     exact hK _ _ (fun _ _=>by first | trivial | rfl | simp [*]) (Mod.refl _ _)
    ·-- 13: t20:=assign(t33)
     intro yv w' hR hF K hK;have f12:(yv 12) = .bool true:=hF 12 (by kernel_rfl) w' (Mod.refl _ _);have f4:(yv 4) = .bool true:=hF 4 (by kernel_rfl) w' (Mod.refl _ _);clear hF;generalize yv 12 = y12 at *;subst f12;generalize yv 4 = y4 at *;subst f4
     go_simp
     exact hK _ _ (fun _ _=>by first | trivial | rfl | simp [*]) (Mod.refl _ _)
   case hE_ =>
    intro yv w' hR hF;have f0:(yv 0) = .pointer (some ⟨N,0,none⟩):=hF 0 (by simp) w' (Mod.refl _ _);have f1:(yv 1) = .pointer (some ⟨N,0,none⟩):=hF 1 (by simp) w' (Mod.refl _ _);have f2:(yv 2) = .agg #[.slice a1 n1 c1,.int .i64 k,.int .i64 st,.int .i64 bf,.int .i64 pr,.slice a2 n2 c2,.int .i64 pk,.int .i64 ob]:=hF 2 (by simp) w' (Mod.refl _ _);have f3:(yv 3) = .bool true:=hF 3 (by simp) w' (Mod.refl _ _);have f4:(yv 4) = .bool true:=hF 4 (by simp) w' (Mod.refl _ _);have f12:(yv 12) = .bool true:=hF 12 (by simp) w' (Mod.refl _ _);have f13:(yv 13) = .bool true:=hF 13 (by simp) w' (Mod.refl _ _)
    clear hF;generalize yv 0 = y0 at *;subst f0;generalize yv 1 = y1 at *;subst f1;generalize yv 2 = y2 at *;subst f2;generalize yv 3 = y3 at *;subst f3;generalize yv 4 = y4 at *;subst f4;generalize yv 12 = y12 at *;subst f12;generalize yv 13 = y13 at *;subst f13;have hfin:=hno.out 14 (⟨by rw [hfl.out];rfl,by decide⟩) _ ((Mod.refl Nowhere W).drew.trans hR);replace hfin:=Lib.hid hfin;go_wp2;exact hfin.out
theorem Jt {w:World} {rb:Nat} {A:VAt} {m:Mem} {s:VSt} {M:Md} (h:RgM w rb A m s M) {t:Value} {a:List Nat} (ht:Src w t a) (ba:Bytes a) (hrm:Room m (vcost A)) (b:Bool) :
  Calls Tryz.prog 22 #[ptr rb,t,.bool b] w (RCall w A m s { M with now:=(rChange M.now a (fLock b)).1 } (rChange M.now a (fLock b)).2):=by
 have hm1:=m1 w [.bool b] 4;have hB:=blk_a (w:=w) [.bool b] 4
 have hC:=Js (h.fresh hm1) (ht.fresh hm1) ba hrm (fLock b) 65 #[.pointer (some ⟨w.heap.size,0,none⟩)] (enters_of Tryz.func65 (by kernel_rfl) rfl) (ZaX b) (XH h.inv a b)
  fun en hen W N u v hm hN hb hx=>ZiG hb hx (by have:=(hB W hm).cell 0;simpa using this) (hB W hm).lt
 have hfr:∀ e w',RCall (w.alloc (.cells #[.bool b] 4)) A m s { M with now:=(rChange M.now a (fLock b)).1 } (rChange M.now a (fLock b)).2 e w'→(∃ n:Nat,e = .returned (errno n))∧RCall w A m s { M with now:=(rChange M.now a (fLock b)).1 } (rChange M.now a (fLock b)).2 e w':=fun e w' hc=>⟨hc.errno,hc.from hm1⟩;obtain ⟨ta,tc,rfl,-⟩:=ht;generalize RCall w A m s { M with now:=(rChange M.now a (fLock b)).1 } (rChange M.now a (fLock b)).2 = R at *;generalize a.length = n at *;clear h hB;refine hid3 ?_ hC hfr hm1;clear hC hfr hm1;intro hC hfr hm1;go_enter Tryz.func22,Tryz.ntmps22
 go_wp2_with fail;refine (hC.out).mono ?_;rintro e w1 hc;obtain ⟨⟨ne,rfl⟩,hfin⟩:=hfr.out _ _ hc;refine hid2 ?_ hfin hc;clear hfin hc;intro hfin hc;go_wp2;exact hfin.out
end Go.Proofs.YthmahbfmfpjjcaaGreat
