/-
  Requests: the program's Encode.
-/
import Derived.Test.YtanioleniadhoaaGreatAK24
import Derived.Test.YtanioleniadhoaaGreatAK23
import Derived.Test.YtanioleniadhoaaGreatAG78
set_option linter.unusedVariables false
set_option linter.unusedSimpArgs false
set_option maxHeartbeats 8000000
set_option maxRecDepth 100000
namespace Go.Proofs.YtanioleniadhoaaGreat
open Go.RowKit
open Jn Tk
attribute [local go_sem] Oper.semAt_some
theorem objsV_take {xs:List (Value × List Nat)} {k:Nat} (t:Nat) (h:k < xs.length):objsV t (xs.take (k + 1)) = objsV t (xs.take k) ++ one1 (t + k) xs[k]:=by
 rw [List.take_succ_eq_append_getElem h,objsV_snoc,List.length_take]
 congr 2
 omega
theorem tObjects_ok {w:World} {v:Value} {xs:List (Value × List Nat)} (h:Sl w v 22 1 xs.length (xs.map (·.1))) (hx:∀ x ∈ xs,Src w x.1 x.2) (hxl:xs.length≤8) :
  Calls Tryz.prog 77 #[v] w fun e w'=>∃ r,e = .returned r∧Sl w' r 140 3 (objsV 128 xs).length (oCs (objsV 128 xs))∧Mod Nowhere w w':=by
 obtain ⟨a,cap,rfl,h1,h2,-⟩:=h.gen;refine hid2 ?_ h hx;clear h hx;intro h hx;go_enter Tryz.func77,Tryz.ntmps77;go_wp2
 go_loopw [3,8] (fun s i wr=>∃ k:Nat,k≤xs.length∧i = .int .i64 k∧wr.ownsRow w.heap.size 140 3 s (objsV 128 (xs.take k)).length (oCs (objsV 128 (xs.take k)))∧(objsV 128 (xs.take k)).length≤k∧Mod Nowhere w wr) (fun _ i _=>xs.length - (intOf i).toNat)
 case atStart=>exact ⟨0,by omega,rfl,World.ownsRow_nil _ _ _ _,Nat.le_refl 0,Mod.refl _ _⟩
 case round =>
  obtain ⟨k,hk,rfl,hown,hko,hm⟩:=hrel;by_cases hlt:k < xs.length
  ·have hsl:=h.out.mod hm (fun _ _=>id);obtain ⟨b,off,cap',e0,hbl,_,_,hc,hz⟩:=hsl.open (by omega);have hck:=hc k (by omega)
   have e1:(xs.map (·.1)).getD k default = xs[k].1:=by simp [gd0,hlt]
   rw [e1] at hck;have hxk:=(hx.out xs[k] (List.getElem_mem hlt)).fresh hm;obtain ⟨xa,xc,e2,-⟩:=id hxk;rw [e2] at hck
   obtain ⟨rfl,rfl⟩:a = some ⟨b,off,none⟩∧cap = cap':=by
    simp at e0;exact ⟨e0.1,e0.2⟩
   have htk:=objsV_take 128 hlt;unfold one1 at htk;rw [e2] at htk;clear hc hsl hz;obtain ⟨va,vc,rfl,-⟩:=owns_form hown;generalize hO2:objsV 128 (xs.take (k + 1)) = O2 at *;generalize hO:objsV 128 (xs.take k) = O at *;by_cases h0:xs[k].2 = []
   ·rw [if_pos h0,List.append_nil] at htk;have hq:xs[k].2.length = 0:=by rw [h0];rfl
    generalize xs[k].2.length = q at *;subst hq;generalize hol:O.length = ol at *;refine hid10 ?_ e1 e2 hown hm htk hO2 hO hol hxk h0;clear e1 e2 hown hm htk hO2 hO hol hxk h0;intro e1 e2 hown hm htk hO2 hO hol hxk h0;go_wp2;go_roundw
    case rel=>exact ⟨k + 1,by omega,by go_num,by rw [hO2.out,htk.out,hol.out];exact hown.out,by rw [hO2.out,htk.out,hol.out];omega,hm.out⟩
    case measure=>simp [intOf];omega
   ·rw [if_neg h0] at htk;have hq:¬ xs[k].2.length = 0:=fun e=>h0 (List.eq_nil_of_length_eq_zero e);have hqp:(0:Int) < (xs[k].2.length:Int):=by omega
    have ht:(128:Int) + (k:Int) = ((128 + k:Nat):Int):=by omega
    obtain ⟨va2,vc2,w3,hrun,hown3,hmA⟩:=run_app1 Tryz.underlying137 info_tlv rfl (by decide) hown (news:=[.int .i64 ((128 + k:Nat):Int),.slice xa xs[k].2.length xc,.slice none 0 0]) rfl (one_oC _) (by omega) (by omega) hm.size
    have hO3:oCs O ++ [.int .i64 ((128 + k:Nat):Int),.slice xa xs[k].2.length xc,.slice none 0 0] = oCs O2:=by
     rw [htk,oCs_append]
     rfl
    have hol2:O2.length = O.length + 1:=by rw [htk];simp
    rw [hO3,← hol2] at hown3;rw [← hol2] at hrun;have hm3:Mod Nowhere w w3:=hm.step hmA fun i hi e=>by have:=Own1.above hown i e;omega
    clear hO3 hmA;generalize xs[k].2.length = q at *;have hO2l:O2.length≤k + 1:=by omega
    generalize hol:O.length = ol at *;generalize hol2':O2.length = ol2 at *;subst hol2;rw [← ht] at hrun;refine hid12 ?_ ht e1 e2 hown hm htk hO2 hO hol hol2' hxk h0;clear ht e1 e2 hown hm htk hO2 hO hol hol2' hxk h0;intro ht e1 e2 hown hm htk hO2 hO hol hol2' hxk h0;refine hid2 ?_ hown3 hm3;clear hown3 hm3;intro hown3 hm3
    go_wp2_with (at_builtin;refine Lib.wpList_append_run _ rfl _ _ _ _ rfl _ _ (by rfl) (by rfl) _ _ hrun ?_;clear hrun)
    go_roundw
    case rel=>exact ⟨k + 1,by omega,by go_num,by rw [hO2.out,hol2'.out];exact hown3.out,by rw [hO2.out,hol2'.out];exact hO2l,hm3.out⟩
    case measure=>simp [intOf];omega
  ·obtain rfl:k = xs.length:=by omega
   rw [List.take_length] at hown;have hs:=Sl.of_owns hown;refine hid3 ?_ hm hs hown;clear hm hs hown;intro hm hs hown;go_wp2;go_ret;exact ⟨_,rfl,hs.out,hm.out⟩
def BPost (w:World) (R:BR) (e:Ending) (w':World):Prop:=∃ v,e = .returned (.tuple #[v,errno (R.1:Nat)])∧DSl w' v R.2∧Mod Nowhere w w'
theorem DSl.nil (w:World):DSl w (.slice none 0 0) []:=Sl.nil _ _ _
theorem RqAt.cut {w:World} {x:RqV} (h:RqAt w x):∃ a1 c1 a2 c2 a3 c3 a4 c4 a6 c6 a7 c7,x.v1 = .slice a1 x.r.dom.length c1∧x.v2 = .slice a2 x.r.pac.length c2∧x.v3 = .slice a3 x.r.app.length c3∧x.v4 = .slice a4 x.r.dst.length c4∧x.v6 = .slice a6 x.r.par.length c6∧x.v7 = .slice a7 x.r.hsh.length c7 ∧
  x.cells = [.int .i64 x.r.act,.slice a1 x.r.dom.length c1,.slice a2 x.r.pac.length c2,.slice a3 x.r.app.length c3,.slice a4 x.r.dst.length c4,.int .i64 x.r.prv,.slice a6 x.r.par.length c6,.slice a7 x.r.hsh.length c7]:=by
 obtain ⟨a1,c1,e1,-⟩:=h.s1;obtain ⟨a2,c2,e2,-⟩:=h.s2;obtain ⟨a3,c3,e3,-⟩:=h.s3;obtain ⟨a4,c4,e4,-⟩:=h.s4;obtain ⟨a6,c6,e6,-⟩:=h.s6;obtain ⟨a7,c7,e7,-⟩:=h.s7;exact ⟨a1,c1,a2,c2,a3,c3,a4,c4,a6,c6,a7,c7,e1,e2,e3,e4,e6,e7,by unfold RqV.cells;rw [e1,e2,e3,e4,e6,e7]⟩
theorem RqAt.by {w:World} {x:RqV} (h:RqAt w x):x.r.By:=⟨h.b1,h.b2,h.b3,h.b4,h.b6,h.b7⟩
theorem objs_few (xs:List (Value × List Nat)) (h:xs.length = 8) (t:Nat):(objsV t xs).length≤8:=by
 have key:∀ (t:Nat) (l:List (Value × List Nat)),(objsV t l).length≤l.length:=by
  intro t l
  induction l generalizing t with
  | nil=>exact Nat.le_refl _
  | cons v l ih =>
   have:=ih (t + 1);unfold objsV
   split
   ·rw [List.length_cons];omega
   ·rw [List.length_cons,List.length_cons];omega
 have:=key t xs;omega
theorem objs_tsl {W:World} {v:Value} {xs:List (Value × List Nat)} (hs:Sl W v 140 3 (objsV 128 xs).length (oCs (objsV 128 xs))) (hx:∀ x ∈ xs,Src W x.1 x.2) (hb:∀ x ∈ xs,Bytes x.2) (hl:∀ x ∈ xs,x.2.length≤255) (h8:xs.length = 8):TSl W v (objsV 128 xs):=by
 have hmem:=objsV_mem 128 xs;exact ⟨hs,fun x q=>hx _ (hmem x q).2.2,fun x q=>hb _ (hmem x q).2.2,fun x q=>⟨(hmem x q).1,by have:=(hmem x q).2.1;omega⟩,fun x q=>hl _ (hmem x q).2.2,objs_few xs h8 128⟩
theorem tEncode_ok {w:World} {x:RqV} (h:RqAt w x):Calls Tryz.prog 19 #[.agg x.cells.toArray] w (BPost w (encR x.r)):=by
 obtain ⟨a1,c1,a2,c2,a3,c3,a4,c4,a6,c6,a7,c7,e1,e2,e3,e4,e6,e7,ec⟩:=h.cut;have hm0:Mod Nowhere w (w.alloc (.cells x.cells.toArray 24)):=(Mod.refl _ w).alloc _;have hbx:=rq_box (w:=w) x.cells;have hC:=tCheck_ok (h.fresh hm0);have hl1:=chk_le x.r;rw [ec] at hm0 hbx hC ⊢;obtain ⟨y0,y1,y2,y3,y4,y5,y6,y7,yl⟩:=rq_cells (hbx _ (Mod.refl _ _));by_cases hk:x.r.chk = 0
 ·have hok:=Rq.chk_ok hk;have hR:encR x.r = (0,x.r.enc):=by unfold encR;rw [if_pos hk]
  rw [hR];rw [hk] at hC;obtain ⟨act,hact⟩:∃ n:Nat,x.r.act = n:=⟨x.r.act.toNat,by have:=hok.a1;omega⟩;obtain ⟨prv,hprv⟩:∃ n:Nat,x.r.prv = n:=⟨x.r.prv.toNat,by have:=hok.p0;omega⟩;have ha4:=hok.a4;have hp31:=hok.p31;have hvl:=Rq.vals_len hok
  have hvb:=Rq.vals_by hok h.by
  have hxs:∀ va vp,[(va,[act]),(Value.slice a1 x.r.dom.length c1,x.r.dom),(.slice a2 x.r.pac.length c2,x.r.pac),(.slice a3 x.r.app.length c3,x.r.app),(.slice a4 x.r.dst.length c4,x.r.dst),(vp,if prv = 0 then [] else [prv]),(.slice a6 x.r.par.length c6,x.r.par),(.slice a7 x.r.hsh.length c7,x.r.hsh)].map (·.2) = x.r.vals:=fun va vp=>by
   unfold Rq.vals;rw [hact,hprv];simp
  have hxv:∀ va vp,∀ y ∈ [(va,[act]),(Value.slice a1 x.r.dom.length c1,x.r.dom),(.slice a2 x.r.pac.length c2,x.r.pac),(.slice a3 x.r.app.length c3,x.r.app),(.slice a4 x.r.dst.length c4,x.r.dst),(vp,if prv = 0 then [] else [prv]),(.slice a6 x.r.par.length c6,x.r.par),(.slice a7 x.r.hsh.length c7,x.r.hsh)],y.2 ∈ x.r.vals:=fun va vp y hy=>by
   rw [← hxs va vp];exact List.mem_map.2 ⟨y,hy,rfl⟩
  have hsrc:∀ W va vp,Mod Nowhere w W→Src W va [act]→Src W vp (if prv = 0 then [] else [prv])→∀ y ∈ [(va,[act]),(Value.slice a1 x.r.dom.length c1,x.r.dom),(.slice a2 x.r.pac.length c2,x.r.pac),(.slice a3 x.r.app.length c3,x.r.app),(.slice a4 x.r.dst.length c4,x.r.dst),(vp,if prv = 0 then [] else [prv]),(.slice a6 x.r.par.length c6,x.r.par),(.slice a7 x.r.hsh.length c7,x.r.hsh)],Src W y.1 y.2:=fun W va vp hm sa sp y hy=>by
   obtain ⟨s1,s2,s3,s4,s6,s7,-⟩:=h.fresh hm;rw [e1] at s1;rw [e2] at s2;rw [e3] at s3;rw [e4] at s4;rw [e6] at s6;rw [e7] at s7;simp only [List.mem_cons,List.not_mem_nil,or_false] at hy;rcases hy with rfl | rfl | rfl | rfl | rfl | rfl | rfl | rfl
   ·exact sa
   ·exact s1
   ·exact s2
   ·exact s3
   ·exact s4
   ·exact sp
   ·exact s6
   ·exact s7
  have hO:∀ W va vp,Mod Nowhere w W→Src W va [act]→Src W vp (if prv = 0 then [] else [prv])→Calls Tryz.prog 77 #[.slice (some ⟨W.heap.size,0,none⟩) 8 8] (W.alloc (.cells #[va,.slice a1 x.r.dom.length c1,.slice a2 x.r.pac.length c2,.slice a3 x.r.app.length c3,.slice a4 x.r.dst.length c4,vp,.slice a6 x.r.par.length c6,.slice a7 x.r.hsh.length c7] 22)) fun e w'=>∃ a n c,e = .returned (.slice a n c)∧(∀ W',Mod Nowhere w' W'→Calls Tryz.prog 76 #[.slice a n c] W' fun e w''=>∃ r,e = .returned (.tuple #[r,errno 0])∧DSl w'' r x.r.enc∧Mod Nowhere W' w'')∧Mod Nowhere W w':=fun W va vp hm sa sp=>by
   have hma:Mod Nowhere W (W.alloc (.cells #[va,.slice a1 x.r.dom.length c1,.slice a2 x.r.pac.length c2,.slice a3 x.r.app.length c3,.slice a4 x.r.dst.length c4,vp,.slice a6 x.r.par.length c6,.slice a7 x.r.hsh.length c7] 22)):=(Mod.refl _ W).alloc _;have hS:=hsrc _ va vp (hm.trans hma) (sa.fresh hma) (sp.fresh hma);refine (tObjects_ok (xs:=[(va,[act]),(Value.slice a1 x.r.dom.length c1,x.r.dom),(.slice a2 x.r.pac.length c2,x.r.pac),(.slice a3 x.r.app.length c3,x.r.app),(.slice a4 x.r.dst.length c4,x.r.dst),(vp,if prv = 0 then [] else [prv]),(.slice a6 x.r.par.length c6,x.r.par),(.slice a7 x.r.hsh.length c7,x.r.hsh)]) (sl_whole (sz:=1) (n:=8) (Blk.new W [va,.slice a1 x.r.dom.length c1,.slice a2 x.r.pac.length c2,.slice a3 x.r.app.length c3,.slice a4 x.r.dst.length c4,vp,.slice a6 x.r.par.length c6,.slice a7 x.r.hsh.length c7] 22) rfl (by decide)) hS (show 8≤8 by decide)).mono ?_;rintro e w' ⟨r,rfl,hs,hm'⟩
   obtain ⟨ra,rc,rfl,-⟩:=hs.gen;refine ⟨ra,_,rc,rfl,fun W' hW=>?_,hma.trans hm'⟩;have hT:=objs_tsl (hs.mod hW (fun _ _ e=>e)) (hsrc _ va vp ((hm.trans (hma.trans hm')).trans hW) (sa.fresh ((hma.trans hm').trans hW)) (sp.fresh ((hma.trans hm').trans hW))) (fun y hy=>hvb _ (hxv va vp y hy)) (fun y hy=>hvl _ (hxv va vp y hy)) rfl;have hE:=lEncode_ok hT;rw [objsV_map,hxs va vp] at hE;exact hE
  have hfin:∀ W r,DSl W r x.r.enc→Mod Nowhere w W→BPost w (0,x.r.enc) (.returned (.tuple #[r,errno 0])) W:=fun W r hd hm=>⟨r,rfl,hd,hm⟩;have hw8:((act:Int)) % 256 = act:=by omega
  have hs1:∀ W:World,Src (W.alloc (.cells #[.int .u8 (act:Int)] 5)) (.slice (some ⟨W.heap.size,0,none⟩) 1 1) [act]:=fun W=>(DSl.src (d:=[act]) (sl_whole (sz:=1) (n:=1) (Blk.new W (u8s [act]) 5) rfl (by decide)));have hs2:∀ W W':World,Mod Nowhere (W.alloc (.cells #[.int .u8 (prv:Int)] 5)) W'→Src W' (.slice (some ⟨W.heap.size,0,none⟩) 1 1) [prv]:=fun W W' hm=>(DSl.src (d:=[prv]) (sl_whole (sz:=1) (n:=1) (Blk.new W (u8s [prv]) 5) rfl (by decide))).fresh hm;rw [hact,hprv] at hm0 hbx hC y0 y1 y2 y3 y4 y5 y6 y7 yl ⊢;generalize (BPost w (0,x.r.enc)) = Q at *;clear hR hk hl1 hok hvl hvb hxs hxv hsrc e1 e2 e3 e4 e6 e7 ec h
  generalize x.r.enc = E at *;generalize x.r.dom.length = n1 at *;generalize x.r.pac.length = n2 at *;generalize x.r.app.length = n3 at *;generalize x.r.dst.length = n4 at *;generalize x.r.par.length = n6 at *;generalize x.r.hsh.length = n7 at *;refine hid7 ?_ hm0 hbx hC hO hfin hs1 hs2;clear hm0 hbx hC hO hfin hs1 hs2;intro hm0 hbx hC hO hfin hs1 hs2;by_cases hp0:prv = 0
  ·subst hp0;have hpz:(((0:Nat):Int) != 0) = false:=rfl;go_enter Tryz.func19,Tryz.ntmps19;go_wp2_with fail;refine hC.out.mono ?_;rintro e w1 ⟨rfl,hm1⟩;obtain ⟨x0,x1,x2,x3,x4,x5,x6,x7,xl⟩:=rq_cells (hbx.out w1 hm1);have hmw:=hm0.out.trans hm1;have hma:Mod Nowhere w1 (w1.alloc (.cells #[.int .u8 (act:Int)] 5)):=(Mod.refl _ w1).alloc _;have hO1:=hO.out _ _ (.slice none 0 0) (hmw.trans hma) (hs1.out w1) (by simp only [if_true];exact (DSl.nil _).src);rw [World.size_alloc] at hO1;have hmx:=hmw.trans hma;clear y0 y1 y2 y3 y4 y5 y6 y7 yl hO hs1 hs2;refine hid5 ?_ hm1 hmw hma hO1 hmx;clear hm1 hmw hma hO1 hmx;intro hm1 hmw hma hO1 hmx
   go_wp2_with fail;refine hO1.out.mono ?_;rintro e w2 ⟨ra,rn,rc,rfl,hE,hm2⟩;have hE2:=hE w2 (Mod.refl _ _);have hmy:=hmx.out.trans hm2;clear hE;refine hid3 ?_ hE2 hm2 hmy;clear hE2 hm2 hmy;intro hE2 hm2 hmy;go_wp2_with fail;refine hE2.out.mono ?_;rintro e w3 ⟨r,rfl,hd,hm3⟩;have hf:=hfin.out w3 r hd (hmy.out.trans hm3);refine hid3 ?_ hd hf hm3;clear hd hf hm3;intro hd hf hm3;go_wp2
   all_goals exact hf.out
  ·have hpz:(((prv:Nat):Int) != 0) = true:=by simp;exact hp0
   have hp8:((prv:Int)) % 256 = prv:=by omega
   rw [if_neg hp0] at hO;go_enter Tryz.func19,Tryz.ntmps19;go_wp2_with fail;refine hC.out.mono ?_;rintro e w1 ⟨rfl,hm1⟩;obtain ⟨x0,x1,x2,x3,x4,x5,x6,x7,xl⟩:=rq_cells (hbx.out w1 hm1);have hmw:=hm0.out.trans hm1;have hmp:Mod Nowhere w1 (w1.alloc (.cells #[.int .u8 (prv:Int)] 5)):=(Mod.refl _ w1).alloc _;have hma:Mod Nowhere (w1.alloc (.cells #[.int .u8 (prv:Int)] 5)) ((w1.alloc (.cells #[.int .u8 (prv:Int)] 5)).alloc (.cells #[.int .u8 (act:Int)] 5)):=(Mod.refl _ _).alloc _;have hO1:=hO.out _ _ (.slice (some ⟨w1.heap.size,0,none⟩) 1 1) ((hmw.trans hmp).trans hma) (hs1.out _) (hs2.out w1 _ hma);rw [World.size_alloc,World.size_alloc] at hO1
   have hmx:=(hmw.trans hmp).trans hma;clear y0 y1 y2 y3 y4 y5 y6 y7 yl hO hs1 hs2;refine hid6 ?_ hm1 hmw hma hO1 hmx hmp;clear hm1 hmw hma hO1 hmx hmp;intro hm1 hmw hma hO1 hmx hmp;go_wp2_with fail;refine hO1.out.mono ?_;rintro e w2 ⟨ra,rn,rc,rfl,hE,hm2⟩;have hE2:=hE w2 (Mod.refl _ _);have hmy:=hmx.out.trans hm2;clear hE;refine hid3 ?_ hE2 hm2 hmy;clear hE2 hm2 hmy;intro hE2 hm2 hmy;go_wp2_with fail;refine hE2.out.mono ?_;rintro e w3 ⟨r,rfl,hd,hm3⟩;have hf:=hfin.out w3 r hd (hmy.out.trans hm3);refine hid3 ?_ hd hf hm3;clear hd hf hm3;intro hd hf hm3;go_wp2
   all_goals exact hf.out
 ·have hR:encR x.r = (x.r.chk,[]):=by unfold encR;rw [if_neg hk]
  have hfin:∀ W,Mod Nowhere w W→BPost w (encR x.r) (.returned (.tuple #[.slice none 0 0,errno (x.r.chk:Nat)])) W:=fun W hm=>by
   rw [hR];exact ⟨_,rfl,DSl.nil _,hm⟩
  have hkn:((x.r.chk:Int) != 0) = true:=by simp;exact hk
  generalize BPost w (encR x.r) = Q at *;generalize x.r.chk = ck at *;generalize x.r.dom.length = n1 at *;generalize x.r.pac.length = n2 at *;generalize x.r.app.length = n3 at *;generalize x.r.dst.length = n4 at *;generalize x.r.par.length = n6 at *;generalize x.r.hsh.length = n7 at *;generalize x.r.act = act at *;generalize x.r.prv = prv at *;clear hR hk hl1 e1 e2 e3 e4 e6 e7 ec;refine hid4 ?_ hm0 hbx hC hfin;clear hm0 hbx hC hfin;intro hm0 hbx hC hfin;go_enter Tryz.func19,Tryz.ntmps19;go_wp2_with fail;refine hC.out.mono ?_;rintro e w1 ⟨rfl,hm1⟩;have hf:=hfin.out w1 (hm0.out.trans hm1);clear y0 y1 y2 y3 y4 y5 y6 y7 yl;refine hid2 ?_ hm1 hf;clear hm1 hf;intro hm1 hf
  go_wp2
  all_goals exact hf.out
section
variable {w : World} {kv v : Value} {key d : List Nat}
theorem tMac_ok {xs:List (Value × List Nat)} (hk:Src w kv key) (bk:Bytes key) (h:Sl w v 22 1 xs.length (xs.map (·.1))) (hx:∀ x ∈ xs,Src w x.1 x.2) (hl:xs.length≤1000) (hd:cat xs = d) (hn:d.length≤1000000) (bd:Bytes d) :
  Calls Tryz.prog 87 #[kv,v] w (BPost w (macR key d)):=by
 have hJ:=fun W (hm:Mod Nowhere w W)=>oJoin_ok (h.mod hm (fun _ _ e=>e)) (fun x q=>(hx x q).fresh hm) hl (by rw [hd];omega);simp only [hd] at hJ;obtain ⟨va,vc,rfl,-⟩:=h.gen;by_cases h16:key.length = 16
 ·have hR:macR key d = (0,Cy.mac key Cy.zeros d):=by unfold macR;rw [if_pos h16]
  rw [hR];have hM:=fun W u v (hm:Mod Nowhere w W) (hu:Src W u Cy.zeros) (hv:Src W v d)=>mMAC_ok (hk.fresh hm) h16 bk hu rfl bytes_z hv hn bd;have hml:=Cy.mac_len (key:=key) (iv:=Cy.zeros) (d:=d) rfl;obtain ⟨ka,kc,rfl,-⟩:=hk;rw [h16] at hM ⊢;have hfin:∀ W r,DSl W r (Cy.mac key Cy.zeros d)→Mod Nowhere w W→BPost w (0,Cy.mac key Cy.zeros d) (.returned (.tuple #[r,errno 0])) W:=fun W r hd hm=>⟨r,rfl,hd,hm⟩;generalize BPost w (0,Cy.mac key Cy.zeros d) = Q at *;generalize Cy.mac key Cy.zeros d = mq at *;generalize hxl:xs.length = xl at *;clear h16 bk bd hR h hx hd
  generalize hdn:d.length = n at *;refine hid5 ?_ hJ hM hml hfin hdn;clear hJ hM hml hfin hdn;intro hJ hM hml hfin hdn;go_enter Tryz.func87,Tryz.ntmps87;go_wp2_with fail;refine wp_region_vals (fun i=>match i with | 0=>some (.slice ka 16 kc) | 2=>some (.slice va xl vc) | 6=>some (.int .i64 0) | 8=>some (.int .i64 0) | _=>none) (fun i=>match i with | 3=>[2] | 4=>[0,1,3] | 5=>[4] | 6=>[4] | 7=>[5,4,0,1,2,3,6] | 8=>[6,7,0,1,2,3,4,5] | _=>[]) 9 (fun i v w'=>match i with | 1=>(∃ g:Nat,v = .slice (some ⟨g,0,none⟩) 8 8∧Src w' (.slice (some ⟨g,0,none⟩) 8 8) Cy.zeros) | 3=>(∃ (a:Option Addr) (c:Nat),v = .slice a n c∧Src w' (.slice a n c) d) | 4=>(∃ (a:Option Addr) (c:Nat),v = .tuple #[.slice a 8 c,errno 0]∧DSl w' (.slice a 8 c) mq) | 5=>(∃ (a:Option Addr) (c:Nat),v = .slice a 8 c∧DSl w' (.slice a 8 c) mq) | 7=>(∃ (a:Option Addr) (c:Nat),v = .slice a 8 c∧DSl w' (.slice a 8 c) mq) | _=>True) ?A_3_0 (by first | assumption | kernel_rfl) (by kernel_rfl) (by kernel_rfl) (by kernel_rfl) (by rfl) ?hA_3_0 ?hS_3_0 ?hE_3_0
  case hA_3_0=>intro xs;simp [putAll,List.range,List.range.loop,Act.put] <;> rfl
  case hS_3_0 =>
   refine ⟨?_,?q1_3_0,?_,?q3_3_0,?q4_3_0,?q5_3_0,?q6_3_0,?q7_3_0,?_,trivial⟩
   case q1_3_0 =>
    intro yv w' hR hF K hK;clear hF;have hz:=zeros_src w';have hmz:=made8 w';have hma:Mod Nowhere w' (w'.alloc (.cells (u8s Cy.zeros).toArray 5)):=(Mod.refl _ _).alloc _;generalize (u8s Cy.zeros).toArray = zs at *;refine hid2 ?_ hz hma;clear hz hma;intro hz hma
    go_simp
    exact hK _ _ (fun W hW=>⟨_,rfl,hz.out W hW⟩) hma.out
   case q3_3_0 =>
    intro yv w' hR hF K hK;clear hF;have hc:=hJ.out w' ((Mod.refl Nowhere _).drew.trans hR);replace hc:=Lib.hid hc
    go_simp
    go_at_call 90
    refine hc.out.mono ?_;rintro e w9 ⟨r,rfl,hown9,hm9⟩;obtain ⟨g9,c9,rfl,-⟩:=owns_form hown9;refine hK _ _ (fun W hW=>⟨g9,c9,rfl,?_⟩) hm9;have hd:DSl w9 (.slice g9 n c9) d:=DSl.own hown9 hdn.out;exact hd.src.fresh hW
   case q4_3_0 =>
    intro yv w' hR hF K hK;have f1:=hF 1 (by decide) w' (Mod.refl _ w');have f3:=hF 3 (by decide) w' (Mod.refl _ w');clear hF;simp only [mixD,memN,Option.getD_some,Option.getD_none] at hK ⊢;generalize yv 1 = y1 at *;generalize yv 3 = y3 at *;obtain ⟨g,rfl,hz⟩:=f1;obtain ⟨a,c,rfl,hs⟩:=f3;have hc:=hM.out w' _ _ ((Mod.refl Nowhere _).drew.trans hR) hz hs;refine hid3 ?_ hc hz hs;clear hc hz hs;intro hc hz hs
    go_simp
    go_at_call 111
    refine hc.out.mono ?_;rintro e w9 ⟨r,rfl,hd9,hm9⟩;obtain ⟨a9,c9,rfl,-⟩:=id hd9.src;rw [hml.out] at hd9 ⊢;exact hK _ _ (fun W hW=>⟨a9,c9,rfl,hd9.fresh hW⟩) hm9
   case q5_3_0 =>
    intro yv w' hR hF K hK;have f4:=hF 4 (by decide) w' (Mod.refl _ w');clear hF;simp only [mixD,memN,Option.getD_some,Option.getD_none] at hK ⊢;generalize yv 4 = y4 at *;obtain ⟨a,c,rfl,hs⟩:=f4;replace hs:=Lib.hid hs
    go_simp
    exact hK _ _ (fun W hW=>⟨a,c,rfl,hs.out.fresh hW⟩) (Mod.refl _ _)
   case q6_3_0 =>
    intro yv w' hR hF K hK;have f4:=hF 4 (by decide) w' (Mod.refl _ w');clear hF;simp only [mixD,memN,Option.getD_some,Option.getD_none] at hK ⊢;generalize yv 4 = y4 at *;obtain ⟨a,c,rfl,hs⟩:=f4;replace hs:=Lib.hid hs
    go_simp
    exact hK _ _ (fun W hW=>rfl) (Mod.refl _ _)
   case q7_3_0 =>
    intro yv w' hR hF K hK;have f5:=hF 5 (by decide) w' (Mod.refl _ w');have f4:=hF 4 (by decide) w' (Mod.refl _ w');have f1:=hF 1 (by decide) w' (Mod.refl _ w');have f3:=hF 3 (by decide) w' (Mod.refl _ w');clear hF;simp only [mixD,memN,Option.getD_some,Option.getD_none] at hK ⊢;generalize yv 5 = y5 at *;generalize yv 4 = y4 at *;generalize yv 1 = y1 at *;generalize yv 3 = y3 at *;obtain ⟨a,c,rfl,hs⟩:=f5;replace hs:=Lib.hid hs
    go_simp
    exact hK _ _ (fun W hW=>⟨a,c,rfl,hs.out.fresh hW⟩) (Mod.refl _ _)
   all_goals
    intro yv w' hR hF K hK;clear hF
    go_simp
    exact hK _ _ (fun _ _=>by first | trivial | exact rfl | simp [*,known]) (Mod.refl _ _)
  case hE_3_0 =>
   intro yv w' hR hF;have f1:=hF 1 (by decide) w' (Mod.refl _ w');have f3:=hF 3 (by decide) w' (Mod.refl _ w');have f4:=hF 4 (by decide) w' (Mod.refl _ w');have f5:=hF 5 (by decide) w' (Mod.refl _ w');have f7:=hF 7 (by decide) w' (Mod.refl _ w');clear hF;simp only [mixN,Option.getD_some,Option.getD_none,Nat.reduceLT,if_true];generalize yv 1 = y1 at *;generalize yv 3 = y3 at *;generalize yv 4 = y4 at *;generalize yv 5 = y5 at *;generalize yv 7 = y7 at *;obtain ⟨a,c,rfl,hs⟩:=f7;have hf:=hfin.out w' _ hs ((Mod.refl Nowhere w).drew.trans hR);clear f1 f3 f4 f5 hR;refine hid2 ?_ hs hf;clear hs hf;intro hs hf
   go_wp2
   all_goals exact hf.out
 ·have hR:macR key d = (19,[]):=by unfold macR;rw [if_neg h16]
  rw [hR];obtain ⟨ka,kc,rfl,-⟩:=hk;have h16b:((key.length:Int) != 16) = true:=by simp;omega
  have hf:BPost w (19,[]) (.returned (.tuple #[.slice none 0 0,errno 19])) w:=⟨_,rfl,DSl.nil _,Mod.refl _ _⟩;generalize BPost w (19,[]) = Q at *;generalize key.length = kn at *;generalize xs.length = xl at *;clear hJ h hx hR;replace hf:=Lib.hid hf;go_enter Tryz.func87,Tryz.ntmps87;go_wp2
  all_goals exact hf.out
theorem BPost.cut {W W':World} {R:BR} {e:Ending} (h:BPost W R e W'):∃ a c,e = .returned (.tuple #[.slice a R.2.length c,errno (R.1:Nat)])∧DSl W' (.slice a R.2.length c) R.2∧Mod Nowhere W W':=by
 obtain ⟨v,rfl,hd,hm⟩:=h;obtain ⟨a,c,rfl,-⟩:=id hd.src;exact ⟨a,c,rfl,hd,hm⟩
theorem BPost.from {W W1 W':World} {R:BR} {e:Ending} (hm:Mod Nowhere W W1) (h:BPost W1 R e W'):BPost W R e W':=by
 obtain ⟨v,rfl,hd,hm2⟩:=h;exact ⟨v,rfl,hd,hm.trans hm2⟩
theorem mac1 {W:World} {u:Value} (hk:Src W kv key) (bk:Bytes key) (hu:Src W u d) (hn:d.length≤1000000) (bd:Bytes d):Calls Tryz.prog 87 #[kv,.slice (some ⟨W.heap.size,0,none⟩) 1 1] (W.alloc (.cells #[u] 22)) (BPost W (macR key d)):=by
 have hma:Mod Nowhere W (W.alloc (.cells #[u] 22)):=(Mod.refl _ W).alloc _;refine (tMac_ok (xs:=[(u,d)]) (hk.fresh hma) bk (sl_whole (sz:=1) (n:=1) (Blk.new W [u] 22) rfl (by decide)) ?_ (show 1≤1000 by decide) (by simp [cat]) hn bd).mono fun e w' h=>h.from hma;intro x hx;simp only [List.mem_cons,List.not_mem_nil,or_false] at hx;rw [hx];exact hu.fresh hma
theorem mac2 {W:World} {u t:Value} {c:List Nat} (hk:Src W kv key) (bk:Bytes key) (hu:Src W u c) (ht:Src W t d) (hn:(c ++ d).length≤1000000) (bd:Bytes (c ++ d)):Calls Tryz.prog 87 #[kv,.slice (some ⟨W.heap.size,0,none⟩) 2 2] (W.alloc (.cells #[u,t] 22)) (BPost W (macR key (c ++ d))):=by
 have hma:Mod Nowhere W (W.alloc (.cells #[u,t] 22)):=(Mod.refl _ W).alloc _;refine (tMac_ok (xs:=[(u,c),(t,d)]) (hk.fresh hma) bk (sl_whole (sz:=1) (n:=2) (Blk.new W [u,t] 22) rfl (by decide)) ?_ (show 2≤1000 by decide) (by simp [cat]) hn bd).mono fun e w' h=>h.from hma;intro x hx;simp only [List.mem_cons,List.not_mem_nil,or_false] at hx;rcases hx with rfl | rfl
 ·exact hu.fresh hma
 ·exact ht.fresh hma
theorem join2 {W:World} {u t:Value} {c:List Nat} (hu:Src W u c) (ht:Src W t d) (hn:(c ++ d).length≤1000000) :
  Calls Tryz.prog 90 #[.slice (some ⟨W.heap.size,0,none⟩) 2 2] (W.alloc (.cells #[u,t] 22)) fun e w'=>∃ v,e = .returned v∧DSl w' v (c ++ d)∧Mod Nowhere W w':=by
 have hma:Mod Nowhere W (W.alloc (.cells #[u,t] 22)):=(Mod.refl _ W).alloc _;have hc:cat [(u,c),(t,d)] = c ++ d:=by simp [cat]
 have:=oJoin_ok (xs:=[(u,c),(t,d)]) (sl_whole (sz:=1) (n:=2) (Blk.new W [u,t] 22) rfl (by decide)) (by
  intro x hx;simp only [List.mem_cons,List.not_mem_nil,or_false] at hx;rcases hx with rfl | rfl
  ·exact hu.fresh hma
  ·exact ht.fresh hma) (show 2≤1000 by decide) (by rw [hc];omega)
 rw [hc] at this;refine this.mono ?_;rintro e w' ⟨v',rfl,ho,hm⟩;exact ⟨v',rfl,DSl.own ho rfl,hma.trans hm⟩
variable {x : RqV}
theorem tToken_ok (hk:Src w kv key) (bk:Bytes key) (h:RqAt w x):Calls Tryz.prog 24 #[kv,.agg x.cells.toArray] w (BPost w (tknR key x.r)):=by
 obtain ⟨a1,c1,a2,c2,a3,c3,a4,c4,a6,c6,a7,c7,e1,e2,e3,e4,e6,e7,ec⟩:=h.cut;have hm0:Mod Nowhere w (w.alloc (.cells x.cells.toArray 24)):=(Mod.refl _ w).alloc _;have hbx:=rq_box (w:=w) x.cells;have hC:=tEncode_ok (h.fresh hm0);rw [ec] at hm0 hbx hC ⊢;obtain ⟨y0,y1,y2,y3,y4,y5,y6,y7,yl⟩:=rq_cells (hbx _ (Mod.refl _ _));generalize x.r.act = act at *;generalize x.r.prv = prv at *;generalize x.r.dom.length = n1 at *;generalize x.r.pac.length = n2 at *;generalize x.r.app.length = n3 at *;generalize x.r.dst.length = n4 at *;generalize x.r.par.length = n6 at *;generalize x.r.hsh.length = n7 at *;by_cases hz:x.r.chk = 0
 ·have hR:tknR key x.r = macR key x.r.enc:=by unfold tknR;rw [if_pos hz]
  have hE:encR x.r = (0,x.r.enc):=by unfold encR;rw [if_pos hz]
  rw [hR];rw [hE] at hC;have hok:=Rq.chk_ok hz;have hM:=fun W u (hm:Mod Nowhere w W) (hu:Src W u x.r.enc)=>mac1 (hk.fresh hm) bk hu (by have:=Rq.enc_len hok;omega) (Rq.enc_by hok h.by);obtain ⟨ka,kc,rfl,-⟩:=hk;have hfin:∀ W e W',Mod Nowhere w W→BPost W (macR key x.r.enc) e W'→BPost w (macR key x.r.enc) e W':=fun W e W' hm hb=>hb.from hm;generalize BPost w (macR key x.r.enc) = Q at *;generalize macR key x.r.enc = MR at *;generalize x.r.enc = E at *;generalize key.length = kn at *;clear e1 e2 e3 e4 e6 e7 ec hz hR hE hok h bk hbx;refine hid4 ?_ hm0 hC hM hfin;clear hm0 hC hM hfin;intro hm0 hC hM hfin
  go_enter Tryz.func24,Tryz.ntmps24;go_wp2_with fail;refine hC.out.mono ?_;intro e w1 hb;obtain ⟨a,c,rfl,hd,hm1⟩:=hb.cut;have hmw:=hm0.out.trans hm1;have hM1:=hM.out w1 _ hmw hd.src;clear y0 y1 y2 y3 y4 y5 y6 y7 yl hb;dsimp only at hd hM1 ⊢;generalize E.length = en at *;refine hid4 ?_ hd hm1 hmw hM1;clear hd hm1 hmw hM1;intro hd hm1 hmw hM1;go_wp2_with fail;refine hM1.out.mono ?_;intro e w2 hb;have hf:=hfin.out w1 e w2 hmw.out hb;obtain ⟨a,c,rfl,hd2,hm2⟩:=hb.cut;clear hb;refine hid3 ?_ hd2 hm2 hf;clear hd2 hm2 hf;intro hd2 hm2 hf;go_wp2
  all_goals exact hf.out
 ·have hR:tknR key x.r = (x.r.chk,[]):=by unfold tknR;rw [if_neg hz]
  have hE:encR x.r = (x.r.chk,[]):=by unfold encR;rw [if_neg hz]
  rw [hR];rw [hE] at hC;have hz2:((x.r.chk:Int) != 0) = true:=by simp;exact hz
  have hfin:∀ W,Mod Nowhere w W→BPost w (x.r.chk,[]) (.returned (.tuple #[.slice none 0 0,errno (x.r.chk:Nat)])) W:=fun W hm=>⟨_,rfl,DSl.nil _,hm⟩;obtain ⟨ka,kc,rfl,-⟩:=hk;generalize BPost w (x.r.chk,[]) = Q at *;generalize x.r.chk = ck at *;generalize key.length = kn at *;clear e1 e2 e3 e4 e6 e7 ec hz hR hE h bk hbx;refine hid3 ?_ hm0 hC hfin;clear hm0 hC hfin;intro hm0 hC hfin;go_enter Tryz.func24,Tryz.ntmps24;go_wp2_with fail;refine hC.out.mono ?_;intro e w1 hb;obtain ⟨a,c,rfl,hd,hm1⟩:=hb.cut;have hf:=hfin.out w1 (hm0.out.trans hm1);clear y0 y1 y2 y3 y4 y5 y6 y7 yl hb
  dsimp only at hd ⊢;refine hid3 ?_ hd hm1 hf;clear hd hm1 hf;intro hd hm1 hf;go_wp2
  all_goals exact hf.out
theorem tPermits_ok {dv:Value} (hk:Src w kv key) (bk:Bytes key) (h:RqAt w x) (hd:Src w dv d) (bd:Bytes d):Calls Tryz.prog 31 #[kv,.agg x.cells.toArray,dv] w fun e w'=>e = .returned (.bool (decide ((tknR key x.r).1 = 0∧(tknR key x.r).2 = d)))∧Mod Nowhere w w':=by
 obtain ⟨a1,c1,a2,c2,a3,c3,a4,c4,a6,c6,a7,c7,e1,e2,e3,e4,e6,e7,ec⟩:=h.cut;have hm0:Mod Nowhere w (w.alloc (.cells x.cells.toArray 24)):=(Mod.refl _ w).alloc _;have hbx:=rq_box (w:=w) x.cells;have hC:=tToken_ok (hk.fresh hm0) bk (h.fresh hm0);have bt:=tknR_by key x.r;rw [ec] at hm0 hbx hC ⊢;obtain ⟨y0,y1,y2,y3,y4,y5,y6,y7,yl⟩:=rq_cells (hbx _ (Mod.refl _ _));generalize x.r.act = act at *;generalize x.r.prv = prv at *;generalize x.r.dom.length = n1 at *;generalize x.r.pac.length = n2 at *;generalize x.r.app.length = n3 at *;generalize x.r.dst.length = n4 at *
 generalize x.r.par.length = n6 at *;generalize x.r.hsh.length = n7 at *;generalize tknR key x.r = R at *;obtain ⟨er,l⟩:=R;dsimp only at *;have hE:=fun W u (hm:Mod Nowhere w W) (hu:Src W u l)=>bEqual_ok hu (hd.fresh hm) bt bd;obtain ⟨ka,kc,rfl,-⟩:=hk;obtain ⟨da,dc,rfl,-⟩:=hd;generalize key.length = kn at *;generalize d.length = dn at *;clear e1 e2 e3 e4 e6 e7 ec h bk hbx bt bd;obtain ⟨qv,hq⟩:∃ qv,decide (er = 0∧l = d) = qv:=⟨_,rfl⟩;rw [hq];refine hid4 ?_ hm0 hC hE hq;clear hm0 hC hE hq;intro hm0 hC hE hq;go_enter Tryz.func31,Tryz.ntmps31;go_wp2_with fail;refine hC.out.mono ?_
 intro e w1 hb;obtain ⟨a,c,rfl,hd1,hm1⟩:=hb.cut;have hmw:=hm0.out.trans hm1;have hE1:=hE.out w1 _ hmw hd1.src;clear y0 y1 y2 y3 y4 y5 y6 y7 yl hb;dsimp only at hd1 hE1 ⊢;by_cases h0:er = 0
 ·subst h0;have hq2:decide (l = d) = qv:=by rw [← hq.out];exact decide_eq_decide.2 ⟨fun q=>⟨rfl,q⟩,fun q=>q.2⟩
  rw [hq2] at hE1;clear hq hq2;generalize l.length = ln at *;refine hid4 ?_ hd1 hm1 hmw hE1;clear hd1 hm1 hmw hE1;intro hd1 hm1 hmw hE1;go_wp2_with fail;refine hE1.out.mono ?_;rintro e w2 ⟨rfl,hm2⟩;have hmF:=hmw.out.trans hm2;refine hid2 ?_ hmF hm2;clear hmF hm2;intro hmF hm2;go_wp2;go_ret;exact ⟨rfl,hmF.out⟩
 ·have h0b:((er:Int) == 0) = false:=by simp;exact h0
  have hq2:qv = false:=by rw [← hq.out];exact decide_eq_false (fun q=>h0 q.1)
  clear hq;subst hq2;generalize l.length = ln at *;refine hid4 ?_ hd1 hm1 hmw hE1;clear hd1 hm1 hmw hE1;intro hd1 hm1 hmw hE1;go_wp2;go_ret;exact ⟨rfl,hmw.out⟩
end
section
variable {w : World} {kv v : Value} {key d : List Nat} {x : RqV}
theorem tReceipt_ok (hk:Src w kv key) (bk:Bytes key) (h:RqAt w x) (count:Int):Calls Tryz.prog 26 #[kv,.int .i64 count,.agg x.cells.toArray] w (BPost w (recR key count x.r)):=by
 obtain ⟨a1,c1,a2,c2,a3,c3,a4,c4,a6,c6,a7,c7,e1,e2,e3,e4,e6,e7,ec⟩:=h.cut;have hm0:Mod Nowhere w (w.alloc (.cells x.cells.toArray 24)):=(Mod.refl _ w).alloc _;have hbx:=rq_box (w:=w) x.cells;have hC:=tEncode_ok (h.fresh hm0);rw [ec] at hm0 hbx hC ⊢;obtain ⟨y0,y1,y2,y3,y4,y5,y6,y7,yl⟩:=rq_cells (hbx _ (Mod.refl _ _));generalize x.r.act = act at *;generalize x.r.prv = prv at *;generalize x.r.dom.length = n1 at *;generalize x.r.pac.length = n2 at *;generalize x.r.app.length = n3 at *;generalize x.r.dst.length = n4 at *;generalize x.r.par.length = n6 at *;generalize x.r.hsh.length = n7 at *;by_cases hz:x.r.chk = 0
 ·have hE:encR x.r = (0,x.r.enc):=by unfold encR;rw [if_pos hz]
  rw [hE] at hC;by_cases hr:count < 1 ∨ 2147483647 < count
  ·have hR:recR key count x.r = (2,[]):=by unfold recR;rw [if_neg (fun q=>q hz),if_pos hr]
   rw [hR];have hfin:∀ W,Mod Nowhere w W→BPost w (2,[]) (.returned (.tuple #[.slice none 0 0,errno 2])) W:=fun W hm=>⟨_,rfl,DSl.nil _,hm⟩;obtain ⟨ka,kc,rfl,-⟩:=hk;generalize BPost w (2,[]) = Q at *;generalize x.r.enc = E at *;generalize key.length = kn at *;clear e1 e2 e3 e4 e6 e7 ec hz hR hE h bk hbx;refine hid3 ?_ hm0 hC hfin;clear hm0 hC hfin;intro hm0 hC hfin;have hr2:count < 1 ∨ (¬ count < 1∧2147483647 < count):=by omega
   clear hr;rcases hr2 with hr | ⟨hr,hr3⟩
   all_goals
    go_enter Tryz.func26,Tryz.ntmps26;go_wp2_with fail;refine hC.out.mono ?_;intro e w1 hb;obtain ⟨a,c,rfl,hd,hm1⟩:=hb.cut;have hf:=hfin.out w1 (hm0.out.trans hm1);clear y0 y1 y2 y3 y4 y5 y6 y7 yl hb;dsimp only at hd ⊢;generalize E.length = en at *;refine hid3 ?_ hd hm1 hf;clear hd hm1 hf;intro hd hm1 hf;go_wp2
    all_goals exact hf.out
  ·obtain ⟨n,hn⟩:∃ n:Nat,count = n:=⟨count.toNat,by omega⟩;subst hn;have g1:¬ (n:Int) < 1:=fun e=>hr (.inl e);have g2:¬ (2147483647:Int) < (n:Int):=fun e=>hr (.inr e);have hn32:n < 4294967296:=by omega
   have hok:=Rq.chk_ok hz;have hP:=fun W=>oPut_ok W hn32
   have hcl:(Cy.by4 n ++ x.r.enc).length≤1000000:=by
    have:=Rq.enc_len hok;rw [List.length_append,by_len];omega
   have hM:=fun W u t (hm:Mod Nowhere w W) (hu:Src W u (Cy.by4 n)) (ht:Src W t x.r.enc)=>mac2 (hk.fresh hm) bk hu ht hcl (bytes_append (bytes_by4 n) (Rq.enc_by hok h.by));have hRR:recR key (n:Int) x.r = if key.length = 16 then (0,Cy.by4 n ++ Cy.mac key Cy.zeros (Cy.by4 n ++ x.r.enc)) else (19,[]):=by unfold recR;rw [if_neg (fun q=>q hz),if_neg hr,Int.toNat_natCast]
   rw [hRR];unfold macR at hM;have hs4:∀ W W':World,Blk W W'.heap.size (u8s (Cy.by4 n)) 5→DSl W (.slice (some ⟨W'.heap.size,0,none⟩) 4 4) (Cy.by4 n):=fun W W' hb=>sl_whole (sz:=1) (n:=4) hb rfl (by decide);have hml:=Cy.mac_len (key:=key) (iv:=Cy.zeros) (d:=Cy.by4 n ++ x.r.enc) rfl;by_cases h16:key.length = 16
   ·rw [if_pos h16];simp only [if_pos h16] at hM;have hJ:=fun W u t (hu:Src W u (Cy.by4 n)) (ht:Src W t (Cy.mac key Cy.zeros (Cy.by4 n ++ x.r.enc)))=>join2 hu ht (by rw [List.length_append,by_len,hml];decide);obtain ⟨ka,kc,rfl,-⟩:=hk;rw [h16] at hM ⊢;have hfin:∀ W r,DSl W r (Cy.by4 n ++ Cy.mac key Cy.zeros (Cy.by4 n ++ x.r.enc))→Mod Nowhere w W→BPost w (0,Cy.by4 n ++ Cy.mac key Cy.zeros (Cy.by4 n ++ x.r.enc)) (.returned (.tuple #[r,errno 0])) W:=fun W r hd hm=>⟨r,rfl,hd,hm⟩;generalize BPost w (0,Cy.by4 n ++ Cy.mac key Cy.zeros (Cy.by4 n ++ x.r.enc)) = Q at *;generalize Cy.mac key Cy.zeros (Cy.by4 n ++ x.r.enc) = MQ at *
    generalize x.r.enc = E at *;generalize Cy.by4 n = B4 at *;clear e1 e2 e3 e4 e6 e7 ec hz hE h bk hbx hcl hok hRR h16 hr hn32;refine hid8 ?_ hm0 hC hfin hP hM hs4 hml hJ;clear hm0 hC hfin hP hM hs4 hml hJ;intro hm0 hC hfin hP hM hs4 hml hJ;go_enter Tryz.func26,Tryz.ntmps26;go_wp2_with fail;refine hC.out.mono ?_;intro e w1 hb;obtain ⟨a,c,rfl,hd,hm1⟩:=hb.cut;have hmw:=hm0.out.trans hm1;clear y0 y1 y2 y3 y4 y5 y6 y7 yl hb;dsimp only at hd ⊢;generalize hen:E.length = en at *;refine hid4 ?_ hd hm1 hmw hen;clear hd hm1 hmw hen;intro hd hm1 hmw hen;go_wp2_with fail;refine (hP.out _).mono ?_;rintro e w2 ⟨rfl,hb2,hm2⟩
    have hd2:=hs4.out _ _ hb2;have hmx:=hmw.out.trans hm2;have hM2:=hM.out w2 _ _ hmx hd2.src (hd.out.src.fresh hm2);clear hb2 hM hP;refine hid4 ?_ hd2 hm2 hmx hM2;clear hd2 hm2 hmx hM2;intro hd2 hm2 hmx hM2;go_wp2_with fail;refine hM2.out.mono ?_;intro e w3 hb;obtain ⟨a3,c3,rfl,hd3,hm3⟩:=hb.cut;dsimp only at hd3 ⊢;have hJ3:=hJ.out w3 _ _ (hd2.out.src.fresh hm3) hd3.src;rw [hml.out] at hd3 hJ3 ⊢;have hmy:=hmx.out.trans hm3;clear hb hJ hM2;refine hid4 ?_ hd3 hm3 hmy hJ3;clear hd3 hm3 hmy hJ3;intro hd3 hm3 hmy hJ3;go_wp2_with fail;refine hJ3.out.mono ?_;rintro e w4 ⟨r,rfl,hd4,hm4⟩;have hf:=hfin.out w4 r hd4 (hmy.out.trans hm4)
    refine hid3 ?_ hd4 hm4 hf;clear hd4 hm4 hf;intro hd4 hm4 hf;go_wp2
    all_goals exact hf.out
   ·rw [if_neg h16];simp only [if_neg h16] at hM;obtain ⟨ka,kc,rfl,-⟩:=hk;have hfin:∀ W,Mod Nowhere w W→BPost w (19,[]) (.returned (.tuple #[.slice none 0 0,errno 19])) W:=fun W hm=>⟨_,rfl,DSl.nil _,hm⟩;generalize BPost w (19,[]) = Q at *;clear hml hRR h16 hcl hz hr hE e1 e2 e3 e4 e6 e7 ec h bk hbx hok hn32;generalize x.r.enc = E at *;generalize Cy.by4 n = B4 at *;generalize key.length = kn at *;refine hid6 ?_ hm0 hC hfin hP hM hs4;clear hm0 hC hfin hP hM hs4;intro hm0 hC hfin hP hM hs4;go_enter Tryz.func26,Tryz.ntmps26;go_wp2_with fail;refine hC.out.mono ?_;intro e w1 hb;obtain ⟨a,c,rfl,hd,hm1⟩:=hb.cut
    have hmw:=hm0.out.trans hm1;clear y0 y1 y2 y3 y4 y5 y6 y7 yl hb;dsimp only at hd ⊢;generalize hen:E.length = en at *;refine hid4 ?_ hd hm1 hmw hen;clear hd hm1 hmw hen;intro hd hm1 hmw hen;go_wp2_with fail;refine (hP.out _).mono ?_;rintro e w2 ⟨rfl,hb2,hm2⟩;have hd2:=hs4.out _ _ hb2;have hmx:=hmw.out.trans hm2;have hM2:=hM.out w2 _ _ hmx hd2.src (hd.out.src.fresh hm2);clear hb2 hM hP;refine hid4 ?_ hd2 hm2 hmx hM2;clear hd2 hm2 hmx hM2;intro hd2 hm2 hmx hM2;go_wp2_with fail;refine hM2.out.mono ?_;intro e w3 hb;obtain ⟨a3,c3,rfl,hd3,hm3⟩:=hb.cut;have hf:=hfin.out w3 (hmx.out.trans hm3)
    dsimp only at hd3 ⊢;clear hb hM2;refine hid3 ?_ hd3 hm3 hf;clear hd3 hm3 hf;intro hd3 hm3 hf;go_wp2
    all_goals exact hf.out
 ·have hR:recR key count x.r = (x.r.chk,[]):=by unfold recR;rw [if_pos hz]
  have hE:encR x.r = (x.r.chk,[]):=by unfold encR;rw [if_neg hz]
  rw [hR];rw [hE] at hC;have hz2:((x.r.chk:Int) != 0) = true:=by simp;exact hz
  have hfin:∀ W,Mod Nowhere w W→BPost w (x.r.chk,[]) (.returned (.tuple #[.slice none 0 0,errno (x.r.chk:Nat)])) W:=fun W hm=>⟨_,rfl,DSl.nil _,hm⟩;obtain ⟨ka,kc,rfl,-⟩:=hk;generalize BPost w (x.r.chk,[]) = Q at *;generalize x.r.chk = ck at *;generalize key.length = kn at *;clear e1 e2 e3 e4 e6 e7 ec hz hR hE h bk hbx;refine hid3 ?_ hm0 hC hfin;clear hm0 hC hfin;intro hm0 hC hfin;go_enter Tryz.func26,Tryz.ntmps26;go_wp2_with fail;refine hC.out.mono ?_;intro e w1 hb;obtain ⟨a,c,rfl,hd,hm1⟩:=hb.cut;have hf:=hfin.out w1 (hm0.out.trans hm1);clear y0 y1 y2 y3 y4 y5 y6 y7 yl hb
  dsimp only at hd ⊢;refine hid3 ?_ hd hm1 hf;clear hd hm1 hf;intro hd hm1 hf;go_wp2
  all_goals exact hf.out
theorem tConfirms_ok {dv:Value} (hk:Src w kv key) (bk:Bytes key) (h:RqAt w x) (hd:Src w dv d) (bd:Bytes d) (hdl:d.length≤1099511627776):Calls Tryz.prog 28 #[kv,.agg x.cells.toArray,dv] w fun e w'=>e = .returned (.tuple #[.int .i64 ((conR key x.r d).1:Nat),.bool (conR key x.r d).2])∧Mod Nowhere w w':=by
 obtain ⟨a1,c1,a2,c2,a3,c3,a4,c4,a6,c6,a7,c7,e1,e2,e3,e4,e6,e7,ec⟩:=h.cut;have hm0:Mod Nowhere w (w.alloc (.cells x.cells.toArray 24)):=(Mod.refl _ w).alloc _;have hbx:=rq_box (w:=w) x.cells;have hC:=fun W (hm:Mod Nowhere w W)=>tReceipt_ok (hk.fresh hm) bk (h.fresh hm) (Cy.num4 d 0:Nat);have bt:=recR_by key (Cy.num4 d 0:Nat) x.r;have hE:=fun W u (hm:Mod Nowhere w W) (hu:Src W u (recR key (Cy.num4 d 0:Nat) x.r).2)=>bEqual_ok hu (hd.fresh hm) bt bd;rw [ec] at hm0 hbx hC ⊢;obtain ⟨y0,y1,y2,y3,y4,y5,y6,y7,yl⟩:=rq_cells (hbx _ (Mod.refl _ _))
 generalize x.r.act = act at *;generalize x.r.prv = prv at *;generalize x.r.dom.length = n1 at *;generalize x.r.pac.length = n2 at *;generalize x.r.app.length = n3 at *;generalize x.r.dst.length = n4 at *;generalize x.r.par.length = n6 at *;generalize x.r.hsh.length = n7 at *;by_cases h4:d.length < 4
 ·have hR:conR key x.r d = (0,false):=by unfold conR;rw [if_pos h4]
  rw [hR];obtain ⟨ka,kc,rfl,-⟩:=hk;obtain ⟨da,dc,rfl,-⟩:=hd;have h4i:(d.length:Int) < 4:=by omega
  generalize d.length = dn at *;generalize key.length = kn at *;clear e1 e2 e3 e4 e6 e7 ec h bk hbx bt bd hC hE hR;replace hm0:=Lib.hid hm0;go_enter Tryz.func28,Tryz.ntmps28;go_wp2
  go_ret2
  exact ⟨rfl,hm0.out⟩
 ·have hG:=fun W u (hm:Mod Nowhere w W) (hu:Src W u (d.take 4))=>oGet_ok hu (bytes_mem.2 fun y hy=>bytes_mem.1 bd y (List.mem_of_mem_take hy)) (by rw [List.length_take];omega);rw [num_num4 (by rw [List.length_take];omega),num4_take d (by omega)] at hG;have hR:conR key x.r d = if (recR key (Cy.num4 d 0:Nat) x.r).1 = 0∧(recR key (Cy.num4 d 0:Nat) x.r).2 = d then (Cy.num4 d 0,true) else (0,false):=by unfold conR;rw [if_neg h4]
  rw [hR];have hT:=fun W a c (hs:Src W (.slice a d.length c) d)=>hs.takeK (k:=4) (by omega);obtain ⟨ka,kc,rfl,-⟩:=hk;obtain ⟨da,dc,e9,d1,d2,-⟩:=id hd;subst e9;have hD0:=fun W (hm:Mod Nowhere w W)=>hT W da dc (hd.fresh hm);have h4i:¬ (d.length:Int) < 4:=by omega
  have h4j:(4:Int)≤(d.length:Int):=by omega
  generalize recR key (Cy.num4 d 0:Nat) x.r = RR at *;obtain ⟨er,l⟩:=RR;dsimp only at *;obtain ⟨CR,hCR⟩:∃ CR,(if er = 0∧l = d then (Cy.num4 d 0,true) else (0,false)) = CR:=⟨_,rfl⟩;rw [hCR];generalize Cy.num4 d 0 = nv at *;generalize key.length = kn at *;generalize d.length = dn at *;unfold maxLen at d2;have h4d:4≤dn:=by omega
  clear e1 e2 e3 e4 e6 e7 ec h bk bt bd hR hT hd hdl;refine hid7 ?_ hm0 hC hE hG hCR hD0 hbx;clear hm0 hC hE hG hCR hD0 hbx;intro hm0 hC hE hG hCR hD0 hbx;go_enter Tryz.func28,Tryz.ntmps28;go_wp2_with fail;refine (hG.out _ _ hm0.out (hD0.out _ hm0.out)).mono ?_;rintro e w1 ⟨rfl,rfl⟩;go_wp2_with fail;refine (hC.out _ hm0.out).mono ?_;intro e w2 hb;obtain ⟨a,c,rfl,hd1,hm1⟩:=hb.cut;have hmw:=hm0.out.trans hm1;have hE1:=hE.out w2 _ hmw hd1.src;clear y0 y1 y2 y3 y4 y5 y6 y7 yl hb;dsimp only at hd1 hE1 ⊢;by_cases h0:er = 0
  ·subst h0;by_cases hl:l = d
   ·have hcr:CR = (nv,true):=by rw [← hCR.out,if_pos ⟨rfl,hl⟩]
    rw [decide_eq_true hl] at hE1;clear hCR hl;subst hcr;generalize l.length = ln at *;refine hid4 ?_ hd1 hm1 hmw hE1;clear hd1 hm1 hmw hE1;intro hd1 hm1 hmw hE1;go_wp2_with fail;refine hE1.out.mono ?_;rintro e w3 ⟨rfl,hm2⟩;have hmF:=hmw.out.trans hm2;refine hid2 ?_ hmF hm2;clear hmF hm2;intro hmF hm2;go_wp2
    go_ret2
    exact ⟨rfl,hmF.out⟩
   ·have hcr:CR = (0,false):=by rw [← hCR.out,if_neg (fun q=>hl q.2)]
    rw [decide_eq_false hl] at hE1;clear hCR hl;subst hcr;generalize l.length = ln at *;refine hid4 ?_ hd1 hm1 hmw hE1;clear hd1 hm1 hmw hE1;intro hd1 hm1 hmw hE1;go_wp2_with fail;refine hE1.out.mono ?_;rintro e w3 ⟨rfl,hm2⟩;have hmF:=hmw.out.trans hm2;refine hid2 ?_ hmF hm2;clear hmF hm2;intro hmF hm2;go_wp2
    go_ret2
    exact ⟨rfl,hmF.out⟩
  ·have h0b:((er:Int) != 0) = true:=by simp;exact h0
   have hcr:CR = (0,false):=by rw [← hCR.out,if_neg (fun q=>h0 q.1)]
   clear hCR;subst hcr;generalize l.length = ln at *;refine hid4 ?_ hd1 hm1 hmw hE1;clear hd1 hm1 hmw hE1;intro hd1 hm1 hmw hE1;go_wp2
   go_ret2
   exact ⟨rfl,hmw.out⟩
end
end Go.Proofs.YtanioleniadhoaaGreat
