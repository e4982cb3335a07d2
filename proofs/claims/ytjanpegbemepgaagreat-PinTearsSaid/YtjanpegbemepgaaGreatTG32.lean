/-
  The PINs: all definitions, as a map.
-/
import Derived.Test.YtjanpegbemepgaaGreatTG31
set_option linter.unusedVariables false
set_option linter.unusedSimpArgs false
set_option maxRecDepth 100000
namespace Go.Proofs.YtjanpegbemepgaaGreat
open Go.RowKit
open Jn Vn
attribute [local go_sem] Oper.semAt_some
def PEl (w:World):Option PinD→Option Value→Prop
 | none,none=>True
 | some d,some v=>∃ u1 u2,v = pinV d u1 u2∧DSl w u1 d.value∧DSl w u2 d.code
 | _,_=>False
theorem PEl.mod {S:Nat→Prop} {w w':World} {a:Option PinD} {v:Option Value} (h:PEl w a v) (hm:Mod S w w') (hS:Shun S w 5):PEl w' a v:=by
 cases a with
 | none=>cases v with
  | none=>trivial
  | some v=>exact h.elim
 | some d=>cases v with
  | none=>exact h.elim
  | some v=>obtain ⟨u1,u2,e,h1,h2⟩:=h;exact ⟨u1,u2,e,h1.mod hm hS,h2.mod hm hS⟩
structure PMap (w:World) (b:Nat) (G:Nat→Option PinD):Prop where
 ex:∃ g,NMap w b g∧∀ k,PEl w (G k) (g k)
theorem NMap.noCells {w:World} {b:Nat} {g:Nat→Option Value} (h:NMap w b g) {cs:List Value} {T:TypeId}:¬ Blk w b cs T:=by
 obtain ⟨D,⟨es,clock,h1,_⟩,_⟩:=h.ex;intro hb;unfold Blk at hb;rw [h1] at hb
 cases hb
theorem PMap.fresh {w w':World} {b:Nat} {G:Nat→Option PinD} (h:PMap w b G) (hm:Mod Nowhere w w'):PMap w' b G:=by
 obtain ⟨g,h1,h2⟩:=h.ex;exact ⟨g,h1.mod hm id,fun k=>(h2 k).mod hm (Shun.none _ _)⟩
theorem PMap.lt {w:World} {b:Nat} {G:Nat→Option PinD} (h:PMap w b G):b < w.heap.size:=h.ex.elim fun _ h=>h.1.lt
def upto (F:Items) (k:Nat):Nat→Option PinD:=fun id=>if id < k then pget F id else none
theorem upto_one (F:Items) (id:Nat):upto F 1 id = none:=by
 unfold upto pget;by_cases h:id < 1
 ·rw [if_pos h,if_neg (by omega)]
 ·rw [if_neg h]
theorem upto_nine (F:Items):upto F 9 = pget F:=by
 funext id
 unfold upto;by_cases h:id < 9
 ·rw [if_pos h]
 ·rw [if_neg h];unfold pget;rw [if_neg (by omega)]
theorem upto_succ (F:Items) (k id:Nat):upto F (k + 1) id = if id = k then pget F k else upto F k id:=by
 unfold upto;by_cases e:id = k
 ·subst e;rw [if_pos (by omega),if_pos rfl]
 ·rw [if_neg e];by_cases h:id < k
  ·rw [if_pos h,if_pos (by omega)]
  ·rw [if_neg h,if_neg (by omega)]
theorem pget_none {F:Items} (hI:PInvF F) {k:Nat} (h:F (16 + k) = none):pget F k = none:=by
 unfold pget;rw [h]
 split <;> rfl
theorem item_pin {F:Items} (hI:PInvF F) {k:Nat} {b:List Nat} (h1:1≤k) (h8:k≤8) (h:F (16 + k) = some b):∃ d,POk d∧d.id = k∧b = pinB d∧pget F k = some d:=by
 rcases hI.pin _ _ h with ⟨d,g1,g2,g3⟩ | ⟨j,t,u,g1,-,g3,-⟩
 ·have e:d.id = k:=by omega
  subst e;exact ⟨d,g1,rfl,g3,pget_of g1 (by rw [h,g3])⟩
 ·omega
set_option maxHeartbeats 4000000 in
theorem pinAll_ok {w:World} {pb:Nat} {A:VAt} {m:Mem} {s:VSt} (hp:PnAt w pb A.vb) (h:VRep w A m s) (hxn:s.l.length≤1000000) (hI:PInvF (view s)) :
  Calls Tryz.prog 34 #[ptr pb] w fun e w'=>∃ b,e = .returned (.map (some b))∧PMap w' b (pget (view s))∧Mod Nowhere w w':=by
 have hG:∀ W,Mod Nowhere w W→∀ k:Nat,k≤8→Calls Tryz.prog 67 #[ptr A.vb,.int .i64 ((16 + k:Nat):Int)] W (GetPost W (view s (16 + k))):=fun W hm k hk=>by
  have:=vGet_rep (h.fresh hm) hxn ((16 + k:Nat):Int) (by omega) (by omega);rw [at_nat] at this;exact this
 have hmm:=run_makeMap (P:=Tryz.prog) 80 w;have hmd0:Mod Nowhere w (w.alloc (.map #[] 0)):=(Mod.refl _ w).alloc _;have hmp0:PMap (w.alloc (.map #[] 0)) w.heap.size (upto (view s) 1):=⟨_,NMap.made w,fun k=>by rw [upto_one];trivial⟩
 have hpc:∀ W,Mod Nowhere w W→W.cell? ⟨pb,0,none⟩ = some (ptr A.vb)∧pb < W.heap.size:=fun W hm=>by
  have c0:=Blk.cell (hp.fresh hm) 0;simp only [List.getElem?_cons_zero] at c0;exact ⟨c0,Blk.lt (hp.fresh hm)⟩
 obtain ⟨mb,hmb⟩:∃ mb,w.heap.size = mb:=⟨_,rfl⟩;have hmb':w.heap.size≤mb:=by omega
 rw [hmb] at hmm hmp0;generalize w.alloc (.map #[] 0) = w1 at hmm hmp0 hmd0;refine hid6 ?_ hmb hmp0 hmd0 hG hpc h;clear hmb hmp0 hmd0 hG hpc h;intro hmb hmp0 hmd0 hG hpc h;go_enter Tryz.func34,Tryz.ntmps34;go_wp2;clear hmm
 go_loopw [4] (fun i wr=>∃ k:Nat,1≤k∧k≤9∧i = .int .i64 k∧PMap wr mb (upto (view s) k)∧Mod Nowhere w wr) (fun i _=>9 - (RowKit.intOf i).toNat)
 case atStart=>exact ⟨1,by omega,by omega,rfl,hmp0.out,hmd0.out⟩
 case round =>
  obtain ⟨k,hk1,hk,rfl,hmp,hm⟩:=hrel;by_cases hlt:k≤8
  ·have hg1:=hG.out wr hm k hlt;obtain ⟨c0,cl⟩:=hpc.out wr hm;have hadd:IntKind.i64.wrap (16 + (k:Int)) = ((16 + k:Nat):Int):=by rw [IntKind.wrap_i64];omega
   cases hF:view s (16 + k) with
   | none =>
    rw [hF] at hg1
    have hup:upto (view s) (k + 1) = upto (view s) k:=by
     funext id
     rw [upto_succ,pget_none hI hF]
     split
     ·rename_i e;subst e;unfold upto;rw [if_neg (by omega)]
     ·rfl
    unfold GetPost at hg1;refine hid5 ?_ hg1 hmp hm hF hup;clear hg1 hmp hm hF hup;intro hg1 hmp hm hF hup;go_wp2_with fail;refine (hg1.out).mono ?_;rintro e w2 ⟨v,rfl,ho,hm2⟩;obtain ⟨va,vc,rfl,-⟩:=owns_form ho;refine hid2 ?_ ho hm2;clear ho hm2;intro ho hm2;go_wp2;go_roundw
    case rel=>exact ⟨k + 1,by omega,by omega,by go_num,by rw [hup.out];exact hmp.out.fresh hm2.out,hm.out.trans hm2.out⟩
    case measure=>simp [RowKit.intOf];omega
   | some b =>
    obtain ⟨d,hd,hid,rfl,hpg⟩:=item_pin hI hk1 hlt hF;rw [hF] at hg1;unfold GetPost at hg1;have hln:5≤(pinB d).length:=by rw [pinB_len];omega
    have hD:=fun W v (hv:DSl W v (pinB d))=>pinDecode_ok hd hv;rw [hid] at hD;simp only [Option.isSome_some,Option.getD_some] at hg1;obtain ⟨n,hn⟩:∃ n,(pinB d).length = n:=⟨_,rfl⟩;have hup:∀ j,upto (view s) (k + 1) j = if j = k then some d else upto (view s) k j:=fun j=>by rw [upto_succ,hpg]
    obtain ⟨g,hng,hgl⟩:=hmp.ex;rw [hn] at hg1 hln;refine hid9 ?_ hD hmp hm hF hup hn hng hgl hg1;clear hD hmp hm hF hup hn hng hgl hg1;intro hD hmp hm hF hup hn hng hgl hg1;go_wp2_with fail;refine (hg1.out).mono ?_;rintro e w2 ⟨v,rfl,ho,hm2⟩;have hds:=Sl.of_owns ho;obtain ⟨va,vc,rfl,-⟩:=owns_form ho;have hln':(5:Int)≤(n:Int):=by omega
    have hdc:=hD.out w2 (.slice va n vc) (by unfold DSl;rw [hn.out];exact hds);refine hid4 ?_ ho hm2 hds hdc;clear ho hm2 hds hdc;intro ho hm2 hds hdc;go_wp2_with fail;refine (hdc.out).mono ?_;rintro e w3 ⟨u1,u2,rfl,hd1,hd2,hm3⟩;have hm23:=hm2.out.trans hm3;have hng3:NMap w3 mb g:=hng.out.mod hm23 id;refine hid4 ?_ hd1 hd2 hm3 hm23;clear hd1 hd2 hm3 hm23;intro hd1 hd2 hm3 hm23;have hk9:k < 4097:=by omega
    go_wp2_with (with_reducible refine wpList_nmap_put rfl (.tmp 28) (.tmp 29) (.tmp 32) 80 rfl 35 Tryz.underlying80 mb k g (pinV d u1 u2) rfl hng3 rfl rfl hk9 ?_;intro w4 hmp4 hm4;replace hmp4:=Lib.hid hmp4;replace hm4:=Lib.hid hm4)
    go_roundw
    case rel =>
     refine ⟨k + 1,by omega,by omega,by go_num,⟨_,hmp4.out,fun j=>?_⟩,(hm.out.trans hm23.out).newb hm4.out hmb'⟩;have hS:Shun (fun j=>j = mb) w3 5:=fun i hi cs hb=>by have hi:i = mb:=hi;subst hi;exact hng3.noCells hb
     rw [hup.out j]
     split
     ·exact ⟨u1,u2,rfl,hd1.out.mod hm4.out hS,hd2.out.mod hm4.out hS⟩
     ·exact ((hgl.out j).mod hm23.out (Shun.none _ _)).mod hm4.out hS
    case measure=>simp [RowKit.intOf];omega
  ·obtain rfl:k = 9:=by omega
   rw [upto_nine] at hmp;refine hid2 ?_ hmp hm;clear hmp hm;intro hmp hm;go_wp2;go_ret;exact ⟨mb,rfl,hmp.out,hm.out⟩
end Go.Proofs.YtjanpegbemepgaaGreat
/-
 The PINs: looking up a definition; the list, what can be seen.
-/
namespace Go.Proofs.YtjanpegbemepgaaGreat
open Go.RowKit
open Jn Vn
attribute [local go_sem] Oper.semAt_some
def atI (G:Nat→Option PinD) (id:Int):Option PinD:=if 0≤id then G id.toNat else none
theorem atI_nat (G:Nat→Option PinD) (k:Nat):atI G (k:Int) = G k:=by unfold atI;rw [if_pos (by omega),Int.toNat_natCast]
theorem atI_some {F:Items} (hI:PInvF F) {id:Int} {d:PinD} (h:atI (pget F) id = some d):id = (d.id:Int)∧POk d∧pget F d.id = some d:=by
 unfold atI at h
 split at h
 ·obtain ⟨h1,h2,h3⟩:=hI.get h;exact ⟨by omega,h1,by rw [h2];exact h⟩
 ·cases h
def zpin:Value:=.agg #[.int .i64 0,.slice none 0 0,.int .i64 0,.int .i64 0,.int .i64 0,.slice none 0 0,.int .i64 0]
def LookIs (w:World) (o:Option PinD) (v:Value):Prop:=match o with
 | none=>v = zpin
 | some d=>∃ u1 u2,v = pinV d u1 u2∧DSl w u1 d.value∧DSl w u2 d.code
set_option maxHeartbeats 1000000 in
theorem PMap.look {w:World} {b:Nat} {G:Nat→Option PinD} (h:PMap w b G) {id:Int} (h1:-9223372036854775808≤id) (h2:id≤9223372036854775807) :
  ∃ u,(Instr.lookup 80 (.map (some b)) (.int .i64 id) true).run Tryz.prog w = .ok (.tuple #[u,.bool (atI G id).isSome]) w∧LookIs w (atI G id) u:=by
 obtain ⟨g,hg,hel⟩:=h.ex;have hz:(zeroValue 35).run Tryz.prog w = .ok zpin w:=rfl;unfold atI;by_cases h0:0≤id
 ·rw [if_pos h0];have e:id = (id.toNat:Int):=by omega
  have hl:=hg.look_ok (t:=80) (e:=35) Tryz.underlying80 hz (k:=id.toNat) (by omega);rw [← e] at hl;have he:=hel id.toNat
  cases hG:G id.toNat with
  | none =>
   rw [hG] at he
   cases hv:g id.toNat with
   | none=>rw [hv] at hl;exact ⟨_,hl,rfl⟩
   | some v=>rw [hv] at he;exact he.elim
  | some d =>
   rw [hG] at he
   cases hv:g id.toNat with
   | none=>rw [hv] at he;exact he.elim
   | some v=>rw [hv] at hl he;exact ⟨_,hl,he⟩
 ·rw [if_neg h0];obtain ⟨D,hown,hi⟩:=hg.ex
  have hwf:(Lit.int .i64 id).wf = true:=by
   unfold Lit.wf;simp [IntKind.min,IntKind.max,IntKind.signed,IntKind.bits];omega
  obtain ⟨v,ps,hrun,hv⟩:=hown.look_ok (t:=80) (e:=35) ikeyed Tryz.underlying80 hz (zd:=.held zpin) (zp:=[]) rfl (Maps.keyOf_int_mk Tryz.underlying3 hwf)
  have hn:Maps.has D (.int .i64 id) = false:=by
   cases hh:Maps.has D (.int .i64 id) with
   | false=>rfl
   | true =>
    obtain ⟨k,_,e⟩:=hi.only _ hh;unfold ik at e;simp at e;omega
  rw [hn] at hrun;rw [Maps.atKey_of_not_has hn] at hv;simp only [tokR,Option.some.injEq,Prod.mk.injEq,DataW.held.injEq] at hv;exact ⟨v,hrun,hv.1⟩
theorem LookIs.form {w:World} {d:PinD} {v:Value} (h:LookIs w (some d) v):∃ xa xc ya yc,v = pinV d (.slice xa d.value.length xc) (.slice ya d.code.length yc)∧DSl w (.slice xa d.value.length xc) d.value∧DSl w (.slice ya d.code.length yc) d.code:=by
 obtain ⟨u1,u2,e,h1,h2⟩:=h;obtain ⟨xa,xc,rfl,_,_,_⟩:=Sl.gen h1;obtain ⟨ya,yc,rfl,_,_,_⟩:=Sl.gen h2;exact ⟨xa,xc,ya,yc,e,h1,h2⟩
theorem ret_info {fn:Func} {p u:Tmp} (h:fn.results = #[.cell p 62,.tmp u]) (tmps:Array Value) (w:World) (b:Nat) (c0 c1 c2 c3:Value) (hp:tmps.getD p undef = ptr b) (hb:Blk w b [c0,c1,c2,c3] 62) :
  (results fn tmps).run Tryz.prog w = .ok (.tuple #[.agg #[c0,c1,c2,c3],tmps.getD u undef]) w:=by
 rw [results_cell_tmp h,hp];have k0:=hb.cell 0;have k1:=hb.cell 1;have k2:=hb.cell 2;have k3:=hb.cell 3;simp only [List.getElem?_cons_zero,List.getElem?_cons_succ] at k0 k1 k2 k3
 go_simp
theorem set4 {w w2:World} {B:Nat} {T:TypeId} {c0 c1 c2 c3:Value} (hb:Blk w2 B [c0,c1,c2,c3] T) (hm:Mod Nowhere w w2) (hB:w.heap.size≤B) (v0 v1 v2 v3:Value) :
  Blk ((((w2.setCell ⟨B,0,none⟩ v0).setCell ⟨B,1,none⟩ v1).setCell ⟨B,2,none⟩ v2).setCell ⟨B,3,none⟩ v3) B [v0,v1,v2,v3] T ∧
  Mod Nowhere w ((((w2.setCell ⟨B,0,none⟩ v0).setCell ⟨B,1,none⟩ v1).setCell ⟨B,2,none⟩ v2).setCell ⟨B,3,none⟩ v3):=by
 have h4:Blk ((((w2.setCell ⟨B,0,none⟩ v0).setCell ⟨B,1,none⟩ v1).setCell ⟨B,2,none⟩ v2).setCell ⟨B,3,none⟩ v3) B [v0,v1,v2,v3] T:=(((hb.setCell 0 v0).setCell 1 v1).setCell 2 v2).setCell 3 v3;have m4:Mod (fun j=>j = B) w2 ((((w2.setCell ⟨B,0,none⟩ v0).setCell ⟨B,1,none⟩ v1).setCell ⟨B,2,none⟩ v2).setCell ⟨B,3,none⟩ v3):=((((Mod.refl (fun j=>j = B) w2).setCell (p:=⟨B,0,none⟩) (fun _=>rfl) v0).setCell (p:=⟨B,1,none⟩) (fun _=>rfl) v1).setCell (p:=⟨B,2,none⟩) (fun _=>rfl) v2).setCell (p:=⟨B,3,none⟩) (fun _=>rfl) v3;exact ⟨h4,hm.newb m4 hB⟩
theorem alloc4 {w w2:World} {B:Nat} {T:TypeId} {cs:List Value} (h:Blk w2 B cs T∧Mod Nowhere w w2) (ob:Obj):Blk (w2.alloc ob) B cs T∧Mod Nowhere w (w2.alloc ob) :=
 ⟨h.1.mod ((Mod.refl Nowhere _).alloc ob) (fun e=>e),h.2.alloc ob⟩
def infoV (id:Int) (t u l:Nat):Value:=.agg #[.int .i64 id,.int .i64 t,.int .i64 u,.int .i64 l]
def zinfo:Value:=.agg #[.int .i64 0,.int .i64 0,.int .i64 0,.int .i64 0]
def infoRes (F:Items) (id:Int):Value:=match atI (pget F) id with
 | none=>.tuple #[zinfo,.bool false]
 | some d=>.tuple #[infoV id (ptry F d.id).1 (ptry F d.id).2 d.limit,.bool true]
set_option maxHeartbeats 8000000 in
theorem pinInfo_ok {w:World} {pb:Nat} {A:VAt} {m:Mem} {s:VSt} (hp:PnAt w pb A.vb) (h:VRep w A m s) (hxn:s.l.length≤1000000) (hI:PInvF (view s)) (id:Int) (h1:-9223372036854775808≤id) (h2:id≤9223372036854775807) :
  Calls Tryz.prog 25 #[ptr pb,.int .i64 id] w fun e w'=>e = .returned (infoRes (view s) id)∧Mod Nowhere w w':=by
 have hR:=fun W (hm:Mod Nowhere w W)=>pinReady_ok (hp.fresh hm) (h.fresh hm).says;have hA:=fun W (hm:Mod Nowhere w W)=>pinAll_ok (hp.fresh hm) (h.fresh hm) hxn hI;have hmA:Mod Nowhere w (w.alloc (.cells #[.int .i64 0,.int .i64 0,.int .i64 0,.int .i64 0] 62)):=(Mod.refl _ w).alloc _;have hR1:=hR _ hmA;have er:readyE true = 0:=rfl;simp only [er] at hR1;have hT:=fun W (hm:Mod Nowhere w W) (k:Nat) (k1:1≤k) (k8:k≤8)=>pinTries_ok (hp.fresh hm) (h.fresh hm) hxn hI k1 k8;have hsz:(w.alloc (.cells #[.int .i64 0,.int .i64 0,.int .i64 0,.int .i64 0] 62)).heap.size = w.heap.size + 1:=by simp
 clear er;refine hid7 ?_ hR hA hT hmA hR1 h hp;clear hR hA hT hmA hR1 h hp;intro hR hA hT hmA hR1 h hp;go_enter Tryz.func25,Tryz.ntmps25;go_wp2_with fail;refine (hR1.out).mono ?_;rintro e w1 ⟨rfl,hm1⟩;have hA1:=hA.out _ (hmA.out.trans hm1);refine hid2 ?_ hA1 hm1;clear hA1 hm1;intro hA1 hm1;go_wp2_with fail;refine (hA1.out).mono ?_;rintro e w2 ⟨mb,rfl,hpm,hm2⟩;obtain ⟨u,hlk,hlis⟩:=hpm.look h1 h2;have hm12:=(hmA.out.trans hm1.out).trans hm2;have hbI:Blk w2 w.heap.size [.int .i64 0,.int .i64 0,.int .i64 0,.int .i64 0] 62:=(Blk.new w [.int .i64 0,.int .i64 0,.int .i64 0,.int .i64 0] 62).mod (hm1.out.trans hm2) (fun e=>e);have k0:=hbI.cell 0
 have k1:=hbI.cell 1;have k2:=hbI.cell 2;have k3:=hbI.cell 3;simp only [List.getElem?_cons_zero,List.getElem?_cons_succ] at k0 k1 k2 k3;have kf:=hbI.frozen;have kl:=hbI.lt
 cases ho:atI (pget (view s)) id with
 | none =>
  rw [ho] at hlk hlis;obtain rfl:u = zpin:=hlis;unfold zpin at hlk;simp only [Option.isSome_none] at hlk;clear hpm;refine hid5 ?_ hm12 hm2 ho hI hbI;clear hm12 hm2 ho hI hbI;intro hm12 hm2 ho hI hbI;clear hR hA hT hmA hR1 hA1 hm1;go_wp2;obtain ⟨hbE,hmE⟩:=alloc4 (set4 hbI.out hm12.out (Nat.le_refl _) (.int .i64 0) (.int .i64 0) (.int .i64 0) (.int .i64 0)) (.cells #[.int .i64 0,.slice none 0 0,.int .i64 0,.int .i64 0,.int .i64 0,.slice none 0 0,.int .i64 0] 35);refine bodyPost_ret (ret_info rfl _ _ w.heap.size _ _ _ _ rfl hbE) rfl ⟨?_,hmE⟩;unfold infoRes;rw [ho.out]
  rfl
 | some d =>
  obtain ⟨rfl,hd,hpg⟩:=atI_some hI ho;rw [ho] at hlk hlis;obtain ⟨xa,xc,ya,yc,rfl,g1,g2⟩:=hlis.form;unfold pinV at hlk;simp only [Option.isSome_some] at hlk;clear hpm;have hbx:Mod Nowhere w2 (w2.alloc (.cells #[.int .i64 d.id,.slice xa d.value.length xc,.int .i64 d.limit,.int .i64 d.lo,.int .i64 d.hi,.slice ya d.code.length yc,.int .i64 d.cl] 35)):=(Mod.refl _ w2).alloc _;have hT1:=hT.out _ (hm12.trans hbx) d.id hd.i1 hd.i8;have hbp:=Blk.new w2 [.int .i64 d.id,.slice xa d.value.length xc,.int .i64 d.limit,.int .i64 d.lo,.int .i64 d.hi,.slice ya d.code.length yc,.int .i64 d.cl] 35
  clear hlis g1 g2;obtain ⟨p1,hp1⟩:∃ x,(ptry (view s) d.id).1 = x:=⟨_,rfl⟩;obtain ⟨p2,hp2⟩:∃ x,(ptry (view s) d.id).2 = x:=⟨_,rfl⟩;rw [hp1,hp2] at hT1;refine hid10 ?_ hm12 hm2 ho hI hbI hbx hbp hT1 hp1 hp2;clear hm12 hm2 ho hI hbI hbx hbp hT1 hp1 hp2;intro hm12 hm2 ho hI hbI hbx hbp hT1 hp1 hp2;clear hR hA hT hmA hR1 hA1 hm1;go_wp2_with fail;refine hT1.out.mono ?_;rintro e w3 ⟨rfl,hm3⟩;have hb3:=(hbI.out.mod hbx.out (fun e=>e)).mod hm3 (fun e=>e);have k0:=hb3.cell 0;have k1:=hb3.cell 1;have k2:=hb3.cell 2;have k3:=hb3.cell 3;simp only [List.getElem?_cons_zero,List.getElem?_cons_succ] at k0 k1 k2 k3;have kf:=hb3.frozen
  have kl:=hb3.lt;have hb4:=hbp.out.mod hm3 (fun e=>e);have c2:=hb4.cell 2;simp only [List.getElem?_cons_zero,List.getElem?_cons_succ] at c2;have cl:=hb4.lt;refine hid3 ?_ hm3 hb3 hb4;clear hm3 hb3 hb4;intro hm3 hb3 hb4;go_wp2;obtain ⟨hbE,hmE⟩:=set4 hb3.out ((hm12.out.trans hbx.out).trans hm3.out) (Nat.le_refl _) (.int .i64 d.id) (.int .i64 p1) (.int .i64 p2) (.int .i64 d.limit);refine bodyPost_ret (ret_info rfl _ _ w.heap.size _ _ _ _ rfl hbE) rfl ⟨?_,hmE⟩;unfold infoRes;rw [ho.out];dsimp only;rw [hp1.out,hp2.out]
  rfl
end Go.Proofs.YtjanpegbemepgaaGreat
/-
 The PINs: the list of the numbers.
-/
namespace Go.Proofs.YtjanpegbemepgaaGreat
open Go.RowKit
open Jn Vn
attribute [local go_sem] Oper.semAt_some
def pidsTo (F:Items) (k:Nat):List Nat:=(List.range k).filter fun j=>(pget F j).isSome
def pids (F:Items):List Nat:=pidsTo F 9
theorem pidsTo_one (F:Items):pidsTo F 1 = []:=by
 unfold pidsTo;rw [show List.range 1 = [0] from rfl];have:pget F 0 = none:=by unfold pget;rw [if_neg (by omega)]
 simp [this]
theorem pidsTo_succ (F:Items) (k:Nat):pidsTo F (k + 1) = pidsTo F k ++ (if (pget F k).isSome = true then [k] else []):=by
 unfold pidsTo;rw [List.range_succ,List.filter_append]
 congr 1
 cases h:pget F k <;> simp [h]
theorem pidsTo_le (F:Items) (k:Nat):(pidsTo F k).length≤k:=by
 unfold pidsTo;exact Nat.le_trans (List.length_filter_le _ _) (by simp)
set_option maxHeartbeats 8000000 in
theorem pinList_ok {w:World} {pb:Nat} {A:VAt} {m:Mem} {s:VSt} (hp:PnAt w pb A.vb) (h:VRep w A m s) (hxn:s.l.length≤1000000) (hI:PInvF (view s)) :
  Calls Tryz.prog 28 #[ptr pb] w fun e w'=>∃ v,e = .returned v∧w'.ownsRow w.heap.size 3 1 v (pids (view s)).length (ints (pids (view s)))∧Mod Nowhere w w':=by
 obtain ⟨i0,hi0,hz0,hz1,hz2⟩:=info_parts info_i64;have hA:=fun W (hm:Mod Nowhere w W)=>pinAll_ok (hp.fresh hm) (h.fresh hm) hxn hI;have hR1:=pinReady_ok hp h.says;have er:readyE true = 0:=rfl;simp only [er] at hR1;clear er;refine hid4 ?_ hA hR1 h hp;clear hA hR1 h hp;intro hA hR1 h hp;go_enter Tryz.func28,Tryz.ntmps28;go_wp2_with fail;refine (hR1.out).mono ?_;rintro e w1 ⟨rfl,hm1⟩;have hA1:=hA.out _ hm1;refine hid2 ?_ hA1 hm1;clear hA1 hm1;intro hA1 hm1;go_wp2_with fail;refine (hA1.out).mono ?_;rintro e w2 ⟨mb,rfl,hpm,hm2⟩;have hm12:=hm1.out.trans hm2;refine hid3 ?_ hpm hm12 hm2;clear hpm hm12 hm2;intro hpm hm12 hm2
 go_wp2
 go_loopg [3,5] 8 (fun gg v i wr=>∃ k:Nat,1≤k∧k≤9∧gg + k = 9∧i = .int .i64 k∧wr.ownsRow w2.heap.size 3 1 v (pidsTo (view s) k).length (ints (pidsTo (view s) k))∧Mod Nowhere w2 wr∧Mod Nowhere w wr)
 case atStart=>exact ⟨1,by omega,by omega,by omega,rfl,by rw [pidsTo_one];exact World.ownsRow_nil _ _ _ _,Mod.refl _ _,hm12.out⟩
 case round =>
  obtain ⟨k,hk1,hk,hgg,rfl,hown,hmr,hm⟩:=hrel;by_cases hlt:k≤8
  ·obtain ⟨u,hlk,hlis⟩:=(hpm.out.fresh hmr).look (id:=(k:Int)) (by omega) (by omega);rw [atI_nat] at hlk hlis;have hps:=pidsTo_succ (view s) k;have hle:=pidsTo_le (view s) k
   cases hG:pget (view s) k with
   | none =>
    rw [hG] at hlk hlis hps;obtain rfl:u = zpin:=hlis;simp only [Option.isSome_none,Bool.false_eq_true,if_false,List.append_nil] at hlk hps;unfold zpin at hlk;have hbx:Mod Nowhere wr (wr.alloc (.cells #[.int .i64 0,.slice none 0 0,.int .i64 0,.int .i64 0,.int .i64 0,.slice none 0 0,.int .i64 0] 35)):=(Mod.refl _ wr).alloc _;have ho1:=hown.alloc (.cells #[.int .i64 0,.slice none 0 0,.int .i64 0,.int .i64 0,.int .i64 0,.slice none 0 0,.int .i64 0] 35);rw [← hps] at ho1;refine hid8 ?_ hown hmr hm hps hbx ho1 hG hI;clear hown hmr hm hps hbx ho1 hG hI;intro hown hmr hm hps hbx ho1 hG hI
    go_wp2
    go_roundg (8 - k)
    case measure=>omega
    case rel=>exact ⟨k + 1,by omega,by omega,by omega,by go_num,ho1.out,hmr.out.trans hbx.out,hm.out.trans hbx.out⟩
   | some d =>
    rw [hG] at hlk hlis hps;obtain ⟨xa,xc,ya,yc,rfl,g1,g2⟩:=hlis.form;unfold pinV at hlk;simp only [Option.isSome_some,if_true] at hlk hps;have hbx:Mod Nowhere wr (wr.alloc (.cells #[.int .i64 d.id,.slice xa d.value.length xc,.int .i64 d.limit,.int .i64 d.lo,.int .i64 d.hi,.slice ya d.code.length yc,.int .i64 d.cl] 35)):=(Mod.refl _ wr).alloc _;have ho1:=(hown.alloc (.cells #[.int .i64 d.id,.slice xa d.value.length xc,.int .i64 d.limit,.int .i64 d.lo,.int .i64 d.hi,.slice ya d.code.length yc,.int .i64 d.cl] 35)).alloc (.cells #[.int .i64 k] 3);clear g1 g2;obtain ⟨L,hL⟩:∃ L,ints (pidsTo (view s) k) = L:=⟨_,rfl⟩;obtain ⟨n,hn⟩:∃ n,(pidsTo (view s) k).length = n:=⟨_,rfl⟩
    rw [hL,hn] at ho1 hown;obtain ⟨va,vc,rfl,-⟩:=owns_form hown;rw [hn] at hle;have hbl:=hmr.size;have hm3:Mod Nowhere w ((wr.alloc (.cells #[.int .i64 d.id,.slice xa d.value.length xc,.int .i64 d.limit,.int .i64 d.lo,.int .i64 d.hi,.slice ya d.code.length yc,.int .i64 d.cl] 35)).alloc (.cells #[.int .i64 k] 3)):=(hm.trans hbx).alloc _;have hm4:Mod Nowhere w2 ((wr.alloc (.cells #[.int .i64 d.id,.slice xa d.value.length xc,.int .i64 d.limit,.int .i64 d.lo,.int .i64 d.hi,.slice ya d.code.length yc,.int .i64 d.cl] 35)).alloc (.cells #[.int .i64 k] 3)):=(hmr.trans hbx).alloc _;have hcn:=cells_new (wr.alloc (.cells #[.int .i64 d.id,.slice xa d.value.length xc,.int .i64 d.limit,.int .i64 d.lo,.int .i64 d.hi,.slice ya d.code.length yc,.int .i64 d.cl] 35)) [.int .i64 (k:Int)] 3
    have hsz2:=hm12.out.size;simp only [World.size_alloc] at hcn;refine hid12 ?_ hown hmr hm hps hbx ho1 hG hI hL hn hm3 hm4;clear hown hmr hm hps hbx ho1 hG hI hL hn hm3 hm4;intro hown hmr hm hps hbx ho1 hG hI hL hn hm3 hm4;replace hcn:=Lib.hid hcn;have hsw:w2.heap.size≤wr.heap.size + 1 + 1:=by omega
    go_wp2_with (at_builtin;go_loud (refine wpList_append_lies _ rfl _ _ 66 rfl w2.heap.size 3 i0 (.int .i64 0) 1 8 Tryz.underlying66 hi0 hz0 hz1 hz2 rfl (by decide) _ n _ (by rfl) ho1.out ⟨wr.heap.size + 1,0,none⟩ 1 1 [.int .i64 (k:Int)] rfl rfl hcn.out (by simp [Value.oneCell']) (by decide) (by unfold maxLen;omega) (by omega) (by simp;omega) _ rfl ?_;intro g2 cap2 w3 hown3 hgrow3 hat3 hlt3;(have hmA:=(Mod.refl (Above w2.heap.size) _).app ho1.out hgrow3;have hM3:=hm3.out.step hmA (fun i hi e=>by have e:w2.heap.size≤i:=e;omega);replace hM3:=Lib.hid hM3;replace hmA:=Lib.hid hmA;replace hown3:=Lib.hid hown3;clear hgrow3 hat3)))
    go_roundg (8 - k)
    case measure=>omega
    case rel=>exact ⟨k + 1,by omega,by omega,by omega,by go_num,by rw [hps.out,List.length_append,ints_snoc,hn.out,hL.out];exact hown3.out,hm4.out.step hmA.out (fun i hi e=>by have e:w2.heap.size≤i:=e;omega),hM3.out⟩
  ·obtain rfl:k = 9:=by omega
   refine hid3 ?_ hown hmr hm;clear hown hmr hm;intro hown hmr hm;go_wp2;go_ret;exact ⟨_,rfl,ownsRow_base_a hown.out hm12.out.size,hm.out⟩
end Go.Proofs.YtjanpegbemepgaaGreat
