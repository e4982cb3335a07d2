/-
  The laws of chapter 22: agrees on keys that show a list; the cells of an action; the box of the reference's list.
-/
import Derived.Test.YtoehlaeaafalmaaGreatDK17
import Derived.Test.YtoehlaeaafalmaaGreatDK16
set_option linter.unusedVariables false
set_option linter.unusedSimpArgs false
set_option maxHeartbeats 16000000
set_option maxRecDepth 100000
namespace Go.Proofs.YtoehlaeaafalmaaGreat
open Go.RowKit
open Jn Vn Rg Ky
attribute [local go_sem] Oper.semAt_some
section
variable {W0 W W' : World} {A : VAt} {kb mb k : Nat} {L L' : List KEn} {va : Option Addr} {vc : Nat}
theorem Shown22.agrees (h:Shown22 W0 W kb mb L) (hr:RL W va vc L') (hK:KL L') (hlen:L'.length≤1000) :
  Calls Tryz.prog 15 #[ptr kb,.agg #[.slice va L'.length vc]] W fun e w'=>∃ b,e = .returned (.bool b)∧(L = L'→b = true)∧Shown22 W0 w' kb mb L∧MapIs w' mb∧Mod (OneB mb) W w':=by
 obtain ⟨⟨A2,m,s,h1,h2⟩,h3,h4⟩:=h;refine (ZhV h1 hr hK hlen).mono fun e w' ⟨b,a1,a2,a3,a4⟩=>?_;rw [h2] at a2;exact ⟨b,a1,a2,⟨⟨A2,m,s,a3,h2⟩,h3,h4.step a4 fun i hi e=>by have e:i = mb:=e;omega⟩,a3.map,a4⟩
def SB (W:World) (N:Nat) (va:Option Addr) (vc:Nat) (L:List KEn):Prop:=Blk W N [.slice va L.length vc] 32∧RL W va vc L
theorem SB.fresh {N:Nat} (h:SB W N va vc L) (hm:Mod Nowhere W W'):SB W' N va vc L:=⟨h.1.mod hm id,h.2.fresh hm⟩
theorem SB.c {N:Nat} (h:SB W N va vc L):W.cell? ⟨N,0,none⟩ = some (.slice va L.length vc)∧W.frozen? ⟨N,0,none⟩ = false∧N < W.heap.size:=⟨h.1.cell 0,h.1.frozen 0,h.1.lt⟩
theorem SB.new {N:Nat} (w:World) (hr:RL w va vc L) (hN:w.heap.size = N):SB (w.alloc (.cells #[.slice va L.length vc] 32)) N va vc L:=by
 subst hN;exact ⟨Blk.new w _ _,hr.fresh ((Mod.refl _ w).alloc _)⟩
theorem SB.put {N:Nat} {c0:Value} (hb:Blk W N [c0] 32) (hr:RL W va vc L):SB (W.setCell ⟨N,0,none⟩ (.slice va L.length vc)) N va vc L∧Mod (fun j=>j = N) W (W.setCell ⟨N,0,none⟩ (.slice va L.length vc)):=by
 have m:Mod (fun k=>k = N) W (W.setCell ⟨N,0,none⟩ (.slice va L.length vc)):=(Mod.refl (fun k=>k = N) W).setCell (p:=⟨N,0,none⟩) (fun _=>rfl) _;exact ⟨⟨hb.setCell 0 _,hr.mod m (Zh hb (by decide)) (Zh hb (by decide))⟩,m⟩
theorem KC.keepS {pd:Bool} {N:Nat} (h:KC W0 W A kb mb k pd L) (hm:Mod (KS A mb) W W') (hs:SB W N va vc L'):SB W' N va vc L':=⟨h.off hs.1 (by decide) (by decide) hm,h.keepL hm hs.2⟩
theorem Shown22.keepS {N:Nat} (h:Shown22 W0 W kb mb L) (hm:Mod (OneB mb) W W') (hs:SB W N va vc L'):SB W' N va vc L':=⟨h.keepB hm hs.1,h.keepL hm hs.2⟩
end
theorem InKOps.ce {w:World} {va:Option Addr} {vc:Nat} {l:List OpK} (h:InKOps w (.slice va l.length vc) l) {k:Nat} (hk:k < l.length):∃ b off x0 x1 x2 a1 n1 c1 x3,va = some ⟨b,off,none⟩∧l.length≤vc∧vc≤maxLen∧l[k].cells = [.int .i64 x0,.int .i64 x1,.int .i64 x2,.slice a1 n1 c1,.int .i64 x3]∧∀ X,Mod Nowhere w X→X.cell? ⟨b,off + k * 5,none⟩ = some (.int .i64 x0)∧X.cell? ⟨b,off + k * 5 + 1,none⟩ = some (.int .i64 x1)∧X.cell? ⟨b,off + k * 5 + 2,none⟩ = some (.int .i64 x2)∧X.cell? ⟨b,off + k * 5 + 3,none⟩ = some (.slice a1 n1 c1)∧X.cell? ⟨b,off + k * 5 + 4,none⟩ = some (.int .i64 x3)∧b < X.heap.size:=by
 obtain ⟨b,off,cap',e0,g1,g2,hx⟩:=h.at_ hk
 obtain ⟨rfl,rfl⟩:va = some ⟨b,off,none⟩∧vc = cap':=by
  simp at e0;exact ⟨e0.1,e0.2⟩
 obtain ⟨a1,c1,e1,-⟩:=hx.at_.src
 have hce:l[k].cells = [.int .i64 l[k].act,.int .i64 l[k].k.x.set,.int .i64 l[k].k.x.kind,.slice a1 l[k].k.x.val.length c1,.int .i64 l[k].k.x.lim]:=by
  rw [← e1];rfl
 refine ⟨b,off,_,_,_,a1,_,c1,_,rfl,g1,g2,hce,fun X hm=>?_⟩;have hX:=hx.fresh hm;have hc:∀ j,j < 5→X.cell? ⟨b,off + k * 5 + j,none⟩ = l[k].cells[j]?:=hX.cell;rw [hce] at hc;exact ⟨hc 0 (by omega),hc 1 (by omega),hc 2 (by omega),hc 3 (by omega),hc 4 (by omega),hX.lt⟩
theorem InKOps.op {w:World} {v:Value} {l:List OpK} (h:InKOps w v l) {k:Nat} (hk:k < l.length):OpKAt w l[k]:=by
 obtain ⟨b,off,cap',e0,g1,g2,hx⟩:=h.at_ hk;exact hx.at_
theorem Zh4 {l:List OpK} (h:lightB l = true):l.length≤60:=by
 unfold lightB at h;simp only [Bool.and_eq_true,decide_eq_true_eq] at h;exact h.1
theorem SPost.box {W W':World} {e:Ending} {L:List KEn} (h:SPost W L e W'):∃ va vc,e = .returned (.agg #[.slice va L.length vc])∧SB (W'.alloc (.cells #[.slice va L.length vc] 32)) W'.heap.size va vc L∧Mod Nowhere W (W'.alloc (.cells #[.slice va L.length vc] 32))∧W.heap.size≤W'.heap.size:=by
 obtain ⟨va,vc,rfl,h1,h2⟩:=h;exact ⟨va,vc,rfl,SB.new W' h1 rfl,h2.alloc _,h2.size⟩
theorem Keeps22.sb {W W':World} {N:Nat} {va:Option Addr} {vc:Nat} {L:List KEn} (h:Keeps22 W W') (hs:SB W N va vc L):SB W' N va vc L:=⟨h.1 _ _ _ (by decide) hs.1,h.2 _ _ _ hs.2⟩
theorem Zh5 {w:World} {l:List OpK} {va:Option Addr} {vc:Nat} {cut:Int} (i0:InKOps w (.slice va l.length vc) l) (hq:lightB l = false ∨ cut < 0) :
  Calls Tryz.prog 6 #[.slice va l.length vc,.int .i64 cut] w fun e w'=>e = .returned (.bool true)∧Mod Nowhere w w':=by
 have hL:=ZcD i0;have hE:=fun W=>Zcu W;clear i0
 cases hlb:lightB l with
 | false =>
  rw [hlb] at hL;clear hq;refine hid2 ?_ hL hE;clear hL hE;intro hL hE;go_enter Tryz.func6,Tryz.ntmps6;go_wp2_with fail;refine (hL.out).mono ?_;rintro e w1 ⟨rfl,hm1⟩;replace hm1:=Lib.hid hm1;go_wp2_with fail;refine (hE.out w1).mono ?_;rintro e w2 ⟨rfl,hm2⟩;have hf:=hm1.out.trans hm2;refine hid2 ?_ hf hm2;clear hf hm2;intro hf hm2;go_wp2;go_ret;exact ⟨rfl,hf.out⟩
 | true =>
  rw [hlb] at hL hq
  have hc:cut < 0:=by
   rcases hq with q | q
   ·cases q
   ·exact q
  clear hq;refine hid2 ?_ hL hE;clear hL hE;intro hL hE;go_enter Tryz.func6,Tryz.ntmps6;go_wp2_with fail;refine (hL.out).mono ?_;rintro e w1 ⟨rfl,hm1⟩;replace hm1:=Lib.hid hm1;go_wp2_with fail;refine (hE.out w1).mono ?_;rintro e w2 ⟨rfl,hm2⟩;have hf:=hm1.out.trans hm2;refine hid2 ?_ hf hm2;clear hf hm2;intro hf hm2;go_wp2;go_ret;exact ⟨rfl,hf.out⟩
theorem Zh6 {w:World} {l:List OpK} {va:Option Addr} {vc cut:Nat} (i0:InKOps w (.slice va l.length vc) l) (hq:lightB l = true) (hcut:cut < 9223372036854775808) :
  Calls Tryz.prog 6 #[.slice va l.length vc,.int .i64 (cut:Nat)] w fun e w'=>e = .returned (.bool true)∧Mod Nowhere w w':=by
 have hL:=ZcD i0;rw [hq] at hL;have hE:=fun W=>Zcu W;have hO:=fun W=>Zcr W;have hF:=fun W=>ZhA W;have hl60:=Zh4 hq;have hc0:decide ((cut:Int) < 0) = false:=decide_eq_false (by omega);refine hid6 ?_ i0 hL hE hO hF hcut;clear i0 hL hE hO hF hcut;intro i0 hL hE hO hF hcut;go_enter Tryz.func6,Tryz.ntmps6;go_wp2_with fail;refine (hL.out).mono ?_;rintro e w1 ⟨rfl,hm1⟩;have i1:=i0.out.fresh hm1;refine hid2 ?_ hm1 i1;clear hm1 i1;intro hm1 i1
 go_upto_region 3 with (fail)
 go_wp2_with fail;refine (hO.out _).mono ?_;intro e w2 ho;obtain ⟨A,kb,mb,rfl,hd⟩:=KC.new ho;clear ho;replace hd:=Lib.hid hd
 go_upto_region 4 with (fail)
 go_wp2_with fail;refine (hF.out _).mono ?_;intro e w3 hs;obtain ⟨fa,fc,rfl,hsb,hm4,hsz⟩:=hs.box;have hd4:=hd.out.fresh hm4;clear hs;simp only [List.length_nil] at hsb hm4 hd4 ⊢;generalize hN:w3.heap.size = N at *
 have hNw:w1.heap.size≤N:=by
  have:=hd.out.md.size;omega
 refine hid3 ?_ hsb hm4 hd4;clear hsb hm4 hd4;intro hsb hm4 hd4
 go_upto_region 5 with (fail)
 generalize w3.alloc (.cells #[.slice fa 0 fc] 32) = w4 at *;clear hm4 hN hsz hd;have hC:=hd4.out.cut hcut.out;replace hC:=Lib.hid hC;go_wp2_with fail;refine hC.out.mono ?_;rintro e w5 ⟨rfl,hd5,hS5⟩;have hsb5:=hd4.out.keepS hS5 hsb.out;clear hsb hd4;unfold Go.Proofs.YtoehlaeaafalmaaGreat.errno;refine hid3 ?_ hd5 hS5 hsb5;clear hd5 hS5 hsb5;intro hd5 hS5 hsb5;go_wp2
 go_loopw [10] (fun i wr=>∃ (k:Nat) (sa:Option Addr) (sc:Nat),k≤l.length∧i = .int .i64 k∧KC w1 wr A kb mb k true (rRunK (l.take k))∧SB wr N sa sc (rRunK (l.take k))) (fun i _=>l.length - (intOf i).toNat)
 case atStart=>exact ⟨0,fa,fc,by omega,rfl,hd5.out,hsb5.out⟩
 case round =>
  clear hsb5 hd5;obtain ⟨k,sa,sc,hk,rfl,hd,hsb⟩:=hrel;by_cases hlt:k < l.length
  ·have hki:(k:Int) < (l.length:Int):=by omega
   have hop:=i1.out.op hlt;have hD:=hd.do_ (by omega) (KeyAt.fresh hop hd.md);have hP:=fun Y va vc (h1:Mod Nowhere w1 Y) (h2:RL Y va vc (rRunK (l.take k)))=>Zh0 h2 hd.kl hd.len (KeyAt.fresh hop h1);have hKL:=hd.kl;have hlen:=hd.len;have hKLs:=fun {er nn:Nat} {n' er':Nat} {v1:World} (ho:KOut w1 A kb mb k true (rRunK (l.take k)) (rDo (rRunK (l.take k)) l[k].act l[k].k.x).1 nn er n' er' v1)=>ho;obtain ⟨b,off,x0,x1,x2,a1,n1,c1,x3,rfl,g1,g2,hce,hoc⟩:=i1.out.ce hlt
   have hK2:KL (rDo (rRunK (l.take k)) l[k].act l[k].k.x).1∧(rDo (rRunK (l.take k)) l[k].act l[k].k.x).1.length≤1000:=by
    obtain ⟨⟨m,s,h1,h2,h3,h4,-⟩,-⟩:=hd;obtain ⟨e1,-,-,e4,-⟩:=ZcE h1.st h2 h3 l[k].act l[k].k.x hop.by_;rw [← h4,← e4];exact ⟨kl_KL e1.v,Nat.le_trans (ZcF _) (by decide)⟩
   clear hKLs;rw [← Jq l hlt] at hK2;rw [hce,← Jq l hlt] at hD;rw [hce,← Jq l hlt] at hP;obtain ⟨L',hL'⟩:∃ L',rRunK (l.take (k + 1)) = L':=⟨_,rfl⟩;rw [hL'] at hD hP hK2;generalize (rDo (rRunK (l.take k)) l[k].act l[k].k.x).2.1 = nn at *;generalize (rDo (rRunK (l.take k)) l[k].act l[k].k.x).2.2 = er at *;obtain ⟨L,hL⟩:∃ L,rRunK (l.take k) = L:=⟨_,rfl⟩;rw [hL] at hd hsb hD hP hKL hlen;obtain ⟨o0,o1,o2,o3,o4,ol⟩:=hoc wr hd.md;clear hop;refine hid11 ?_ hd hsb hD hP hoc hce hL' hL hK2 hKL hlen;clear hd hsb hD hP hoc hce hL' hL hK2 hKL hlen;intro hd hsb hD hP hoc hce hL' hL hK2 hKL hlen
   go_wp2_with fail;refine hD.out.mono ?_;rintro e v1 ⟨n',er',rfl,ho,hS⟩;have hs2:=hd.out.keepS hS hsb.out;clear o0 o1 o2 o3 o4 ol;obtain ⟨o0,o1,o2,o3,o4,ol⟩:=hoc.out v1 ho.md;obtain ⟨z0,zf,zl⟩:=hs2.c;have hdv:=(Mod.refl Nowhere v1).drew;have hP1:=fun Y (hY:Mod Nowhere v1 Y)=>hP.out Y _ _ (ho.md.trans hY) (hs2.2.fresh hY);have mA:=((Mod.refl Nowhere v1).alloc (.cells #[.slice none 0 0] 32)).drew;have bA:Blk (v1.alloc (.cells #[.slice none 0 0] 32)).drew v1.heap.size [.slice none 0 0] 32:=(Blk.new v1 [.slice none 0 0] 32).drew;have hNlt:N < v1.heap.size:=zl;refine hid7 ?_ ho hs2 hS hdv hP1 mA bA;clear ho hs2 hS hdv hP1 mA bA;intro ho hs2 hS hdv hP1 mA bA
   go_upto_region 11 with (fail)
   go_cut [13,14,15] (fun p q r wx=>∃ N8 sa2 sc2,p = ptr N8∧q = .int .i64 (nn:Nat)∧r = errno (er:Nat)∧SB wx N8 sa2 sc2 L'∧Mod Nowhere v1 wx∧v1.heap.size≤N8)
   case first =>
    go_region_held3 (fun W=>W.cell? ⟨N,0,none⟩ = some (.slice sa L.length sc)∧W.cell? ⟨b,off + k * 5,none⟩ = some (.int .i64 x0)∧W.cell? ⟨b,off + k * 5 + 1,none⟩ = some (.int .i64 x1)∧W.cell? ⟨b,off + k * 5 + 2,none⟩ = some (.int .i64 x2)∧W.cell? ⟨b,off + k * 5 + 3,none⟩ = some (.slice a1 n1 c1)∧W.cell? ⟨b,off + k * 5 + 4,none⟩ = some (.int .i64 x3)) (simp [*,World.cell?_alloc_some,World.cell?_setCell_far,World.cell?_setCell_other])
     (first
      | (go_at_call 13;(with_reducible refine (hP1.out _ mA.out).mono ?_);rintro e v2 ⟨sa2,sc2,rfl,e1,hm2⟩;have hmS:=mA.out.trans hm2;have bT:=bA.out.mod hm2 id;have y0:=bT.cell 0;have yl:=bT.lt;have yf:=bT.frozen;simp only [gz0] at y0;have bN:=hs2.out.1.mod hmS id;have t0:=bN.cell 0;have tl:=bN.lt;simp only [gz0] at t0;obtain ⟨r0,r1,r2,r3,r4,rl⟩:=hoc.out v2 (ho.out.md.trans hmS);clear bN;replace e1:=Lib.hid e1;replace hmS:=Lib.hid hmS;clear hm2;replace bT:=Lib.hid bT)
      | (go_at_call 13;(with_reducible refine (hP1.out _ hdv.out).mono ?_);rintro e v2 ⟨sa2,sc2,rfl,e1,hm2⟩;have hmS:=hdv.out.trans hm2;have bN:=hs2.out.1.mod hmS id;have t0:=bN.cell 0;have tl:=bN.lt;simp only [gz0] at t0;obtain ⟨r0,r1,r2,r3,r4,rl⟩:=hoc.out v2 (ho.out.md.trans hmS);clear bN;replace e1:=Lib.hid e1;replace hmS:=Lib.hid hmS;clear hm2)
      | fail)
    ·have g1':=SB.new v2 e1.out rfl;have g5:=hmS.out.alloc (.cells #[.slice sa2 L'.length sc2] 32);refine hid2 ?_ g1' g5;clear g1' g5;intro g1' g5;go_wp2;go_meet
     case rel=>exact ⟨v2.heap.size,sa2,sc2,rfl,rfl,rfl,g1'.out,g5.out,hmS.out.size⟩
    ·obtain ⟨g1',g2'⟩:=SB.put bT.out e1.out;have g5:=hmS.out.own22 g2' (Nat.le_refl _);refine hid3 ?_ g1' g5 g2';clear g1' g5 g2';intro g1' g5 g2';go_wp2;go_meet
     case rel=>exact ⟨v1.heap.size,sa2,sc2,rfl,rfl,rfl,g1'.out,g5.out,Nat.le_refl _⟩
   case rest =>
    obtain ⟨N8,sa2,sc2,rfl,rfl,rfl,hb8,hm8,hN8⟩:=hcut;have d1:N8 ≠ N:=by omega
    have d2:N ≠ N8:=by omega
    clear z0 zf zl o0 o1 o2 o3 o4 ol;have ho8:=ho.out.fresh hm8;have hs8:=hs2.out.fresh hm8;obtain ⟨r0,rf,rl⟩:=hb8.c;obtain ⟨z0,zf,zl⟩:=hs8.c;rcases ho8 with ⟨rfl,rfl,hd8⟩ | ⟨rfl,rfl,-,hg8⟩
    ·obtain ⟨g1',g2'⟩:=SB.put hs8.1 hb8.2;have hd9:=hd8.own hs8.1 g2' hNw;have hPw:=hd8.power;refine hid8 ?_ hb8 hm8 hd8 hs8 g1' g2' hd9 hPw;clear hb8 hm8 hd8 hs8 g1' g2' hd9 hPw;intro hb8 hm8 hd8 hs8 g1' g2' hd9 hPw;go_wp2_with fail;refine hPw.out.mono ?_;rintro e w9 ⟨rfl,rfl⟩;go_wp2;go_roundw
     case rel=>exact ⟨k + 1,sa2,sc2,by omega,by go_num,by rw [hL'.out];exact hd9.out,by rw [hL'.out];exact g1'.out⟩
     case measure=>simp [intOf];omega
    ·have hPw:=hg8.power;refine hid5 ?_ hb8 hm8 hg8 hs8 hPw;clear hb8 hm8 hg8 hs8 hPw;intro hb8 hm8 hg8 hs8 hPw;go_wp2_with fail;refine hPw.out.mono ?_;rintro e w9 ⟨rfl,rfl⟩;have hSt:=hg8.out.sets;have e7:((7:Nat):Int) = 7:=rfl;have e0:((0:Nat):Int) = 0:=rfl;rw [e7,e0];clear e7 e0 ho;unfold Go.Proofs.YtoehlaeaafalmaaGreat.errno at *;replace hSt:=Lib.hid hSt;go_wp2_with fail;refine hSt.out.mono ?_;rintro e wa ⟨rfl,hma⟩;have hga:=hg8.out.fresh hma;have hba:=hb8.out.fresh hma;have hsa:=hs8.out.fresh hma;have hRs:=hga.restore;clear r0 rf rl z0 zf zl;refine hid5 ?_ hma hga hba hsa hRs;clear hma hga hba hsa hRs;intro hma hga hba hsa hRs
     go_wp2_with fail;refine hRs.out.mono ?_;rintro e wb ⟨rfl,hbk,hkp⟩;have hbb:=hkp.sb hba.out;have hsb2:=hkp.sb hsa.out;have hMt:=hbk.mount;refine hid5 ?_ hbk hkp hbb hsb2 hMt;clear hbk hkp hbb hsb2 hMt;intro hbk hkp hbb hsb2 hMt;go_wp2_with fail;refine hMt.out.mono ?_;rintro e wd ⟨A2,L3,rfl,hL3,han,hkp2⟩;have hbd:=hkp2.sb hbb.out;have hsd:=hkp2.sb hsb2.out;have hOp:=han.opens;unfold Go.Proofs.YtoehlaeaafalmaaGreat.errno;refine hid6 ?_ hL3 han hkp2 hbd hsd hOp;clear hL3 han hkp2 hbd hsd hOp;intro hL3 han hkp2 hbd hsd hOp;go_wp2_with fail;refine hOp.out.mono ?_;rintro e we ⟨k2,m2,rfl,hsh,hme⟩;have hbe:=hbd.out.fresh hme
     have hse:=hsd.out.fresh hme;obtain ⟨z0,zf,zl⟩:=hse.c;have hA1:=hsh.agrees hse.2 hKL.out hlen.out;unfold Go.Proofs.YtoehlaeaafalmaaGreat.errno;refine hid5 ?_ hsh hme hbe hse hA1;clear hsh hme hbe hse hA1;intro hsh hme hbe hse hA1;go_wp2_with fail;refine hA1.out.mono ?_;rintro e wf ⟨b1,rfl,hb1,hsh2,-,hmf⟩;have hbf:=hsh.out.keepS hmf hbe.out;have hEf:=hE.out wf
     cases b1 with
     | true =>
      clear hb1;refine hid4 ?_ hsh2 hmf hbf hEf;clear hsh2 hmf hbf hEf;intro hsh2 hmf hbf hEf;go_wp2_with fail;refine hEf.out.mono ?_;rintro e wg ⟨rfl,hmg⟩;have hf:=(hm1.out.trans hsh2.out.md).trans hmg;refine hid2 ?_ hf hmg;clear hf hmg;intro hf hmg;go_wp2;go_ret;exact ⟨rfl,hf.out⟩
     | false =>
      have hL4:L3 = L':=by
       rcases hL3.out with e | e
       ·cases hb1 e
       ·exact e
      clear z0 zf zl;obtain ⟨z0,zf,zl⟩:=hbf.c;have hA2:=hsh2.agrees hbf.2 hK2.out.1 hK2.out.2;clear hb1;refine hid6 ?_ hsh2 hmf hbf hEf hA2 hL4;clear hsh2 hmf hbf hEf hA2 hL4;intro hsh2 hmf hbf hEf hA2 hL4;go_wp2_with fail;refine hA2.out.mono ?_;rintro e wg ⟨b2,rfl,hb2,hsh3,-,hmg⟩;obtain rfl:=hb2 hL4.out;have hEg:=hE.out wg;clear hb2;refine hid3 ?_ hsh3 hmg hEg;clear hsh3 hmg hEg;intro hsh3 hmg hEg;go_wp2_with fail;refine hEg.out.mono ?_;rintro e wi ⟨rfl,hmi⟩;have hf:=(hm1.out.trans hsh3.out.md).trans hmi;refine hid2 ?_ hf hmi;clear hf hmi;intro hf hmi;go_wp2;go_ret;exact ⟨rfl,hf.out⟩
  ·obtain rfl:k = l.length:=by omega
   generalize rRunK (l.take l.length) = L at *;have hA1:=hd.shown.agrees hsb.2 hd.kl hd.len;generalize l.length = n at *;obtain ⟨z0,zf,zl⟩:=hsb.c;refine hid3 ?_ hd hsb hA1;clear hd hsb hA1;intro hd hsb hA1;go_wp2_with fail;refine hA1.out.mono ?_;rintro e w6 ⟨b,rfl,hb,s1',-,hm6⟩;obtain rfl:=hb (by trivial);have hEg:=hE.out w6;clear hb;refine hid3 ?_ hm6 s1' hEg;clear hm6 s1' hEg;intro hm6 s1' hEg;go_wp2_with fail;refine hEg.out.mono ?_;rintro e wi ⟨rfl,hmi⟩;have hf:=(hm1.out.trans s1'.out.md).trans hmi;refine hid2 ?_ hf hmi;clear hf hmi;intro hf hmi;go_wp2;go_ret;exact ⟨rfl,hf.out⟩
theorem lawKeysAtomic (v:Value) (l:List OpK) (cut:Int) (w:World) (i0:InKOps w v l) (hc:(Lit.int .i64 cut).wf = true) :
  Calls Tryz.prog 6 #[v,.int .i64 cut] w fun e w'=>e = .returned (.bool true)∧Below w.heap.size w w':=by
 obtain ⟨va,vc,rfl,-⟩:=id i0;by_cases h:lightB l = false ∨ cut < 0
 ·exact (Zh5 i0 h).mono fun e w' ⟨a,b⟩=>⟨a,b.below⟩
 ·have h2:0≤cut:=Int.not_lt.1 fun q=>h (.inr q)
  have h1:lightB l = true:=by
   cases hq:lightB l with
   | true=>rfl
   | false=>exact absurd (.inl hq) h
  obtain ⟨n,rfl⟩:=Int.eq_ofNat_of_zero_le h2;exact (Zh6 i0 h1 (by have:=Xd hc;unfold I64 at this;omega)).mono fun e w' ⟨a,b⟩=>⟨a,b.below⟩
end Go.Proofs.YtoehlaeaafalmaaGreat
