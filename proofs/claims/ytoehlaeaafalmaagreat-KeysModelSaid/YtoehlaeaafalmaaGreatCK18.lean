/-
  The laws of chapter 22: agrees on keys that show a list; the cells of an action; the box of the reference's list.
-/
import Derived.Test.YtoehlaeaafalmaaGreatCK17
import Derived.Test.YtoehlaeaafalmaaGreatCK16
set_option linter.unusedVariables false
set_option linter.unusedSimpArgs false
set_option maxHeartbeats 16000000
set_option maxRecDepth 100000
namespace Go.Proofs.YtoehlaeaafalmaaGreat
open Go.RowKit
open Jn Vn Rg Ky
attribute [local go_sem] Oper.semAt_some
section
variable {W0 W W' : World} {A : VAt} {kb mb k : Nat} {L L' : List KEn} {va : Option Addr} {vc : Nat}
theorem Shown22.agrees (h:Shown22 W0 W kb mb L) (hr:RL W va vc L') (hK:KL L') (hlen:L'.length≤1000) :
  Calls Tryz.prog 15 #[ptr kb,.agg #[.slice va L'.length vc]] W fun e w'=>∃ b,e = .returned (.bool b)∧(L = L'→b = true)∧Shown22 W0 w' kb mb L∧MapIs w' mb∧Mod (OneB mb) W w':=by
 obtain ⟨⟨A2,m,s,h1,h2⟩,h3,h4⟩:=h;refine (ZhN h1 hr hK hlen).mono fun e w' ⟨b,a1,a2,a3,a4⟩=>?_;rw [h2] at a2;exact ⟨b,a1,a2,⟨⟨A2,m,s,a3,h2⟩,h3,h4.step a4 fun i hi e=>by have e:i = mb:=e;omega⟩,a3.map,a4⟩
def SB (W:World) (N:Nat) (va:Option Addr) (vc:Nat) (L:List KEn):Prop:=Blk W N [.slice va L.length vc] 32∧RL W va vc L
theorem SB.fresh {N:Nat} (h:SB W N va vc L) (hm:Mod Nowhere W W'):SB W' N va vc L:=⟨h.1.mod hm id,h.2.fresh hm⟩
theorem SB.c {N:Nat} (h:SB W N va vc L):W.cell? ⟨N,0,none⟩ = some (.slice va L.length vc)∧W.frozen? ⟨N,0,none⟩ = false∧N < W.heap.size:=⟨h.1.cell 0,h.1.frozen 0,h.1.lt⟩
theorem SB.new {N:Nat} (w:World) (hr:RL w va vc L) (hN:w.heap.size = N):SB (w.alloc (.cells #[.slice va L.length vc] 32)) N va vc L:=by
 subst hN;exact ⟨Blk.new w _ _,hr.fresh ((Mod.refl _ w).alloc _)⟩
theorem SB.put {N:Nat} {c0:Value} (hb:Blk W N [c0] 32) (hr:RL W va vc L):SB (W.setCell ⟨N,0,none⟩ (.slice va L.length vc)) N va vc L∧Mod (fun j=>j = N) W (W.setCell ⟨N,0,none⟩ (.slice va L.length vc)):=by
 have m:Mod (fun k=>k = N) W (W.setCell ⟨N,0,none⟩ (.slice va L.length vc)):=(Mod.refl (fun k=>k = N) W).setCell (p:=⟨N,0,none⟩) (fun _=>rfl) _;exact ⟨⟨hb.setCell 0 _,hr.mod m (Zh hb (by decide)) (Zh hb (by decide))⟩,m⟩
theorem KC.keepS {pd:Bool} {N:Nat} (h:KC W0 W A kb mb k pd L) (hm:Mod (KS A mb) W W') (hs:SB W N va vc L'):SB W' N va vc L':=⟨h.off hs.1 (by decide) (by decide) hm,h.keepL hm hs.2⟩
theorem Shown22.keepS {N:Nat} (h:Shown22 W0 W kb mb L) (hm:Mod (OneB mb) W W') (hs:SB W N va vc L'):SB W' N va vc L':=⟨h.keepB hm hs.1,h.keepL hm hs.2⟩
end
theorem InKOps.ce {w:World} {va:Option Addr} {vc:Nat} {l:List OpK} (h:InKOps w (.slice va l.length vc) l) {k:Nat} (hk:k < l.length):∃ b off x0 x1 x2 a1 n1 c1 x3,va = some ⟨b,off,none⟩∧l.length≤vc∧vc≤maxLen∧l[k].cells = [.int .i64 x0,.int .i64 x1,.int .i64 x2,.slice a1 n1 c1,.int .i64 x3]∧∀ X,Mod Nowhere w X→X.cell? ⟨b,off + k * 5,none⟩ = some (.int .i64 x0)∧X.cell? ⟨b,off + k * 5 + 1,none⟩ = some (.int .i64 x1)∧X.cell? ⟨b,off + k * 5 + 2,none⟩ = some (.int .i64 x2)∧X.cell? ⟨b,off + k * 5 + 3,none⟩ = some (.slice a1 n1 c1)∧X.cell? ⟨b,off + k * 5 + 4,none⟩ = some (.int .i64 x3)∧b < X.heap.size:=by
 obtain ⟨b,off,cap',e0,g1,g2,hx⟩:=h.at_ hk
 obtain ⟨rfl,rfl⟩:va = some ⟨b,off,none⟩∧vc = cap':=by
  simp at e0;exact ⟨e0.1,e0.2⟩
 obtain ⟨a1,c1,e1,-⟩:=hx.at_.src
 have hce:l[k].cells = [.int .i64 l[k].act,.int .i64 l[k].k.x.set,.int .i64 l[k].k.x.kind,.slice a1 l[k].k.x.val.length c1,.int .i64 l[k].k.x.lim]:=by
  rw [← e1];rfl
 refine ⟨b,off,_,_,_,a1,_,c1,_,rfl,g1,g2,hce,fun X hm=>?_⟩;have hX:=hx.fresh hm;have hc:∀ j,j < 5→X.cell? ⟨b,off + k * 5 + j,none⟩ = l[k].cells[j]?:=hX.cell;rw [hce] at hc;exact ⟨hc 0 (by omega),hc 1 (by omega),hc 2 (by omega),hc 3 (by omega),hc 4 (by omega),hX.lt⟩
theorem InKOps.op {w:World} {v:Value} {l:List OpK} (h:InKOps w v l) {k:Nat} (hk:k < l.length):OpKAt w l[k]:=by
 obtain ⟨b,off,cap',e0,g1,g2,hx⟩:=h.at_ hk;exact hx.at_
theorem ZhX {l:List OpK} (h:lightB l = true):l.length≤60:=by
 unfold lightB at h;simp only [Bool.and_eq_true,decide_eq_true_eq] at h;exact h.1
theorem SPost.box {W W':World} {e:Ending} {L:List KEn} (h:SPost W L e W'):∃ va vc,e = .returned (.agg #[.slice va L.length vc])∧SB (W'.alloc (.cells #[.slice va L.length vc] 32)) W'.heap.size va vc L∧Mod Nowhere W (W'.alloc (.cells #[.slice va L.length vc] 32))∧W.heap.size≤W'.heap.size:=by
 obtain ⟨va,vc,rfl,h1,h2⟩:=h;exact ⟨va,vc,rfl,SB.new W' h1 rfl,h2.alloc _,h2.size⟩
theorem ZhY {w:World} {l:List OpK} {va:Option Addr} {vc:Nat} (i0:InKOps w (.slice va l.length vc) l) (hq:lightB l = false) :
  Calls Tryz.prog 3 #[.slice va l.length vc] w fun e w'=>e = .returned (.bool true)∧Mod Nowhere w w':=by
 have hL:=ZcB i0;rw [hq] at hL;have hE:=fun W=>Zcs W;clear i0;refine hid2 ?_ hL hE;clear hL hE;intro hL hE;go_enter Tryz.func3,Tryz.ntmps3;go_wp2_with fail;refine (hL.out).mono ?_;rintro e w1 ⟨rfl,hm1⟩;replace hm1:=Lib.hid hm1;go_wp2_with fail;refine (hE.out w1).mono ?_;rintro e w2 ⟨rfl,hm2⟩;have hf:=hm1.out.trans hm2;refine hid2 ?_ hf hm2;clear hf hm2;intro hf hm2;go_wp2;go_ret;exact ⟨rfl,hf.out⟩
theorem ZhZ {w:World} {l:List OpK} {va:Option Addr} {vc:Nat} (i0:InKOps w (.slice va l.length vc) l) (hq:lightB l = true) :
  Calls Tryz.prog 3 #[.slice va l.length vc] w fun e w'=>e = .returned (.bool true)∧Mod Nowhere w w':=by
 have hL:=ZcB i0;rw [hq] at hL;have hE:=fun W=>Zcs W;have hO:=fun W=>Zcp W;have hF:=fun W=>Zhs W;have hl60:=ZhX hq;refine hid5 ?_ i0 hL hE hO hF;clear i0 hL hE hO hF;intro i0 hL hE hO hF;go_enter Tryz.func3,Tryz.ntmps3;go_wp2_with fail;refine (hL.out).mono ?_;rintro e w1 ⟨rfl,hm1⟩;have i1:=i0.out.fresh hm1;refine hid2 ?_ hm1 i1;clear hm1 i1;intro hm1 i1
 go_upto_region 3 with (fail)
 go_wp2_with fail;refine (hO.out _).mono ?_;intro e w2 ho;obtain ⟨A,kb,mb,rfl,hd⟩:=KC.new ho;clear ho;replace hd:=Lib.hid hd
 go_upto_region 4 with (fail)
 go_wp2_with fail;refine (hF.out _).mono ?_;intro e w3 hs;obtain ⟨fa,fc,rfl,hsb,hm4,hsz⟩:=hs.box;have hd4:=hd.out.fresh hm4;clear hs;simp only [List.length_nil] at hsb hm4 hd4 ⊢;generalize hN:w3.heap.size = N at *
 have hNw:w1.heap.size≤N:=by
  have:=hd.out.md.size;omega
 refine hid3 ?_ hsb hm4 hd4;clear hsb hm4 hd4;intro hsb hm4 hd4
 go_upto_region 5 with (fail)
 generalize w3.alloc (.cells #[.slice fa 0 fc] 32) = w4 at *;clear hm4 hN hsz hd;go_wp2
 go_loopw [8] (fun i wr=>∃ (k:Nat) (sa:Option Addr) (sc:Nat),k≤l.length∧i = .int .i64 k∧KC w1 wr A kb mb k false (rRunK (l.take k))∧SB wr N sa sc (rRunK (l.take k))) (fun i _=>l.length - (intOf i).toNat)
 case atStart=>exact ⟨0,fa,fc,by omega,rfl,hd4.out,hsb.out⟩
 case round =>
  clear hsb hd4;obtain ⟨k,sa,sc,hk,rfl,hd,hsb⟩:=hrel;by_cases hlt:k < l.length
  ·have hki:(k:Int) < (l.length:Int):=by omega
   have hop:=i1.out.op hlt;have hD:=hd.do_ (by omega) (KeyAt.fresh hop hd.md);have hP:=fun Y va vc (h1:Mod Nowhere w1 Y) (h2:RL Y va vc (rRunK (l.take k)))=>ZhU h2 hd.kl hd.len (KeyAt.fresh hop h1);obtain ⟨b,off,x0,x1,x2,a1,n1,c1,x3,rfl,g1,g2,hce,hoc⟩:=i1.out.ce hlt;rw [hce,← ZcC l hlt] at hD;rw [hce,← ZcC l hlt] at hP;obtain ⟨L',hL'⟩:∃ L',rRunK (l.take (k + 1)) = L':=⟨_,rfl⟩;rw [hL'] at hD hP;generalize (rDo (rRunK (l.take k)) l[k].act l[k].k.x).2.1 = nn at *;generalize (rDo (rRunK (l.take k)) l[k].act l[k].k.x).2.2 = er at *;obtain ⟨L,hL⟩:∃ L,rRunK (l.take k) = L:=⟨_,rfl⟩;rw [hL] at hd hsb hD hP
   obtain ⟨o0,o1,o2,o3,o4,ol⟩:=hoc wr hd.md;clear hop;refine hid8 ?_ hd hsb hD hP hoc hce hL' hL;clear hd hsb hD hP hoc hce hL' hL;intro hd hsb hD hP hoc hce hL' hL;go_wp2_with fail;refine hD.out.mono ?_;rintro e v1 ⟨n',er',rfl,ho,hS⟩;rcases ho with ⟨rfl,rfl,hd2⟩ | ⟨-,-,hx,-⟩
   case inr=>cases hx
   have hs2:=hd.out.keepS hS hsb.out;clear o0 o1 o2 o3 o4 ol;obtain ⟨o0,o1,o2,o3,o4,ol⟩:=hoc.out v1 hd2.md;obtain ⟨z0,zf,zl⟩:=hs2.c;have hdv:=(Mod.refl Nowhere v1).drew;have hP1:=fun Y (hY:Mod Nowhere v1 Y)=>hP.out Y _ _ (hd2.md.trans hY) (hs2.2.fresh hY);have mA:=((Mod.refl Nowhere v1).alloc (.cells #[.slice none 0 0] 32)).drew;have bA:Blk (v1.alloc (.cells #[.slice none 0 0] 32)).drew v1.heap.size [.slice none 0 0] 32:=(Blk.new v1 [.slice none 0 0] 32).drew;have hNlt:N < v1.heap.size:=zl;refine hid7 ?_ hd2 hs2 hS hdv hP1 mA bA;clear hd2 hs2 hS hdv hP1 mA bA;intro hd2 hs2 hS hdv hP1 mA bA
   go_upto_region 11 with (fail)
   go_cut [11,12,13] (fun p q r wx=>∃ N8 sa2 sc2,p = ptr N8∧q = .int .i64 (n':Nat)∧r = errno (er':Nat)∧SB wx N8 sa2 sc2 L'∧Mod Nowhere v1 wx∧v1.heap.size≤N8)
   case first =>
    go_region_held3 (fun W=>W.cell? ⟨N,0,none⟩ = some (.slice sa L.length sc)∧W.cell? ⟨b,off + k * 5,none⟩ = some (.int .i64 x0)∧W.cell? ⟨b,off + k * 5 + 1,none⟩ = some (.int .i64 x1)∧W.cell? ⟨b,off + k * 5 + 2,none⟩ = some (.int .i64 x2)∧W.cell? ⟨b,off + k * 5 + 3,none⟩ = some (.slice a1 n1 c1)∧W.cell? ⟨b,off + k * 5 + 4,none⟩ = some (.int .i64 x3)) (simp [*,World.cell?_alloc_some,World.cell?_setCell_far,World.cell?_setCell_other])
     (first
      | (go_at_call 13;(with_reducible refine (hP1.out _ mA.out).mono ?_);rintro e v2 ⟨sa2,sc2,rfl,e1,hm2⟩;have hmS:=mA.out.trans hm2;have bT:=bA.out.mod hm2 id;have y0:=bT.cell 0;have yl:=bT.lt;have yf:=bT.frozen;simp only [gz0] at y0;have bN:=hs2.out.1.mod hmS id;have t0:=bN.cell 0;have tl:=bN.lt;simp only [gz0] at t0;obtain ⟨r0,r1,r2,r3,r4,rl⟩:=hoc.out v2 (hd2.out.md.trans hmS);clear bN;replace e1:=Lib.hid e1;replace hmS:=Lib.hid hmS;clear hm2;replace bT:=Lib.hid bT)
      | (go_at_call 13;(with_reducible refine (hP1.out _ hdv.out).mono ?_);rintro e v2 ⟨sa2,sc2,rfl,e1,hm2⟩;have hmS:=hdv.out.trans hm2;have bN:=hs2.out.1.mod hmS id;have t0:=bN.cell 0;have tl:=bN.lt;simp only [gz0] at t0;obtain ⟨r0,r1,r2,r3,r4,rl⟩:=hoc.out v2 (hd2.out.md.trans hmS);clear bN;replace e1:=Lib.hid e1;replace hmS:=Lib.hid hmS;clear hm2)
      | fail)
    ·have g1':=SB.new v2 e1.out rfl;have g5:=hmS.out.alloc (.cells #[.slice sa2 L'.length sc2] 32);refine hid2 ?_ g1' g5;clear g1' g5;intro g1' g5;go_wp2;go_meet
     case rel=>exact ⟨v2.heap.size,sa2,sc2,rfl,rfl,rfl,g1'.out,g5.out,hmS.out.size⟩
    ·obtain ⟨g1',g2'⟩:=SB.put bT.out e1.out;have g5:=hmS.out.own22 g2' (Nat.le_refl _);refine hid3 ?_ g1' g5 g2';clear g1' g5 g2';intro g1' g5 g2';go_wp2;go_meet
     case rel=>exact ⟨v1.heap.size,sa2,sc2,rfl,rfl,rfl,g1'.out,g5.out,Nat.le_refl _⟩
   case rest =>
    obtain ⟨N8,sa2,sc2,rfl,rfl,rfl,hb8,hm8,hN8⟩:=hcut;have d1:N8 ≠ N:=by omega
    have d2:N ≠ N8:=by omega
    clear z0 zf zl o0 o1 o2 o3 o4 ol;have hd8:=hd2.out.fresh hm8;have hs8:=hs2.out.fresh hm8;obtain ⟨r0,rf,rl⟩:=hb8.c;obtain ⟨z0,zf,zl⟩:=hs8.c;obtain ⟨g1',g2'⟩:=SB.put hs8.1 hb8.2;have hd9:=hd8.own hs8.1 g2' hNw;refine hid7 ?_ hb8 hm8 hd8 hs8 g1' g2' hd9;clear hb8 hm8 hd8 hs8 g1' g2' hd9;intro hb8 hm8 hd8 hs8 g1' g2' hd9;go_wp2;go_roundw
    case rel=>exact ⟨k + 1,sa2,sc2,by omega,by go_num,by rw [hL'.out];exact hd9.out,by rw [hL'.out];exact g1'.out⟩
    case measure=>simp [intOf];omega
  ·obtain rfl:k = l.length:=by omega
   generalize rRunK (l.take l.length) = L at *;have hO1:=hd.opens;have hK:=hd.kl;have hlen:=hd.len;generalize l.length = n at *;refine hid5 ?_ hd hsb hO1 hK hlen;clear hd hsb hO1 hK hlen;intro hd hsb hO1 hK hlen;go_wp2_with fail;refine hO1.out.mono ?_;rintro e w5 ⟨k2,m2,rfl,s2,s1,hne,hks,hm5⟩;have hb5:=hsb.out.fresh hm5;obtain ⟨z0,zf,zl⟩:=hb5.c;have hA:=s1.agrees hb5.2 hK.out hlen.out;refine hid7 ?_ hm5 hb5 s1 s2 hks hA hne;clear hm5 hb5 s1 s2 hks hA hne;intro hm5 hb5 s1 s2 hks hA hne;go_wp2_with fail;refine hA.out.mono ?_;rintro e w6 ⟨b,rfl,hb,s1',hmp,hm6⟩;obtain rfl:=hb (by trivial);have hb6:=s1.out.keepS hm6 hb5.out
   have s2':=hks.out w6 hm6 hmp;clear hb z0 zf zl;obtain ⟨z0,zf,zl⟩:=hb6.c;have hA2:=s2'.agrees hb6.2 hK.out hlen.out;refine hid6 ?_ hm6 hb6 s1' s2' hA2 hmp;clear hm6 hb6 s1' s2' hA2 hmp;intro hm6 hb6 s1' s2' hA2 hmp;go_wp2_with fail;refine hA2.out.mono ?_;rintro e w7 ⟨b,rfl,hb,s2'',-,hm7⟩;obtain rfl:=hb (by trivial);have hE7:=hE.out w7;clear hb;refine hid3 ?_ s2'' hm7 hE7;clear s2'' hm7 hE7;intro s2'' hm7 hE7;go_wp2_with fail;refine hE7.out.mono ?_;rintro e w8 ⟨rfl,hm8⟩;have hf:=(hm1.out.trans s2''.out.md).trans hm8;refine hid2 ?_ hm8 hf;clear hm8 hf;intro hm8 hf;go_wp2
   go_ret;exact ⟨rfl,hf.out⟩
theorem lawKeysModel (v:Value) (l:List OpK) (w:World) (i0:InKOps w v l) :
  Calls Tryz.prog 3 #[v] w fun e w'=>e = .returned (.bool true)∧Below w.heap.size w w':=by
 obtain ⟨va,vc,rfl,-⟩:=id i0
 cases hq:lightB l with
 | false=>exact (ZhY i0 hq).mono fun e w' ⟨a,b⟩=>⟨a,b.below⟩
 | true=>exact (ZhZ i0 hq).mono fun e w' ⟨a,b⟩=>⟨a,b.below⟩
end Go.Proofs.YtoehlaeaafalmaaGreat
