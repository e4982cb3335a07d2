/-
  The laws of chapter 22: agrees on keys that show a list; the cells of an action; the box of the reference's list.
-/
import Derived.Test.YtoehlaeaafalmaaGreatEK17
import Derived.Test.YtoehlaeaafalmaaGreatEK16
set_option linter.unusedVariables false
set_option linter.unusedSimpArgs false
namespace Go.Proofs.YtoehlaeaafalmaaGreat
open Go.RowKit
open Jn Vn Rg Ky
attribute [local go_sem] Oper.semAt_some
section
variable {W0 W W' : World} {A : VAt} {kb mb k : Nat} {L L' : List KEn} {va : Option Addr} {vc : Nat}
theorem Shown22.agrees (h:Shown22 W0 W kb mb L) (hr:RL W va vc L') (hK:KL L') (hlen:L'.length≤1000) :
  Calls Tryz.prog 15 #[ptr kb,.agg #[.slice va L'.length vc]] W fun e w'=>∃ b,e = .returned (.bool b)∧(L = L'→b = true)∧Shown22 W0 w' kb mb L∧MapIs w' mb∧Mod (OneB mb) W w':=by
 obtain ⟨⟨A2,m,s,h1,h2⟩,h3,h4⟩:=h;refine (ZhQ h1 hr hK hlen).mono fun e w' ⟨b,a1,a2,a3,a4⟩=>?_;rw [h2] at a2;exact ⟨b,a1,a2,⟨⟨A2,m,s,a3,h2⟩,h3,h4.step a4 fun i hi e=>by have e:i = mb:=e;omega⟩,a3.map,a4⟩
def SB (W:World) (N:Nat) (va:Option Addr) (vc:Nat) (L:List KEn):Prop:=Blk W N [.slice va L.length vc] 32∧RL W va vc L
theorem SB.fresh {N:Nat} (h:SB W N va vc L) (hm:Mod Nowhere W W'):SB W' N va vc L:=⟨h.1.mod hm id,h.2.fresh hm⟩
theorem SB.c {N:Nat} (h:SB W N va vc L):W.cell? ⟨N,0,none⟩ = some (.slice va L.length vc)∧W.frozen? ⟨N,0,none⟩ = false∧N < W.heap.size:=⟨h.1.cell 0,h.1.frozen 0,h.1.lt⟩
theorem SB.new {N:Nat} (w:World) (hr:RL w va vc L) (hN:w.heap.size = N):SB (w.alloc (.cells #[.slice va L.length vc] 32)) N va vc L:=by
 subst hN;exact ⟨Blk.new w _ _,hr.fresh ((Mod.refl _ w).alloc _)⟩
theorem SB.put {N:Nat} {c0:Value} (hb:Blk W N [c0] 32) (hr:RL W va vc L):SB (W.setCell ⟨N,0,none⟩ (.slice va L.length vc)) N va vc L∧Mod (fun j=>j = N) W (W.setCell ⟨N,0,none⟩ (.slice va L.length vc)):=by
 have m:Mod (fun k=>k = N) W (W.setCell ⟨N,0,none⟩ (.slice va L.length vc)):=(Mod.refl (fun k=>k = N) W).setCell (p:=⟨N,0,none⟩) (fun _=>rfl) _;exact ⟨⟨hb.setCell 0 _,hr.mod m (Zi hb (by decide)) (Zi hb (by decide))⟩,m⟩
theorem KC.keepS {pd:Bool} {N:Nat} (h:KC W0 W A kb mb k pd L) (hm:Mod (KS A mb) W W') (hs:SB W N va vc L'):SB W' N va vc L':=⟨h.off hs.1 (by decide) (by decide) hm,h.keepL hm hs.2⟩
end
theorem InKOps.ce {w:World} {va:Option Addr} {vc:Nat} {l:List OpK} (h:InKOps w (.slice va l.length vc) l) {k:Nat} (hk:k < l.length):∃ b off x0 x1 x2 a1 n1 c1 x3,va = some ⟨b,off,none⟩∧l.length≤vc∧vc≤maxLen∧l[k].cells = [.int .i64 x0,.int .i64 x1,.int .i64 x2,.slice a1 n1 c1,.int .i64 x3]∧∀ X,Mod Nowhere w X→X.cell? ⟨b,off + k * 5,none⟩ = some (.int .i64 x0)∧X.cell? ⟨b,off + k * 5 + 1,none⟩ = some (.int .i64 x1)∧X.cell? ⟨b,off + k * 5 + 2,none⟩ = some (.int .i64 x2)∧X.cell? ⟨b,off + k * 5 + 3,none⟩ = some (.slice a1 n1 c1)∧X.cell? ⟨b,off + k * 5 + 4,none⟩ = some (.int .i64 x3)∧b < X.heap.size:=by
 obtain ⟨b,off,cap',e0,g1,g2,hx⟩:=h.at_ hk
 obtain ⟨rfl,rfl⟩:va = some ⟨b,off,none⟩∧vc = cap':=by
  simp at e0;exact ⟨e0.1,e0.2⟩
 obtain ⟨a1,c1,e1,-⟩:=hx.at_.src
 have hce:l[k].cells = [.int .i64 l[k].act,.int .i64 l[k].k.x.set,.int .i64 l[k].k.x.kind,.slice a1 l[k].k.x.val.length c1,.int .i64 l[k].k.x.lim]:=by
  rw [← e1];rfl
 refine ⟨b,off,_,_,_,a1,_,c1,_,rfl,g1,g2,hce,fun X hm=>?_⟩;have hX:=hx.fresh hm;have hc:∀ j,j < 5→X.cell? ⟨b,off + k * 5 + j,none⟩ = l[k].cells[j]?:=hX.cell;rw [hce] at hc;exact ⟨hc 0 (by omega),hc 1 (by omega),hc 2 (by omega),hc 3 (by omega),hc 4 (by omega),hX.lt⟩
theorem InKOps.op {w:World} {v:Value} {l:List OpK} (h:InKOps w v l) {k:Nat} (hk:k < l.length):OpKAt w l[k]:=by
 obtain ⟨b,off,cap',e0,g1,g2,hx⟩:=h.at_ hk;exact hx.at_
theorem ZhY {l:List OpK} (h:lightB l = true):l.length≤60:=by
 unfold lightB at h;simp only [Bool.and_eq_true,decide_eq_true_eq] at h;exact h.1
theorem SPost.box {W W':World} {e:Ending} {L:List KEn} (h:SPost W L e W'):∃ va vc,e = .returned (.agg #[.slice va L.length vc])∧SB (W'.alloc (.cells #[.slice va L.length vc] 32)) W'.heap.size va vc L∧Mod Nowhere W (W'.alloc (.cells #[.slice va L.length vc] 32))∧W.heap.size≤W'.heap.size:=by
 obtain ⟨va,vc,rfl,h1,h2⟩:=h;exact ⟨va,vc,rfl,SB.new W' h1 rfl,h2.alloc _,h2.size⟩
end Go.Proofs.YtoehlaeaafalmaaGreat
