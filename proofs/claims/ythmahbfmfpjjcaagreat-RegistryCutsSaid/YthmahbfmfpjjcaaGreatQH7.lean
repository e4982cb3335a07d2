/-
  The laws' loop of actions.
-/
import Derived.Test.YthmahbfmfpjjcaaGreatQH6
set_option linter.unusedVariables false
set_option linter.unusedSimpArgs false
set_option maxHeartbeats 4000000
set_option maxRecDepth 100000
namespace Go.Proofs.YthmahbfmfpjjcaaGreat
open Go.RowKit
open Jn Vn Rg
attribute [local go_sem] Oper.semAt_some
structure DoSt (W0 W:World) (A:VAt) (rb B k:Nat) (M:Md):Prop where
 ex:∃ m s,RgL W A m s M rb (1000000000 - k * 1022784)∧m.pending = false∧s.l.length≤k
 bw:Blk W B [ptr A.M.mb,ptr A.vb,ptr rb] 48
 nw:∀ i,A.S i→W0.heap.size≤i
 md:Mod Nowhere W0 W
section
variable {W0 W W' : World} {A : VAt} {rb B k : Nat} {M : Md}
end
theorem DoSt.new {w w1:World} {e:Ending} (h:Opened w e w1):∃ A,∃ m:Nat,∃ rb,e = .returned (.tuple #[.agg #[ptr A.M.mb,ptr A.vb,ptr rb],.bool true])∧DoSt w (w1.alloc (.cells #[ptr A.M.mb,ptr A.vb,ptr rb] 48)) A rb w1.heap.size 0 mFirst∧A.cuts = 0:=by
 obtain ⟨A,m,rb,rfl,h1,h2,h3,h4,h5,h6⟩:=h;have hm:=m1 w1 [ptr A.M.mb,ptr A.vb,ptr rb] 48;exact ⟨A,0,rb,rfl,⟨⟨m,_,h1.fresh hm,h4,Nat.le_refl _⟩,Blk.new w1 [ptr A.M.mb,ptr A.vb,ptr rb] _,h3,h5.trans hm⟩,h6⟩
theorem FPost.box {W W':World} {o:Option En} {r:Ending} {re:REn} (hre:rOf o = re) (h:FPost W o r W'):∃ a1 c1 a2 c2,r = .returned (.tuple #[.agg #[.slice a1 re.aid.length c1,.int .i64 re.kind,.int .i64 re.st,.int .i64 re.bf,.int .i64 re.pr,.slice a2 re.dom.length c2,.int .i64 re.pk,.int .i64 re.ob],.bool o.isSome]) ∧
  Blk (W'.alloc (.cells #[.slice a1 re.aid.length c1,.int .i64 re.kind,.int .i64 re.st,.int .i64 re.bf,.int .i64 re.pr,.slice a2 re.dom.length c2,.int .i64 re.pk,.int .i64 re.ob] 24)) W'.heap.size [.slice a1 re.aid.length c1,.int .i64 re.kind,.int .i64 re.st,.int .i64 re.bf,.int .i64 re.pr,.slice a2 re.dom.length c2,.int .i64 re.pk,.int .i64 re.ob] 24∧DSl (W'.alloc (.cells #[.slice a1 re.aid.length c1,.int .i64 re.kind,.int .i64 re.st,.int .i64 re.bf,.int .i64 re.pr,.slice a2 re.dom.length c2,.int .i64 re.pk,.int .i64 re.ob] 24)) (.slice a1 re.aid.length c1) re.aid∧DSl (W'.alloc (.cells #[.slice a1 re.aid.length c1,.int .i64 re.kind,.int .i64 re.st,.int .i64 re.bf,.int .i64 re.pr,.slice a2 re.dom.length c2,.int .i64 re.pk,.int .i64 re.ob] 24)) (.slice a2 re.dom.length c2) re.dom∧Mod Nowhere W (W'.alloc (.cells #[.slice a1 re.aid.length c1,.int .i64 re.kind,.int .i64 re.st,.int .i64 re.bf,.int .i64 re.pr,.slice a2 re.dom.length c2,.int .i64 re.pk,.int .i64 re.ob] 24)):=by
 subst hre;obtain ⟨u,v,rfl,d1,d2,hm⟩:=h;obtain ⟨a1,c1,rfl,-⟩:=Sl.len d1;obtain ⟨a2,c2,rfl,-⟩:=Sl.len d2;generalize rOf o = re at *;have hA:=m1 W' [.slice a1 re.aid.length c1,.int .i64 re.kind,.int .i64 re.st,.int .i64 re.bf,.int .i64 re.pr,.slice a2 re.dom.length c2,.int .i64 re.pk,.int .i64 re.ob] 24;exact ⟨a1,c1,a2,c2,rfl,Blk.new W' [.slice a1 re.aid.length c1,.int .i64 re.kind,.int .i64 re.st,.int .i64 re.bf,.int .i64 re.pr,.slice a2 re.dom.length c2,.int .i64 re.pk,.int .i64 re.ob] _,d1.fresh hA,d2.fresh hA,hm.trans hA⟩
theorem Jw (l:List OpI) {k:Nat} (hk:k < l.length):(rPlay (rRun mFirst ((l.map OpI.r).take k)) l[k].r).1 = rRun mFirst ((l.map OpI.r).take (k + 1)):=by
 have:=ZgH mFirst (l.map OpI.r) (i:=k) (by simpa using hk);rw [this];simp
theorem InROps.ce {w:World} {va:Option Addr} {vc:Nat} {l:List OpI} (h:InROps w (.slice va l.length vc) l) {k:Nat} (hk:k < l.length):∃ b off x0 x1 x2 x3 x4 x5 x6 x7 a1 a2 a3 a4 n1 n2 n3 n4 c1 c2 c3 c4,va = some ⟨b,off,none⟩∧l.length≤vc∧vc≤maxLen∧l[k].cells = [.int .i64 x0,.slice a1 n1 c1,.int .i64 x1,.int .i64 x2,.int .i64 x3,.int .i64 x4,.slice a2 n2 c2,.int .i64 x5,.int .i64 x6,.slice a3 n3 c3,.slice a4 n4 c4,.int .i64 x7]∧∀ X,Mod Nowhere w X→X.cell? ⟨b,off + k * 12,none⟩ = some (.int .i64 x0)∧X.cell? ⟨b,off + k * 12 + 1,none⟩ = some (.slice a1 n1 c1)∧X.cell? ⟨b,off + k * 12 + 2,none⟩ = some (.int .i64 x1)∧X.cell? ⟨b,off + k * 12 + 3,none⟩ = some (.int .i64 x2)∧X.cell? ⟨b,off + k * 12 + 4,none⟩ = some (.int .i64 x3)∧X.cell? ⟨b,off + k * 12 + 5,none⟩ = some (.int .i64 x4)∧X.cell? ⟨b,off + k * 12 + 6,none⟩ = some (.slice a2 n2 c2)∧X.cell? ⟨b,off + k * 12 + 7,none⟩ = some (.int .i64 x5)∧X.cell? ⟨b,off + k * 12 + 8,none⟩ = some (.int .i64 x6)∧X.cell? ⟨b,off + k * 12 + 9,none⟩ = some (.slice a3 n3 c3)∧X.cell? ⟨b,off + k * 12 + 10,none⟩ = some (.slice a4 n4 c4)∧X.cell? ⟨b,off + k * 12 + 11,none⟩ = some (.int .i64 x7)∧b < X.heap.size:=by
 obtain ⟨b,off,cap',e0,g1,g2,hx⟩:=h.at_ hk
 obtain ⟨rfl,rfl⟩:va = some ⟨b,off,none⟩∧vc = cap':=by
  simp at e0;exact ⟨e0.1,e0.2⟩
 obtain ⟨a1,c1,e1,-⟩:=hx.at_.inE.sa;obtain ⟨a2,c2,e2,-⟩:=hx.at_.inE.sd;obtain ⟨a3,c3,e3,-⟩:=hx.at_.sa;obtain ⟨a4,c4,e4,-⟩:=hx.at_.sd
 have hce:l[k].cells = [.int .i64 l[k].act,.slice a1 l[k].e.aid.length c1,.int .i64 l[k].e.kind,.int .i64 l[k].e.st,.int .i64 l[k].e.bf,.int .i64 l[k].e.pr,.slice a2 l[k].e.dom.length c2,.int .i64 l[k].e.pk,.int .i64 l[k].e.ob,.slice a3 l[k].aid.length c3,.slice a4 l[k].dom.length c4,.int .i64 l[k].sx]:=by
  rw [← e1,← e2,← e3,← e4];rfl
 refine ⟨b,off,_,_,_,_,_,_,_,_,a1,a2,a3,a4,_,_,_,_,c1,c2,c3,c4,rfl,g1,g2,hce,fun X hm=>?_⟩;have hX:=hx.fresh hm;have hc:∀ j,j < 12→X.cell? ⟨b,off + k * 12 + j,none⟩ = l[k].cells[j]?:=hX.cell;rw [hce] at hc;exact ⟨hc 0 (by omega),hc 1 (by omega),hc 2 (by omega),hc 3 (by omega),hc 4 (by omega),hc 5 (by omega),hc 6 (by omega),hc 7 (by omega),hc 8 (by omega),hc 9 (by omega),hc 10 (by omega),hc 11 (by omega),hX.lt⟩
theorem InROps.op {w:World} {v:Value} {l:List OpI} (h:InROps w v l) {k:Nat} (hk:k < l.length):OpAt w l[k]:=by
 obtain ⟨b,off,cap',e0,g1,g2,hx⟩:=h.at_ hk;exact hx.at_
def fewOp (x:OpI):Bool:=decide (x.e.aid.length≤40) && decide (x.e.dom.length≤40) && decide (x.aid.length≤40) && decide (x.dom.length≤40)
def fewB (l:List OpI):Bool:=decide (l.length≤60) && l.all fewOp
theorem Zjb {l:List OpI} (h:fewB l = true):l.length≤60:=by unfold fewB at h;simp at h;exact h.1
theorem Jy {w:World} {v:Value} {l:List OpI} (h:InROps w v l):Calls Tryz.prog 25 #[v] w fun e w'=>e = .returned (.bool (fewB l))∧w' = w:=by
 obtain ⟨va,vc,rfl,h1,h2⟩:=h.gen;by_cases hl:l.length≤60
 ·have hb:¬ (l.length:Int) > 60:=by omega
  have hb':¬ 60 < l.length:=by omega
  have hfe:fewB l = l.all fewOp:=by unfold fewB;rw [decide_eq_true hl];rfl
  rw [hfe];clear hfe;replace h:=Lib.hid h;go_enter Tryz.func25,Tryz.ntmps25;go_wp2
  go_loopw [3] (fun i wr=>∃ k:Nat,k≤l.length∧i = .int .i64 k∧(l.take k).all fewOp = true∧wr = w) (fun i _=>l.length - (intOf i).toNat)
  case atStart=>exact ⟨0,by omega,rfl,rfl,rfl⟩
  case round =>
   obtain ⟨k,hk,rfl,hno,rfl⟩:=hrel;by_cases hlt:k < l.length
   ·obtain ⟨b,off,cap',e0,_,_,hx⟩:=h.out.at_ hlt
    obtain ⟨rfl,rfl⟩:va = some ⟨b,off,none⟩∧vc = cap':=by
     simp at e0;exact ⟨e0.1,e0.2⟩
    obtain ⟨a1,d1,e1,-⟩:=hx.at_.inE.sa;obtain ⟨a2,d2,e2,-⟩:=hx.at_.inE.sd;obtain ⟨a3,d3,e3,-⟩:=hx.at_.sa;obtain ⟨a4,d4,e4,-⟩:=hx.at_.sd;have c1:wr.cell? ⟨b,off + k * 12 + 1,none⟩ = some l[k].u:=hx.cell 1 (by omega);have c2:wr.cell? ⟨b,off + k * 12 + 1 + 5,none⟩ = some l[k].v:=hx.cell 6 (by omega);have c3:wr.cell? ⟨b,off + k * 12 + 9,none⟩ = some l[k].t:=hx.cell 9 (by omega);have c4:wr.cell? ⟨b,off + k * 12 + 10,none⟩ = some l[k].d:=hx.cell 10 (by omega);have hbl:=hx.lt;have hall:(l.take (k + 1)).all fewOp = fewOp l[k]:=by rw [List.take_succ_eq_append_getElem hlt,List.all_append,hno];simp
    have hany:fewOp l[k] = false→l.all fewOp = false:=fun hp=>List.all_eq_false.2 ⟨l[k],List.getElem_mem hlt,by rw [hp];decide⟩;have hop:fewOp l[k] = (decide (l[k].e.aid.length≤40) && decide (l[k].e.dom.length≤40) && decide (l[k].aid.length≤40) && decide (l[k].dom.length≤40)):=rfl;rw [e1] at c1;rw [e2] at c2;rw [e3] at c3;rw [e4] at c4;clear hx e1 e2 e3 e4;generalize l[k].e.aid.length = n1 at *;generalize l[k].e.dom.length = n2 at *;generalize l[k].aid.length = n3 at *;generalize l[k].dom.length = n4 at *;have hki:(k:Int) < (l.length:Int):=by omega
    refine hid4 ?_ hno hall hany hop;clear hno hall hany hop;intro hno hall hany hop;by_cases q1:n1 > 40
    ·have r1:(n1:Int) > 40:=by omega
     have hfin:=hany.out (by rw [hop.out,decide_eq_false (by omega:¬ n1≤40)];simp);replace hfin:=Lib.hid hfin;go_wp2;go_ret;exact ⟨Za hfin.out.symm,rfl⟩
    have r1:¬ (n1:Int) > 40:=by omega
    by_cases q2:n2 > 40
    ·have r2:(n2:Int) > 40:=by omega
     have hfin:=hany.out (by rw [hop.out,decide_eq_false (by omega:¬ n2≤40)];simp);replace hfin:=Lib.hid hfin;go_wp2;go_ret;exact ⟨Za hfin.out.symm,rfl⟩
    have r2:¬ (n2:Int) > 40:=by omega
    by_cases q3:n3 > 40
    ·have r3:(n3:Int) > 40:=by omega
     have hfin:=hany.out (by rw [hop.out,decide_eq_false (by omega:¬ n3≤40)];simp);replace hfin:=Lib.hid hfin;go_wp2;go_ret;exact ⟨Za hfin.out.symm,rfl⟩
    have r3:¬ (n3:Int) > 40:=by omega
    by_cases q4:n4 > 40
    ·have r4:(n4:Int) > 40:=by omega
     have hfin:=hany.out (by rw [hop.out,decide_eq_false (by omega:¬ n4≤40)];simp);replace hfin:=Lib.hid hfin;go_wp2;go_ret;exact ⟨Za hfin.out.symm,rfl⟩
    have r4:¬ (n4:Int) > 40:=by omega
    have hfin:=hop.out;rw [decide_eq_true (by omega:n1≤40),decide_eq_true (by omega:n2≤40),decide_eq_true (by omega:n3≤40),decide_eq_true (by omega:n4≤40)] at hfin;replace hfin:=Lib.hid hfin;go_wp2;go_roundw
    case rel=>exact ⟨k + 1,by omega,by go_num,by rw [hall.out];exact hfin.out,by first | rfl | trivial⟩
    case measure=>simp [intOf];omega
   ·have hki:¬ (k:Int) < (l.length:Int):=by omega
    have hke:l.all fewOp = true:=by
     have:k = l.length:=by omega
     rw [this,List.take_length] at hno;exact hno
    refine hid2 ?_ hno hke;clear hno hke;intro hno hke;go_wp2;go_ret;exact ⟨Za hke.out.symm,rfl⟩
 ·have hb:(l.length:Int) > 60:=by omega
  have hb':60 < l.length:=by omega
  have hfe:fewB l = false:=by unfold fewB;rw [decide_eq_false hl];rfl
  rw [hfe];clear hfe;replace h:=Lib.hid h;go_enter Tryz.func25,Tryz.ntmps25;go_wp2;go_ret;exact ⟨rfl,rfl⟩
end Go.Proofs.YthmahbfmfpjjcaaGreat
