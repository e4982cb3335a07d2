/-
  Keys, and actions on keys, that came in.
-/
import Derived.Test.YtoehlaeaafalmaaGreatCG36
import Derived.Test.YtoehlaeaafalmaaGreatCK6
set_option linter.unusedVariables false
set_option linter.unusedSimpArgs false
set_option maxHeartbeats 2000000
set_option maxRecDepth 100000
namespace Go.Proofs.YtoehlaeaafalmaaGreat
open Go.RowKit Go.ChangeShapes Go.WideShapes Go.ChangeAt
open Jn Vn Rg Ky
theorem Jl {n:Int} (h:(Lit.int .i64 n).wf = true):I64 n:=by
 simp only [Lit.wf,Bool.and_eq_true,decide_eq_true_eq] at h;exact h
structure KeyI where
 x:RK
 v:Value
def KeyI.cells (k:KeyI):List Value:=[.int .i64 k.x.set,.int .i64 k.x.kind,k.v,.int .i64 k.x.lim]
structure KeyAt (w:World) (k:KeyI):Prop where
 src:Src w k.v k.x.val
 by_:Bytes k.x.val
 n1:I64 k.x.set
 n2:I64 k.x.kind
 n3:I64 k.x.lim
theorem KeyAt.fresh {w w':World} {k:KeyI} (h:KeyAt w k) (hm:Mod Nowhere w w'):KeyAt w' k:={ h with src:=h.src.fresh hm }
structure OpK where
 act:Int
 k:KeyI
def OpK.cells (o:OpK):List Value:=.int .i64 o.act :: o.k.cells
def OpKAt (w:World) (o:OpK):Prop:=KeyAt w o.k
theorem ZhO {H:Type} {enc:TypeId × Value→H} {W:World} {fuel:Nat} {cs:List Value} {y:DataW H × List MemPlace} (h:DataW.trod enc Tryz.prog W 0 (fun _=>true) true fuel 39 cs = some y):∃ z:KeyI,cs = z.cells∧KeyAt W z:=by
 obtain ⟨hlen,n,hfl⟩:=Zcm (l:=[(3,0),(3,1),(37,2),(3,3)]) (by kernel_rfl) (by decide) h;obtain ⟨y0,g0⟩:=hfl 0 _ _ rfl;obtain ⟨y1,g1⟩:=hfl 1 _ _ rfl;obtain ⟨y2,g2⟩:=hfl 2 _ _ rfl;obtain ⟨y3,g3⟩:=hfl 3 _ _ rfl;have e1:Tryz.prog.cellsOf 3 = 1:=by kernel_rfl
 have e2:Tryz.prog.cellsOf 37 = 1:=by kernel_rfl
 have e3:Tryz.prog.cellsOf 39 = 4:=by kernel_rfl
 rw [e1] at g0 g1 g3;rw [e2] at g2;rw [e3] at hlen
 match cs,hlen with
 | [v0,v1,v2,v3],_ =>
  simp only [List.drop_zero,List.take_succ_cons,List.take_zero,List.drop_succ_cons] at g0 g1 g2 g3;obtain ⟨n0,q0,_,w0⟩:=DataW.trod_int Tryz.underlying3 g0;obtain ⟨n1,q1,_,w1⟩:=DataW.trod_int Tryz.underlying3 g1;obtain ⟨n3,q3,_,w3⟩:=DataW.trod_int Tryz.underlying3 g3;obtain ⟨a2,d2,q2,s2,b2⟩:=Zg0 g2;simp only [List.cons.injEq,and_true] at q0 q1 q2 q3;subst q0 q1 q2 q3;exact ⟨⟨⟨n0,n1,n3,d2⟩,v2⟩,rfl,⟨s2,b2,Jl w0,Jl w1,Jl w3⟩⟩
theorem ZhP {H:Type} {enc:TypeId × Value→H} {W:World} {fuel:Nat} {cs:List Value} {y:DataW H × List MemPlace} (h:DataW.trod enc Tryz.prog W 0 (fun _=>true) true fuel 41 cs = some y):∃ z:OpK,cs = z.cells∧OpKAt W z:=by
 obtain ⟨hlen,n,hfl⟩:=Zcm (l:=[(3,0),(39,1)]) (by kernel_rfl) (by decide) h;obtain ⟨y0,g0⟩:=hfl 0 _ _ rfl;obtain ⟨y1,g1⟩:=hfl 1 _ _ rfl;have e1:Tryz.prog.cellsOf 3 = 1:=by kernel_rfl
 have e2:Tryz.prog.cellsOf 39 = 4:=by kernel_rfl
 have e3:Tryz.prog.cellsOf 41 = 5:=by kernel_rfl
 rw [e1] at g0;rw [e2] at g1;rw [e3] at hlen
 match cs,hlen with
 | [v0,v1,v2,v3,v4],_ =>
  simp only [List.drop_zero,List.take_succ_cons,List.take_zero,List.drop_succ_cons] at g0 g1;obtain ⟨n0,q0,_,w0⟩:=DataW.trod_int Tryz.underlying3 g0;obtain ⟨z,q1,hz⟩:=ZhO g1;simp only [List.cons.injEq,and_true] at q0;subst q0;exact ⟨⟨n0,z⟩,by show _ = _ :: z.cells;rw [← q1],hz⟩
structure OpKIn (w:World) (b off:Nat) (o:OpK):Prop where
 lt:b < w.heap.size
 cell:∀ j,j < 5→w.cell? ⟨b,off + j,none⟩ = o.cells[j]?
 at_:OpKAt w o
theorem OpKIn.fresh {w w':World} {b off:Nat} {o:OpK} (h:OpKIn w b off o) (hm:Mod Nowhere w w'):OpKIn w' b off o :=
 ⟨Nat.lt_of_lt_of_le h.lt hm.size,fun j hj=>(hm.cell (p:=⟨b,off + j,none⟩) h.lt (fun e=>e)).trans (h.cell j hj),KeyAt.fresh h.at_ hm⟩
def InKOps (w:World) (v:Value) (l:List OpK):Prop :=
 ∃ a cap,v = .slice a l.length cap∧l.length≤cap∧cap≤maxLen∧(0 < l.length→∃ b off,a = some ⟨b,off,none⟩∧∀ i (hi:i < l.length),OpKIn w b (off + i * 5) l[i])
theorem InKOps.fresh {w w':World} {v:Value} {l:List OpK} (h:InKOps w v l) (hm:Mod Nowhere w w'):InKOps w' v l:=by
 obtain ⟨a,cap,e,h1,h2,h3⟩:=h
 exact ⟨a,cap,e,h1,h2,fun h0=>by
  obtain ⟨b,off,e,h4⟩:=h3 h0
  exact ⟨b,off,e,fun i hi=>(h4 i hi).fresh hm⟩⟩
theorem InKOps.gen {w:World} {v:Value} {l:List OpK} (h:InKOps w v l):∃ a cap,v = .slice a l.length cap∧l.length≤cap∧cap≤maxLen:=by
 obtain ⟨a,cap,e,h1,h2,-⟩:=h;exact ⟨a,cap,e,h1,h2⟩
theorem InKOps.at_ {w:World} {v:Value} {l:List OpK} (h:InKOps w v l) {i:Nat} (hi:i < l.length):∃ b off cap,v = .slice (some ⟨b,off,none⟩) l.length cap∧l.length≤cap∧cap≤maxLen∧OpKIn w b (off + i * 5) l[i]:=by
 obtain ⟨a,cap,e,h1,h2,h3⟩:=h;obtain ⟨b,off,e2,h4⟩:=h3 (by omega);subst e2;exact ⟨b,off,cap,e,h1,h2,h4 i hi⟩
end Go.Proofs.YtoehlaeaafalmaaGreat
namespace Go.Proofs.YtoehlaeaafalmaaGreat
open Go.RowKit
open Jn Vn Rg Ky
attribute [local go_sem] Oper.semAt_some
def lightB (l:List OpK):Bool:=decide (l.length≤60) && l.all fun o=>decide (o.k.x.val.length≤100)
theorem ZcB {w:World} {v:Value} {l:List OpK} (h:InKOps w v l):Calls Tryz.prog 8 #[v] w fun e w'=>e = .returned (.bool (lightB l))∧Mod Nowhere w w':=by
 obtain ⟨a,cap,rfl,h1,h2⟩:=h.gen;by_cases hl:l.length≤60
 ·have hB:lightB l = l.all fun o=>decide (o.k.x.val.length≤100):=by unfold lightB;rw [decide_eq_true hl,Bool.true_and]
  obtain ⟨n,hn⟩:∃ n,l.length = n:=⟨_,rfl⟩;have hn0:¬ (60:Int) < (n:Int):=by omega
  obtain ⟨R,hR⟩:∃ R,lightB l = R:=⟨_,rfl⟩;rw [hn,hR];rw [hR] at hB
  have hc:∀ W,Mod Nowhere w W→∀ k (hk:k < l.length),∃ b off a1 c1,a = some ⟨b,off,none⟩∧W.cell? ⟨b,off + k * 5 + 3,none⟩ = some (.slice a1 l[k].k.x.val.length c1)∧b < W.heap.size:=fun W hm k hk=>by
   obtain ⟨b,off,cap',e,-,-,hi⟩:=(h.fresh hm).at_ hk;simp at e;obtain ⟨a1,c1,e1,-⟩:=hi.at_.src;have:=hi.cell 3 (by omega);refine ⟨b,off,a1,c1,e.1,?_,hi.lt⟩;rw [this]
   show some l[k].k.v = _
   rw [e1]
  clear h;refine hid4 ?_ hB hn hR hc;clear hB hn hR hc;intro hB hn hR hc;go_enter Tryz.func8,Tryz.ntmps8;go_wp2
  go_loop [3] (fun i=>∃ k:Nat,k≤n∧i = .int .i64 k∧∀ j (hj:j < l.length),j < k→l[j].k.x.val.length≤100) (fun i=>n - (intOf i).toNat)
  case atStart=>exact ⟨0,by omega,rfl,fun j hj h=>by omega⟩
  case round =>
   obtain ⟨k,hk,rfl,hall⟩:=hrel;by_cases hlt:k < n
   ·have hkl:k < l.length:=by have:=hn.out;omega
    obtain ⟨b,off,a1,c1,e1,c3,cl⟩:=hc.out w (Mod.refl _ _) k hkl;have hki:(k:Int) < (n:Int):=by omega
    subst e1;obtain ⟨vn,hvn0⟩:∃ x,l[k].k.x.val.length = x:=⟨_,rfl⟩;rw [hvn0] at c3;have hvn:∀ h:k < l.length,l[k].k.x.val.length = vn:=fun _=>hvn0;clear hvn0;by_cases hv:vn≤100
    ·have hv1:¬ (100:Int) < (vn:Int):=by omega
     refine hid3 ?_ hall hvn hkl;clear hall hvn hkl;intro hall hvn hkl;go_wp2
     go_round
     case rel=>exact ⟨k + 1,by omega,by go_num,fun j hj h=>by
      by_cases e:j = k
      ·subst e;have:=hvn.out hj;omega
      ·exact hall.out j hj (by omega)⟩
     case measure=>simp [intOf];omega
    ·have hv1:(100:Int) < (vn:Int):=by omega
     have hf:R = false:=by
      rw [hB.out];rw [List.all_eq_false];exact ⟨l[k],List.getElem_mem hkl,by rw [hvn hkl];simp;omega⟩
     refine hid4 ?_ hall hvn hkl hf;clear hall hvn hkl hf;intro hall hvn hkl hf;go_wp2;go_ret;exact ⟨by rw [hf.out];rfl,Mod.refl _ _⟩
   ·obtain rfl:k = n:=by omega
    have hf:R = true:=by
     rw [hB.out,List.all_eq_true];intro o ho;obtain ⟨j,hj,rfl⟩:=List.getElem_of_mem ho;have:=hall j hj (by have:=hn.out;omega);exact decide_eq_true this
    refine hid2 ?_ hall hf;clear hall hf;intro hall hf;go_wp2;go_ret;exact ⟨by rw [hf.out];rfl,Mod.refl _ _⟩
 ·have hB:lightB l = false:=by unfold lightB;rw [decide_eq_false hl,Bool.false_and]
  obtain ⟨n,hn⟩:∃ n,l.length = n:=⟨_,rfl⟩;have hn0:(60:Int) < (n:Int):=by omega
  rw [hB,hn];clear h hB hl;replace hn:=Lib.hid hn;go_enter Tryz.func8,Tryz.ntmps8;go_wp2;go_ret;exact ⟨rfl,Mod.refl _ _⟩
end Go.Proofs.YtoehlaeaafalmaaGreat
