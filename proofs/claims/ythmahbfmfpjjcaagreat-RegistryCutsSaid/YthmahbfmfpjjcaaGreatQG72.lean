/-
  The registry: Check of the program.
-/
import Derived.Test.YthmahbfmfpjjcaaGreatQG71
import Derived.Test.YthmahbfmfpjjcaaGreatQG36
set_option linter.unusedVariables false
set_option linter.unusedSimpArgs false
set_option maxRecDepth 100000
namespace Go.Proofs.YthmahbfmfpjjcaaGreat
open Go.RowKit
open Jn Vn Rg
attribute [local go_sem] Oper.semAt_some
end Go.Proofs.YthmahbfmfpjjcaaGreat
/-
 The law RegistryChecks: identifiers that are too long.
-/
namespace Go.Proofs.YthmahbfmfpjjcaaGreat
open Go.RowKit
open Jn Vn Rg
attribute [local go_sem] Oper.semAt_some
end Go.Proofs.YthmahbfmfpjjcaaGreat
/-
 Entries of the registry that came in.
-/
namespace Go.Proofs.YthmahbfmfpjjcaaGreat
open Go.RowKit Go.ChangeShapes Go.WideShapes Go.ChangeAt
open Jn Vn Rg
def I64 (x:Int):Prop:=-9223372036854775808≤x∧x≤9223372036854775807
structure EntI where
 u:Value
 v:Value
 e:REn
def EntI.cells (x:EntI):List Value:=eCells x.u x.v x.e
structure EntIn (w:World) (x:EntI):Prop where
 inE:InE w x.u x.v x.e
 n1:I64 x.e.kind
 n2:I64 x.e.st
 n3:I64 x.e.bf
 n4:I64 x.e.pr
 n5:I64 x.e.pk
 n6:I64 x.e.ob
theorem wfI64 {n:Int} (h:(Lit.int .i64 n).wf = true):I64 n:=by
 simp only [Lit.wf,Bool.and_eq_true,decide_eq_true_eq] at h;exact h
theorem ZiL {H:Type} {enc:TypeId × Value→H} {W:World} {fuel:Nat} {cs:List Value} {x:DataW H × List MemPlace} (h:DataW.trod enc Tryz.prog W 0 (fun _=>true) true fuel 24 cs = some x):∃ z:EntI,cs = z.cells∧EntIn W z:=by
 obtain ⟨hlen,n,hfl⟩:=ZcE (l:=[(22,0),(3,1),(3,2),(3,3),(3,4),(22,5),(3,6),(3,7)]) (by kernel_rfl) (by decide) h;obtain ⟨y0,g0⟩:=hfl 0 _ _ rfl;obtain ⟨y1,g1⟩:=hfl 1 _ _ rfl;obtain ⟨y2,g2⟩:=hfl 2 _ _ rfl;obtain ⟨y3,g3⟩:=hfl 3 _ _ rfl;obtain ⟨y4,g4⟩:=hfl 4 _ _ rfl;obtain ⟨y5,g5⟩:=hfl 5 _ _ rfl;obtain ⟨y6,g6⟩:=hfl 6 _ _ rfl;obtain ⟨y7,g7⟩:=hfl 7 _ _ rfl;have e1:Tryz.prog.cellsOf 3 = 1:=by kernel_rfl
 have e2:Tryz.prog.cellsOf 22 = 1:=by kernel_rfl
 have e3:Tryz.prog.cellsOf 24 = 8:=by kernel_rfl
 rw [e1] at g1 g2 g3 g4 g6 g7;rw [e2] at g0 g5;rw [e3] at hlen
 match cs,hlen with
 | [v0,v1,v2,v3,v4,v5,v6,v7],_ =>
  simp only [List.drop_zero,List.take_succ_cons,List.take_zero,List.drop_succ_cons] at g0 g1 g2 g3 g4 g5 g6 g7;obtain ⟨n1,q1,_,w1⟩:=DataW.trod_int Tryz.underlying3 g1;obtain ⟨n2,q2,_,w2⟩:=DataW.trod_int Tryz.underlying3 g2;obtain ⟨n3,q3,_,w3⟩:=DataW.trod_int Tryz.underlying3 g3;obtain ⟨n4,q4,_,w4⟩:=DataW.trod_int Tryz.underlying3 g4;obtain ⟨n6,q6,_,w6⟩:=DataW.trod_int Tryz.underlying3 g6;obtain ⟨n7,q7,_,w7⟩:=DataW.trod_int Tryz.underlying3 g7;obtain ⟨a0,d0,q0,s0,b0⟩:=Y3 g0;obtain ⟨a5,d5,q5,s5,b5⟩:=Y3 g5;simp only [List.cons.injEq,and_true] at q0 q1 q2 q3 q4 q5 q6 q7
  subst q0 q1 q2 q3 q4 q5 q6 q7;exact ⟨⟨v0,v5,⟨n1,n2,n3,n4,n6,n7,d0,d5⟩⟩,rfl,⟨⟨s0,s5,b0,b5⟩,wfI64 w1,wfI64 w2,wfI64 w3,wfI64 w4,wfI64 w6,wfI64 w7⟩⟩
end Go.Proofs.YthmahbfmfpjjcaaGreat
