/-
  Requests of content management that came in.
-/
import Derived.Test.YtanioleniadhoaaGreatAG36
import Derived.Test.YtanioleniadhoaaGreatAK21
set_option linter.unusedVariables false
set_option linter.unusedSimpArgs false
set_option maxRecDepth 100000
namespace Go.Proofs.YtanioleniadhoaaGreat
open Go.RowKit Go.ChangeShapes Go.WideShapes Go.ChangeAt
open Jn
structure RqV where
 v1:Value
 v2:Value
 v3:Value
 v4:Value
 v6:Value
 v7:Value
 r:Tk.Rq
def RqV.cells (x:RqV):List Value:=[.int .i64 x.r.act,x.v1,x.v2,x.v3,x.v4,.int .i64 x.r.prv,x.v6,x.v7]
structure RqAt (w:World) (x:RqV):Prop where
 s1:Src w x.v1 x.r.dom
 s2:Src w x.v2 x.r.pac
 s3:Src w x.v3 x.r.app
 s4:Src w x.v4 x.r.dst
 s6:Src w x.v6 x.r.par
 s7:Src w x.v7 x.r.hsh
 b1:Bytes x.r.dom
 b2:Bytes x.r.pac
 b3:Bytes x.r.app
 b4:Bytes x.r.dst
 b6:Bytes x.r.par
 b7:Bytes x.r.hsh
theorem RqAt.fresh {w w':World} {x:RqV} (h:RqAt w x) (hm:Mod Nowhere w w'):RqAt w' x:={ h with s1:=h.s1.fresh hm,s2:=h.s2.fresh hm,s3:=h.s3.fresh hm,s4:=h.s4.fresh hm,s6:=h.s6.fresh hm,s7:=h.s7.fresh hm }
theorem open_reqc {H:Type} {enc:TypeId × Value→H} {W:World} {fuel:Nat} {cs:List Value} {x:DataW H × List MemPlace} (h:DataW.trod enc Tryz.prog W 0 (fun _=>true) true fuel 24 cs = some x):∃ z:RqV,cs = z.cells∧RqAt W z:=by
 obtain ⟨hlen,n,hfl⟩:=open_struct (l:=[(3,0),(22,1),(22,2),(22,3),(22,4),(3,5),(22,6),(22,7)]) (by kernel_rfl) (by decide) h;obtain ⟨y0,g0⟩:=hfl 0 _ _ rfl;obtain ⟨y1,g1⟩:=hfl 1 _ _ rfl;obtain ⟨y2,g2⟩:=hfl 2 _ _ rfl;obtain ⟨y3,g3⟩:=hfl 3 _ _ rfl;obtain ⟨y4,g4⟩:=hfl 4 _ _ rfl;obtain ⟨y5,g5⟩:=hfl 5 _ _ rfl;obtain ⟨y6,g6⟩:=hfl 6 _ _ rfl;obtain ⟨y7,g7⟩:=hfl 7 _ _ rfl;have e1:Tryz.prog.cellsOf 3 = 1:=by kernel_rfl
 have e2:Tryz.prog.cellsOf 22 = 1:=by kernel_rfl
 have e3:Tryz.prog.cellsOf 24 = 8:=by kernel_rfl
 rw [e1] at g0 g5;rw [e2] at g1 g2 g3 g4 g6 g7;rw [e3] at hlen
 match cs,hlen with
 | [v0,v1,v2,v3,v4,v5,v6,v7],_ =>
  simp only [List.drop_zero,List.take_succ_cons,List.take_zero,List.drop_succ_cons] at g0 g1 g2 g3 g4 g5 g6 g7;obtain ⟨n0,q0,_,w0⟩:=DataW.trod_int Tryz.underlying3 g0;obtain ⟨n5,q5,_,w5⟩:=DataW.trod_int Tryz.underlying3 g5;obtain ⟨a1,d1,q1,s1,b1⟩:=open_src g1;obtain ⟨a2,d2,q2,s2,b2⟩:=open_src g2;obtain ⟨a3,d3,q3,s3,b3⟩:=open_src g3;obtain ⟨a4,d4,q4,s4,b4⟩:=open_src g4;obtain ⟨a6,d6,q6,s6,b6⟩:=open_src g6;obtain ⟨a7,d7,q7,s7,b7⟩:=open_src g7;simp only [List.cons.injEq,and_true] at q0 q1 q2 q3 q4 q5 q6 q7;subst q0 q1 q2 q3 q4 q5 q6 q7;exact ⟨⟨v1,v2,v3,v4,v6,v7,⟨n0,d1,d2,d3,d4,n5,d6,d7⟩⟩,rfl,⟨s1,s2,s3,s4,s6,s7,b1,b2,b3,b4,b6,b7⟩⟩
theorem open_row_req {H:Type} {enc:TypeId × Value→H} {W:World} {v:Value} {d:DataW H} {p:List MemPlace} (hv:Value.okWide Tryz.prog W .any 0 24 v) (h:DataW.Trod enc Tryz.prog W 0 (fun _=>true) true 24 v d p):∃ z:RqV,v = .agg z.cells.toArray∧RqAt W z:=by
 have hu:∃ fs,Tryz.prog.underlying 24 = some (.struct fs):=by
  have:(Tryz.prog.underlying 24).map (fun x=>match x with | .struct fs=>fs.size | _=>0) = some 8:=by kernel_rfl
  cases hh:Tryz.prog.underlying 24 with
  | none=>rw [hh] at this;cases this
  | some d =>
   rw [hh] at this
   cases d <;> simp at this
   exact ⟨_,rfl⟩
 obtain ⟨fs,hfs⟩:=hu;obtain ⟨cs,rfl,hcs⟩:=okWide_struct hfs hv;obtain ⟨fuel,hf⟩:=h;obtain ⟨z,e,hz⟩:=open_reqc hf;refine ⟨z,?_,hz⟩;obtain ⟨l⟩:=cs;simp only [Value.cells] at e;rw [e]
end Go.Proofs.YtanioleniadhoaaGreat
