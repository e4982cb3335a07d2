/-
  Actions on the registry that came in.
-/
import Derived.Test.YthmahbfmfpjjcaaGreatQG72
set_option linter.unusedVariables false
set_option linter.unusedSimpArgs false
set_option maxRecDepth 100000
namespace Go.Proofs.YthmahbfmfpjjcaaGreat
open Go.RowKit Go.ChangeShapes Go.WideShapes Go.ChangeAt
open Jn Vn Rg
structure OpI where
 act:Int
 u:Value
 v:Value
 e:REn
 t:Value
 aid:List Nat
 d:Value
 dom:List Nat
 sx:Int
def OpI.r (x:OpI):ROp:=⟨x.act,x.e,x.aid,x.dom,x.sx⟩
def OpI.cells (x:OpI):List Value:=[.int .i64 x.act] ++ eCells x.u x.v x.e ++ [x.t,x.d,.int .i64 x.sx]
structure OpAt (w:World) (x:OpI):Prop where
 inE:InE w x.u x.v x.e
 sa:Src w x.t x.aid
 ba:Bytes x.aid
 sd:Src w x.d x.dom
 bd:Bytes x.dom
 p0:-9223372036854775808≤x.e.pr
 p1:x.e.pr≤9223372036854775807
theorem OpAt.fresh {w w':World} {x:OpI} (h:OpAt w x) (hm:Mod Nowhere w w'):OpAt w' x:={ h with inE:=h.inE.fresh hm,sa:=h.sa.fresh hm,sd:=h.sd.fresh hm }
structure OpIn (w:World) (b off:Nat) (x:OpI):Prop where
 lt:b < w.heap.size
 cell:∀ j,j < 12→w.cell? ⟨b,off + j,none⟩ = x.cells[j]?
 at_:OpAt w x
theorem OpIn.fresh {w w':World} {b off:Nat} {x:OpI} (h:OpIn w b off x) (hm:Mod Nowhere w w'):OpIn w' b off x :=
 ⟨Nat.lt_of_lt_of_le h.lt hm.size,fun j hj=>(hm.cell (p:=⟨b,off + j,none⟩) h.lt (fun e=>e)).trans (h.cell j hj),h.at_.fresh hm⟩
def InROps (w:World) (v:Value) (l:List OpI):Prop :=
 ∃ a cap,v = .slice a l.length cap∧l.length≤cap∧cap≤maxLen∧(0 < l.length→∃ b off,a = some ⟨b,off,none⟩∧∀ i (hi:i < l.length),OpIn w b (off + i * 12) l[i])
theorem ZiM {H:Type} {enc:TypeId × Value→H} {W:World} {fuel:Nat} {cs:List Value} {y:DataW H × List MemPlace} (h:DataW.trod enc Tryz.prog W 0 (fun _=>true) true fuel 57 cs = some y) :
  ∃ x:OpI,cs = x.cells∧OpAt W x:=by
 obtain ⟨hlen,n,hfl⟩:=ZcE (l:=[(3,0),(24,1),(22,9),(22,10),(3,11)]) (by kernel_rfl) (by decide) h;obtain ⟨y0,g0⟩:=hfl 0 _ _ rfl;obtain ⟨y1,g1⟩:=hfl 1 _ _ rfl;obtain ⟨y2,g2⟩:=hfl 2 _ _ rfl;obtain ⟨y3,g3⟩:=hfl 3 _ _ rfl;obtain ⟨y4,g4⟩:=hfl 4 _ _ rfl;have e1:Tryz.prog.cellsOf 3 = 1:=by kernel_rfl
 have e2:Tryz.prog.cellsOf 22 = 1:=by kernel_rfl
 have e3:Tryz.prog.cellsOf 24 = 8:=by kernel_rfl
 have e4:Tryz.prog.cellsOf 57 = 12:=by kernel_rfl
 rw [e1] at g0 g4;rw [e3] at g1;rw [e2] at g2 g3;rw [e4] at hlen
 match cs,hlen with
 | [v0,v1,v2,v3,v4,v5,v6,v7,v8,v9,v10,v11],_ =>
  simp only [List.drop_zero,List.take_succ_cons,List.take_zero,List.drop_succ_cons] at g0 g1 g2 g3 g4;obtain ⟨n0,q0,_,w0⟩:=DataW.trod_int Tryz.underlying3 g0;obtain ⟨z,q1,hz⟩:=ZiL g1;obtain ⟨a2,d2,q2,s2,b2⟩:=Y3 g2;obtain ⟨a3,d3,q3,s3,b3⟩:=Y3 g3;obtain ⟨n4,q4,_,w4⟩:=DataW.trod_int Tryz.underlying3 g4;simp only [List.cons.injEq,and_true] at q0 q2 q3 q4;subst q0 q2 q3 q4;refine ⟨⟨n0,z.u,z.v,z.e,v9,d2,v10,d3,n4⟩,?_,⟨hz.inE,s2,b2,s3,b3,hz.n4.1,hz.n4.2⟩⟩
  show [_,v1,v2,v3,v4,v5,v6,v7,v8,_,_,_] = _ :: (z.cells ++ [v9,v10,_])
  rw [← q1]
  rfl
theorem ZiN {H:Type} {enc:TypeId × Value→H} {W:World} {fuel:Nat} {a:Addr} {i:Nat} {y:DataW H × List MemPlace} (h:(W.cells? 0 (a.add (i * 12)) 12).bind (DataW.trod enc Tryz.prog W 0 (fun _=>true) true fuel 57) = some y) :
  (i = 0→a.spot = none)∧∃ x,OpIn W a.block (a.off + i * 12) x:=by
 obtain ⟨cs,hcs,ht⟩:=Option.bind_eq_some_iff.1 h;obtain ⟨x,e,hx⟩:=ZiM ht
 have hcell:∀ j,j < 12→W.cell? ((a.add (i * 12)).add j) = cs[j]?:=fun j hj=>by
  unfold World.cells? at hcs;rw [if_pos (Nat.zero_le _)] at hcs;have:=mapM_some_get hcs j j (by simp [hj]);rw [← this]
 have k0:=hcell 0 (by omega);rw [e] at k0 hcell;have k0':W.cell? ((a.add (i * 12)).add 0) = some (.int .i64 x.act):=k0;obtain ⟨ha,hz'⟩:=Zh5 (ZcD k0');rw [ha] at hcell
 have hc:∀ j,j < 12→W.cell? ⟨a.block,a.off + i * 12 + j,none⟩ = x.cells[j]?:=fun j hj=>by
  rw [← hcell j hj,ZcC]
 have c0:W.cell? ⟨a.block,a.off + i * 12,none⟩ = some (.int .i64 x.act):=hc 0 (by omega);exact ⟨fun e=>hz' (by omega),x,⟨ZF c0,hc,hx⟩⟩
theorem ZiO {H:Type} {enc:TypeId × Value→H} {W:World} {v:Value} {d:DataW H} {p:List MemPlace} (hv:Value.okWide Tryz.prog W .any 0 43 v) (h:DataW.Trod enc Tryz.prog W 0 (fun _=>true) true 43 v d p):∃ l,InROps W v l:=by
 obtain ⟨a,len,cap,rfl⟩:=okWide_slice Tryz.underlying43 hv;obtain ⟨fuel,hf⟩:=h;rcases DataW.trod_slice Tryz.underlying43 hf with ⟨hcs,_⟩ | ⟨x,l,c,elems,rest,n,_,hcs,_,_,hl,hm,hlen,hel,_,_⟩
 ·simp [Value.cells] at hcs;obtain ⟨rfl,rfl,rfl⟩:=hcs;exact ⟨[],none,0,rfl,by simp,by decide,fun h=>by simp at h⟩
 ·simp [Value.cells] at hcs;obtain ⟨rfl,rfl,rfl⟩:=hcs;have e3:Tryz.prog.cellsOf 57 = 12:=by kernel_rfl
  rw [e3] at hel
  obtain ⟨ops,ho,hp⟩:=ZcB (p:=fun i x'=>(i = 0→x.spot = none)∧OpIn W x.block (x.off + i * 12) x') len fun i hi=>by
   have:=hel i hi;rw [List.getElem?_eq_getElem (by omega)] at this;obtain ⟨q1,y,q2⟩:=ZiN this;exact ⟨y,q1,q2⟩
  refine ⟨ops,some x,cap,by rw [ho],by omega,hm,fun h0=>?_⟩;obtain ⟨b,off,spot⟩:=x;have hs:spot = none:=(hp 0 h0).1 rfl;subst hs;exact ⟨b,off,rfl,fun i hi=>(hp i hi).2⟩
theorem InROps.gen {w:World} {v:Value} {l:List OpI} (h:InROps w v l):∃ a cap,v = .slice a l.length cap∧l.length≤cap∧cap≤maxLen:=by
 obtain ⟨a,cap,e,h1,h2,-⟩:=h;exact ⟨a,cap,e,h1,h2⟩
theorem InROps.at_ {w:World} {v:Value} {l:List OpI} (h:InROps w v l) {i:Nat} (hi:i < l.length):∃ b off cap,v = .slice (some ⟨b,off,none⟩) l.length cap∧l.length≤cap∧cap≤maxLen∧OpIn w b (off + i * 12) l[i]:=by
 obtain ⟨a,cap,e,h1,h2,h3⟩:=h;obtain ⟨b,off,e2,h4⟩:=h3 (by omega);subst e2;exact ⟨b,off,cap,e,h1,h2,h4 i hi⟩
end Go.Proofs.YthmahbfmfpjjcaaGreat
