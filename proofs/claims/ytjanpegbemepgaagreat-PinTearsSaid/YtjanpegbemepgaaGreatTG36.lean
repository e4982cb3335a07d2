/-
  What a walk is told of the slices that came in.
-/
import Derived.Test.YtjanpegbemepgaaGreatTG29
import Derived.ProofKit
import Derived.OpenShut
set_option linter.unusedVariables false
set_option linter.unusedSimpArgs false
set_option maxRecDepth 100000
namespace Go.Proofs.YtjanpegbemepgaaGreat
open Go.RowKit
def InRow (w:World) (v:Value) (zs:List Int):Prop :=
 ∃ a cap,v = .slice a zs.length cap∧zs.length≤cap∧cap≤maxLen∧(0 < zs.length→∃ b off,a = some ⟨b,off,none⟩∧b < w.heap.size∧∀ i,i < zs.length→w.cell? ⟨b,off + i,none⟩ = some (.int .i64 (zs.getD i 0)))
theorem InRow.fresh {w w':World} {v:Value} {zs:List Int} (h:InRow w v zs) (hm:Mod Nowhere w w'):InRow w' v zs:=by
 obtain ⟨a,cap,e,h1,h2,h3⟩:=h;refine ⟨a,cap,e,h1,h2,fun h0=>?_⟩;obtain ⟨b,off,e1,hb,hc⟩:=h3 h0;exact ⟨b,off,e1,Nat.lt_of_lt_of_le hb hm.size,fun i hi=>(hm.cell (p:=⟨b,off + i,none⟩) hb id).trans (hc i hi)⟩
end Go.Proofs.YtjanpegbemepgaaGreat
/-
 What came in by value: structs, slices, strings of bytes.
-/
namespace Go.Proofs.YtjanpegbemepgaaGreat
open Go.RowKit Go.ChangeShapes Go.WideShapes Go.ChangeAt
open Jn Vn
theorem exists_list {α:Type} {p:Nat→α→Prop}:∀ n,(∀ i,i < n→∃ x,p i x)→∃ l:List α,l.length = n∧∀ i (hi:i < l.length),p i l[i]
 | 0,_=>⟨[],rfl,fun i hi=>absurd hi (Nat.not_lt_zero i)⟩
 | n + 1,h=>by
  obtain ⟨l,h1,h2⟩:=exists_list n fun i hi=>h i (by omega);obtain ⟨x,hx⟩:=h n (by omega);refine ⟨l ++ [x],by simp [h1],fun i hi=>?_⟩;by_cases e:i < l.length
  ·rw [List.getElem_append_left e];exact h2 i e
  ·have e2:i = l.length:=by simp at hi;omega
   subst e2;simp only [List.getElem_append_right (Nat.le_refl _),Nat.sub_self,List.getElem_cons_zero];rw [h1];exact hx
theorem addr_add (b off:Nat) (j:Nat):(⟨b,off,none⟩:Addr).add j = ⟨b,off + j,none⟩:=add_lit b off j
theorem add_zero_spot {a:Addr} {w:World} {v:Value} (h:w.cell? (a.add 0) = some v):a.spot = none:=by
 obtain ⟨b,off,spot⟩:=a;simpa [Addr.add] using World.cell?_spot h
theorem add_same {a:Addr} {j:Nat} (h:(a.add j).spot = none):a.add j = ⟨a.block,a.off + j,none⟩∧(j = 0→a.spot = none):=by
 obtain ⟨b,off,spot⟩:=a;by_cases e:j = 0
 ·subst e;simp [Addr.add] at h ⊢;exact h
 ·simp [Addr.add,e]
theorem open_src {H:Type} {enc:TypeId × Value→H} {W:World} {fuel:Nat} {cs:List Value} {x:DataW H × List MemPlace} (h:DataW.trod enc Tryz.prog W 0 (fun _=>true) true fuel 31 cs = some x):∃ v d,cs = [v]∧Src W v d∧Bytes d:=by
 rcases open_ints Tryz.underlying31 Tryz.underlying5 (by kernel_rfl) h with ⟨rfl,_⟩ | ⟨x,l,c,zs,rfl,_,hl,hm,hz,_,hcell,hwz⟩
 ·exact ⟨_,[],rfl,⟨none,0,rfl,by simp,by decide,fun h=>by simp at h⟩,fun k=>by simp⟩
 ·have hz':zs.length = c:=by simpa using hz
  have hlt:(zs.take l).length = l:=by rw [List.length_take];omega
  have hw:∀ n ∈ zs,0≤n∧n≤255:=fun n hn=>by
   have:=hwz n hn;simp only [Lit.wf,Bool.and_eq_true,decide_eq_true_eq] at this;exact this
  have hg:∀ i,i < zs.length→0≤zs.getD i 0∧zs.getD i 0≤255:=fun i hi=>by
   rw [List.getD_eq_getElem?_getD,List.getElem?_eq_getElem hi];exact hw _ (List.getElem_mem hi)
  have hgd:∀ i,i < l→((zs.take l).map Int.toNat).getD i 0 = (zs.getD i 0).toNat:=fun i hi=>by
   rw [List.getD_eq_getElem?_getD,List.getElem?_map,List.getElem?_take,if_pos hi,List.getElem?_eq_getElem (by omega),List.getD_eq_getElem?_getD,List.getElem?_eq_getElem (by omega)];rfl
  refine ⟨_,(zs.take l).map Int.toNat,rfl,⟨some x,c,by rw [List.length_map,hlt],by rw [List.length_map,hlt];exact hl,hm,fun h0=>?_⟩,fun k=>?_⟩
  ·rw [List.length_map,hlt] at h0;obtain ⟨b,off,spot⟩:=x;have hspot:spot = none:=add_zero_spot (hcell 0 (by omega));subst hspot;refine ⟨b,off,rfl,?_,fun i hi=>?_⟩
   ·have:=hcell 0 (by omega);exact cell_lt' this
   ·rw [List.length_map,hlt] at hi;have h1:=hcell i (by omega);have h2:=hg i (by omega);rw [addr_add] at h1;rw [h1,hgd i hi,Int.toNat_of_nonneg h2.1]
  ·by_cases hk:k < l
   ·rw [hgd k hk];have:=hg k (by omega);omega
   ·rw [List.getD_eq_getElem?_getD,List.getElem?_eq_none (by rw [List.length_map,hlt];omega)];decide
/- The fields of a struct, each with its own cells. -/
theorem open_struct {H:Type} {enc:TypeId × Value→H} {W:World} {fuel:Nat} {t:TypeId} {cs:List Value} {x:DataW H × List MemPlace} {l:List (TypeId × Nat)}
  (hl:(Tryz.prog.underlying t).map (fun x=>match x with | .struct fs=>fs.toList.map (fun f=>(f.type,f.offset)) | _=>[(0,9999999)]) = some l) (hne:l ≠ [(0,9999999)])
  (h:DataW.trod enc Tryz.prog W 0 (fun _=>true) true fuel t cs = some x) :
  cs.length = Tryz.prog.cellsOf t∧∃ n,∀ (i:Nat) (ti:TypeId) (oi:Nat),l[i]? = some (ti,oi)→∃ y,DataW.trod enc Tryz.prog W 0 (fun _=>true) true n ti ((cs.drop oi).take (Tryz.prog.cellsOf ti)) = some y:=by
 have hu:∃ fs,Tryz.prog.underlying t = some (.struct fs)∧fs.toList.map (fun f=>(f.type,f.offset)) = l:=by
  cases hh:Tryz.prog.underlying t with
  | none=>rw [hh] at hl;cases hl
  | some d =>
   rw [hh] at hl
   cases d <;> simp at hl
   case struct=>exact ⟨_,rfl,by simpa using hl⟩
   all_goals exact absurd hl.symm hne
 obtain ⟨fs,hfs,hfl⟩:=hu;obtain ⟨xs,n,rfl,rfl,hlen,hxl,hf⟩:=DataW.trod_struct hfs h;refine ⟨hlen,n,fun i ti oi hi=>?_⟩;rw [← hfl,List.getElem?_map] at hi
 cases hfi:fs.toList[i]? with
 | none=>rw [hfi] at hi;cases hi
 | some f =>
  rw [hfi] at hi;simp only [Option.map_some,Option.some.injEq,Prod.mk.injEq] at hi;obtain ⟨rfl,rfl⟩:=hi;have hfi':fs[i]? = some f:=by simpa using hfi
  have g:=hf i f hfi';have hil:i < fs.size:=(Array.getElem?_eq_some_iff.1 hfi').1;have hxi:i < xs.length:=by rw [hxl];exact hil
  rw [List.getElem?_eq_getElem hxi] at g;exact ⟨_,g⟩
def InBytes (w:World) (v:Value) (d:List Nat):Prop:=Src w v d∧Bytes d
theorem InBytes.fresh {w w':World} {v:Value} {d:List Nat} (h:InBytes w v d) (hm:Mod Nowhere w w'):InBytes w' v d:=⟨h.1.fresh hm,h.2⟩
end Go.Proofs.YtjanpegbemepgaaGreat
/-
 Calls of PINs that came in.
-/
namespace Go.Proofs.YtjanpegbemepgaaGreat
open Go.RowKit Go.ChangeShapes Go.WideShapes Go.ChangeAt
open Jn Vn
def In64 (x:Int):Prop:=-9223372036854775808≤x∧x≤9223372036854775807
structure Pin7 where
 id:Int
 vv:Value
 v:List Nat
 limit:Int
 lo:Int
 hi:Int
 uv:Value
 u:List Nat
 cl:Int
def Pin7.cells (x:Pin7):List Value:=[.int .i64 x.id,x.vv,.int .i64 x.limit,.int .i64 x.lo,.int .i64 x.hi,x.uv,.int .i64 x.cl]
structure Pin7In (w:World) (x:Pin7):Prop where
 sv:Src w x.vv x.v
 bv:Bytes x.v
 su:Src w x.uv x.u
 bu:Bytes x.u
 id:In64 x.id
 limit:In64 x.limit
 lo:In64 x.lo
 hi:In64 x.hi
 cl:In64 x.cl
theorem Pin7In.fresh {w w':World} {x:Pin7} (h:Pin7In w x) (hm:Mod Nowhere w w'):Pin7In w' x:={ h with sv:=h.sv.fresh hm,su:=h.su.fresh hm }
theorem wf64 {n:Int} (h:(Lit.int .i64 n).wf = true):In64 n:=by
 simp only [Lit.wf,Bool.and_eq_true,decide_eq_true_eq] at h;exact h
theorem open_pin7 {H:Type} {enc:TypeId × Value→H} {W:World} {fuel:Nat} {cs:List Value} {x:DataW H × List MemPlace} (h:DataW.trod enc Tryz.prog W 0 (fun _=>true) true fuel 35 cs = some x):∃ z:Pin7,cs = z.cells∧Pin7In W z:=by
 obtain ⟨hlen,n,hfl⟩:=open_struct (l:=[(3,0),(31,1),(3,2),(3,3),(3,4),(31,5),(3,6)]) (by kernel_rfl) (by decide) h;obtain ⟨y0,g0⟩:=hfl 0 _ _ rfl;obtain ⟨y1,g1⟩:=hfl 1 _ _ rfl;obtain ⟨y2,g2⟩:=hfl 2 _ _ rfl;obtain ⟨y3,g3⟩:=hfl 3 _ _ rfl;obtain ⟨y4,g4⟩:=hfl 4 _ _ rfl;obtain ⟨y5,g5⟩:=hfl 5 _ _ rfl;obtain ⟨y6,g6⟩:=hfl 6 _ _ rfl;have e1:Tryz.prog.cellsOf 3 = 1:=by kernel_rfl
 have e2:Tryz.prog.cellsOf 31 = 1:=by kernel_rfl
 have e3:Tryz.prog.cellsOf 35 = 7:=by kernel_rfl
 rw [e1] at g0 g2 g3 g4 g6;rw [e2] at g1 g5;rw [e3] at hlen
 match cs,hlen with
 | [v0,v1,v2,v3,v4,v5,v6],_ =>
  simp only [List.drop_zero,List.take_succ_cons,List.take_zero,List.drop_succ_cons] at g0 g1 g2 g3 g4 g5 g6;obtain ⟨n0,q0,_,w0⟩:=DataW.trod_int Tryz.underlying3 g0;obtain ⟨n2,q2,_,w2⟩:=DataW.trod_int Tryz.underlying3 g2;obtain ⟨n3,q3,_,w3⟩:=DataW.trod_int Tryz.underlying3 g3;obtain ⟨n4,q4,_,w4⟩:=DataW.trod_int Tryz.underlying3 g4;obtain ⟨n6,q6,_,w6⟩:=DataW.trod_int Tryz.underlying3 g6;obtain ⟨a1,d1,q1,s1,b1⟩:=open_src g1;obtain ⟨a5,d5,q5,s5,b5⟩:=open_src g5;simp only [List.cons.injEq,and_true] at q0 q1 q2 q3 q4 q5 q6;subst q0 q1 q2 q3 q4 q5 q6;exact ⟨⟨n0,v1,d1,n2,n3,n4,v5,d5,n6⟩,rfl,⟨s1,b1,s5,b5,wf64 w0,wf64 w2,wf64 w3,wf64 w4,wf64 w6⟩⟩
structure Pop where
 op:Int
 id:Int
 d:Pin7
 av:Value
 a:List Nat
 bv:Value
 b:List Nat
structure PopIn (w:World) (b off:Nat) (x:Pop):Prop where
 lt:b < w.heap.size
 cell:∀ j,j < 11→w.cell? ⟨b,off + j,none⟩ = ([.int .i64 x.op,.int .i64 x.id] ++ (x.d.cells ++ [x.av,x.bv]))[j]?
 sa:Src w x.av x.a
 ba:Bytes x.a
 sb:Src w x.bv x.b
 bb:Bytes x.b
 d:Pin7In w x.d
 op:In64 x.op
 id:In64 x.id
theorem PopIn.fresh {w w':World} {b off:Nat} {x:Pop} (h:PopIn w b off x) (hm:Mod Nowhere w w'):PopIn w' b off x :=
 { h with lt:=Nat.lt_of_lt_of_le h.lt hm.size,cell:=fun j hj=>(hm.cell (p:=⟨b,off + j,none⟩) h.lt (fun e=>e)).trans (h.cell j hj),sa:=h.sa.fresh hm,sb:=h.sb.fresh hm,d:=h.d.fresh hm }
def InPops (w:World) (v:Value) (l:List Pop):Prop :=
 ∃ a cap,v = .slice a l.length cap∧l.length≤cap∧cap≤maxLen∧(0 < l.length→∃ b off,a = some ⟨b,off,none⟩∧∀ i (hi:i < l.length),PopIn w b (off + i * 11) l[i])
theorem open_popc {H:Type} {enc:TypeId × Value→H} {W:World} {fuel:Nat} {cs:List Value} {y:DataW H × List MemPlace} (h:DataW.trod enc Tryz.prog W 0 (fun _=>true) true fuel 37 cs = some y) :
  ∃ x:Pop,cs = [.int .i64 x.op,.int .i64 x.id] ++ (x.d.cells ++ [x.av,x.bv])∧Src W x.av x.a∧Bytes x.a∧Src W x.bv x.b∧Bytes x.b∧Pin7In W x.d∧In64 x.op∧In64 x.id:=by
 obtain ⟨hlen,n,hfl⟩:=open_struct (l:=[(3,0),(3,1),(35,2),(31,9),(31,10)]) (by kernel_rfl) (by decide) h;obtain ⟨y0,g0⟩:=hfl 0 _ _ rfl;obtain ⟨y1,g1⟩:=hfl 1 _ _ rfl;obtain ⟨y2,g2⟩:=hfl 2 _ _ rfl;obtain ⟨y3,g3⟩:=hfl 3 _ _ rfl;obtain ⟨y4,g4⟩:=hfl 4 _ _ rfl;have e1:Tryz.prog.cellsOf 3 = 1:=by kernel_rfl
 have e2:Tryz.prog.cellsOf 31 = 1:=by kernel_rfl
 have e3:Tryz.prog.cellsOf 35 = 7:=by kernel_rfl
 have e4:Tryz.prog.cellsOf 37 = 11:=by kernel_rfl
 rw [e1] at g0 g1;rw [e3] at g2;rw [e2] at g3 g4;rw [e4] at hlen
 match cs,hlen with
 | [v0,v1,v2,v3,v4,v5,v6,v7,v8,v9,v10],_ =>
  simp only [List.drop_zero,List.take_succ_cons,List.take_zero,List.drop_succ_cons] at g0 g1 g2 g3 g4;obtain ⟨n0,q0,_,w0⟩:=DataW.trod_int Tryz.underlying3 g0;obtain ⟨n1,q1,_,w1⟩:=DataW.trod_int Tryz.underlying3 g1;obtain ⟨z,q2,hz⟩:=open_pin7 g2;obtain ⟨a3,d3,q3,s3,b3⟩:=open_src g3;obtain ⟨a4,d4,q4,s4,b4⟩:=open_src g4;simp only [List.cons.injEq,and_true] at q0 q1 q3 q4;subst q0 q1 q3 q4;refine ⟨⟨n0,n1,z,v9,d3,v10,d4⟩,?_,s3,b3,s4,b4,hz,wf64 w0,wf64 w1⟩
  show [_,_,v2,v3,v4,v5,v6,v7,v8,_,_] = _ :: _ :: (z.cells ++ [v9,v10])
  rw [← q2]
  rfl
theorem open_pop {H:Type} {enc:TypeId × Value→H} {W:World} {fuel:Nat} {a:Addr} {i:Nat} {y:DataW H × List MemPlace} (h:(W.cells? 0 (a.add (i * 11)) 11).bind (DataW.trod enc Tryz.prog W 0 (fun _=>true) true fuel 37) = some y) :
  (i = 0→a.spot = none)∧∃ x,PopIn W a.block (a.off + i * 11) x:=by
 obtain ⟨cs,hcs,ht⟩:=Option.bind_eq_some_iff.1 h;obtain ⟨x,e,s1,b1,s2,b2,hz,w0,w1⟩:=open_popc ht
 have hcell:∀ j,j < 11→W.cell? ((a.add (i * 11)).add j) = cs[j]?:=fun j hj=>by
  unfold World.cells? at hcs;rw [if_pos (Nat.zero_le _)] at hcs;have:=mapM_some_get hcs j j (by simp [hj]);rw [← this]
 have k0:=hcell 0 (by omega);rw [e] at k0 hcell;have k0':W.cell? ((a.add (i * 11)).add 0) = some (.int .i64 x.op):=k0;obtain ⟨ha,hz'⟩:=add_same (add_zero_spot k0');rw [ha] at hcell
 have hc:∀ j,j < 11→W.cell? ⟨a.block,a.off + i * 11 + j,none⟩ = ([.int .i64 x.op,.int .i64 x.id] ++ (x.d.cells ++ [x.av,x.bv]))[j]?:=fun j hj=>by
  rw [← hcell j hj,addr_add]
 have c0:W.cell? ⟨a.block,a.off + i * 11,none⟩ = some (.int .i64 x.op):=hc 0 (by omega);exact ⟨fun e=>hz' (by omega),x,⟨cell_lt' c0,hc,s1,b1,s2,b2,hz,w0,w1⟩⟩
theorem open_row_pops {H:Type} {enc:TypeId × Value→H} {W:World} {v:Value} {d:DataW H} {p:List MemPlace} (hv:Value.okWide Tryz.prog W .any 0 22 v) (h:DataW.Trod enc Tryz.prog W 0 (fun _=>true) true 22 v d p):∃ l,InPops W v l:=by
 obtain ⟨a,len,cap,rfl⟩:=okWide_slice Tryz.underlying22 hv;obtain ⟨fuel,hf⟩:=h;rcases DataW.trod_slice Tryz.underlying22 hf with ⟨hcs,_⟩ | ⟨x,l,c,elems,rest,n,_,hcs,_,_,hl,hm,hlen,hel,_,_⟩
 ·simp [Value.cells] at hcs;obtain ⟨rfl,rfl,rfl⟩:=hcs;exact ⟨[],none,0,rfl,by simp,by decide,fun h=>by simp at h⟩
 ·simp [Value.cells] at hcs;obtain ⟨rfl,rfl,rfl⟩:=hcs;have e3:Tryz.prog.cellsOf 37 = 11:=by kernel_rfl
  rw [e3] at hel
  obtain ⟨ops,ho,hp⟩:=exists_list (p:=fun i x'=>(i = 0→x.spot = none)∧PopIn W x.block (x.off + i * 11) x') len fun i hi=>by
   have:=hel i hi;rw [List.getElem?_eq_getElem (by omega)] at this;obtain ⟨q1,y,q2⟩:=open_pop this;exact ⟨y,q1,q2⟩
  refine ⟨ops,some x,cap,by rw [ho],by omega,hm,fun h0=>?_⟩;obtain ⟨b,off,spot⟩:=x;have hs:spot = none:=(hp 0 h0).1 rfl;subst hs;exact ⟨b,off,rfl,fun i hi=>(hp i hi).2⟩
end Go.Proofs.YtjanpegbemepgaaGreat
/-
 A row's closing condition, for a call after which nothing that was there has changed, whatever it has made.
-/
namespace Go.Proofs.YtjanpegbemepgaaGreat
open Go.ChangeShapes Go.WideShapes Go.ChangeAt Go.RowKit
theorem post_below {H:Type} {enc:TypeId × Value→H} {P:Program} {f:Func} {s:ChangeSpec} {apart fresh handsOn again:Bool} {W W':World} {args:Array Value} {v:Value} {ds gs:List (DataW H)} {before pa pv:List MemPlace}
  (hW:DataW.Whole enc P f.params.toList s.vars apart W args.toList ds gs before)
  (hres:∀ (b:Nat) (sp:Nat→Bool) (hd:Bool),DataW.TrodAll enc P W' b sp hd f.resultTypes.toList (v.resultList f.resultTypes.size) (s.fn H (ds ++ gs)).results [])
  (hargs:∀ sp:Nat→Bool,(∀ p ∈ before,sp p.block = true)→DataW.TrodAll enc P W' 0 sp true f.params.toList args.toList (s.fn H (ds ++ gs)).args pa)
  (hvars:∀ sp:Nat→Bool,(∀ p ∈ before,sp p.block = true)→DataW.TrodVars enc P W' sp s.vars (s.fn H (ds ++ gs)).vars pv)
  (hps:before = pa ++ pv) (hb:Below W.heap.size W W')
  (hok:∀ (j:Nat) (t:TypeId) (r:Value),f.resultTypes[j]? = some t→(v.resultList f.resultTypes.size)[j]? = some r→Value.okWide P W' .any 0 t r) :
  s.post enc P f apart fresh handsOn again W args v W':=by
 have old:∀ p ∈ before,p.block < W.heap.size:=fun p hp=>hW.lt p hp;have sp:∀ p ∈ before,(fun b=>decide (b < W.heap.size)) p.block = true:=fun p hp=>by simpa using old p hp
 obtain rfl:=hps;refine ⟨ds,gs,pa ++ pv,[],pa,pv,hW,hres _ _ _,hargs _ sp,hvars _ sp,hb.frame _,fun _=>⟨hok,_,_,([] ++ pa) ++ pv,⟨[] ++ pa,pv,trodAll_append (hargs _ fun _ _=>rfl) (hres _ _ _),hvars _ fun _ _=>rfl,rfl,?_,?_⟩,?_⟩⟩
 ·intro b off hp;obtain ⟨_,_,_,_,_,hz,_⟩:=hW;have hp':=hp;rw [List.nil_append] at hp';have hlt:b < W.heap.size:=old _ hp';rw [hb.frozen (p:=⟨b,off,none⟩) hlt];exact hz b off hp'
 ·intro ha;obtain ⟨_,_,_,_,_,_,hn⟩:=hW;simpa using hn ha
 ·intro p hp _;simpa using hp
theorem laidOut_ok:laidOutB Tryz.prog = true:=by kernel_rfl
theorem mapsRowed_ok:mapsRowed Tryz.prog = true:=by kernel_rfl
end Go.Proofs.YtjanpegbemepgaaGreat
/-
 A row's closing condition, where slices come in.
-/
namespace Go.Proofs.YtjanpegbemepgaaGreat
open Go.ChangeShapes Go.WideShapes Go.ChangeAt Go.RowKit
theorem trod_sp {H:Type} {enc:TypeId × Value→H} {t:TypeId} (hr:Tryz.prog.readableRec t = true) (hrow:t < Tryz.prog.types.size) {W W':World} {v:Value} {d:DataW H} {ps:List MemPlace}
  (h:DataW.Trod enc Tryz.prog W 0 (fun _=>true) true t v d ps) (hb:Below W.heap.size W W') (hlt:∀ x ∈ ps,x.block < W.heap.size) (sp:Nat→Bool) (hsp:∀ x ∈ ps,sp x.block = true) :
  DataW.Trod enc Tryz.prog W' 0 sp true t v d ps :=
 WideElems.Trod_stays laidOut_ok hr hrow h (fun x hx=>hb.same (hlt x hx)) hsp
end Go.Proofs.YtjanpegbemepgaaGreat
