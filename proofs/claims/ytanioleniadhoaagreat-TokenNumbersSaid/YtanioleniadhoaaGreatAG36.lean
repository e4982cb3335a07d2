/-
  What a walk is told of the slices that came in.
-/
import Derived.Test.YtanioleniadhoaaGreatAG29
import Derived.ProofKit
import Derived.OpenShut
set_option linter.unusedVariables false
set_option linter.unusedSimpArgs false
set_option maxRecDepth 100000
namespace Go.Proofs.YtanioleniadhoaaGreat
open Go.RowKit
def InRow (w:World) (v:Value) (zs:List Int):Prop :=
 ∃ a cap,v = .slice a zs.length cap∧zs.length≤cap∧cap≤maxLen∧(0 < zs.length→∃ b off,a = some ⟨b,off,none⟩∧b < w.heap.size∧∀ i,i < zs.length→w.cell? ⟨b,off + i,none⟩ = some (.int .i64 (zs.getD i 0)))
theorem InRow.fresh {w w':World} {v:Value} {zs:List Int} (h:InRow w v zs) (hm:Mod Nowhere w w'):InRow w' v zs:=by
 obtain ⟨a,cap,e,h1,h2,h3⟩:=h;refine ⟨a,cap,e,h1,h2,fun h0=>?_⟩;obtain ⟨b,off,e1,hb,hc⟩:=h3 h0;exact ⟨b,off,e1,Nat.lt_of_lt_of_le hb hm.size,fun i hi=>(hm.cell (p:=⟨b,off + i,none⟩) hb id).trans (hc i hi)⟩
end Go.Proofs.YtanioleniadhoaaGreat
/-
 What came in by value: structs, slices, strings of bytes.
-/
namespace Go.Proofs.YtanioleniadhoaaGreat
open Go.RowKit Go.ChangeShapes Go.WideShapes Go.ChangeAt
open Jn Vn
theorem addr_add (b off:Nat) (j:Nat):(⟨b,off,none⟩:Addr).add j = ⟨b,off + j,none⟩:=add_lit b off j
theorem add_zero_spot {a:Addr} {w:World} {v:Value} (h:w.cell? (a.add 0) = some v):a.spot = none:=by
 obtain ⟨b,off,spot⟩:=a;simpa [Addr.add] using World.cell?_spot h
theorem open_src {H:Type} {enc:TypeId × Value→H} {W:World} {fuel:Nat} {cs:List Value} {x:DataW H × List MemPlace} (h:DataW.trod enc Tryz.prog W 0 (fun _=>true) true fuel 22 cs = some x):∃ v d,cs = [v]∧Src W v d∧Bytes d:=by
 rcases open_ints Tryz.underlying22 Tryz.underlying5 (by kernel_rfl) h with ⟨rfl,_⟩ | ⟨x,l,c,zs,rfl,_,hl,hm,hz,_,hcell,hwz⟩
 ·exact ⟨_,[],rfl,⟨none,0,rfl,by simp,by decide,fun h=>by simp at h⟩,fun k=>by simp⟩
 ·have hz':zs.length = c:=by simpa using hz
  have hlt:(zs.take l).length = l:=by rw [List.length_take];omega
  have hw:∀ n ∈ zs,0≤n∧n≤255:=fun n hn=>by
   have:=hwz n hn;simp only [Lit.wf,Bool.and_eq_true,decide_eq_true_eq] at this;exact this
  have hg:∀ i,i < zs.length→0≤zs.getD i 0∧zs.getD i 0≤255:=fun i hi=>by
   rw [gd0,List.getElem?_eq_getElem hi];exact hw _ (List.getElem_mem hi)
  have hgd:∀ i,i < l→((zs.take l).map Int.toNat).getD i 0 = (zs.getD i 0).toNat:=fun i hi=>by
   rw [gd0,List.getElem?_map,List.getElem?_take,if_pos hi,List.getElem?_eq_getElem (by omega),gd0,List.getElem?_eq_getElem (by omega)];rfl
  refine ⟨_,(zs.take l).map Int.toNat,rfl,⟨some x,c,by rw [List.length_map,hlt],by rw [List.length_map,hlt];exact hl,hm,fun h0=>?_⟩,fun k=>?_⟩
  ·rw [List.length_map,hlt] at h0;obtain ⟨b,off,spot⟩:=x;have hspot:spot = none:=add_zero_spot (hcell 0 (by omega));subst hspot;refine ⟨b,off,rfl,?_,fun i hi=>?_⟩
   ·have:=hcell 0 (by omega);exact cell_lt' this
   ·rw [List.length_map,hlt] at hi;have h1:=hcell i (by omega);have h2:=hg i (by omega);rw [addr_add] at h1;rw [h1,hgd i hi,Int.toNat_of_nonneg h2.1]
  ·by_cases hk:k < l
   ·rw [hgd k hk];have:=hg k (by omega);omega
   ·rw [gd0,List.getElem?_eq_none (by rw [List.length_map,hlt];omega)];decide
/- The fields of a struct, each with its own cells. -/
theorem open_struct {H:Type} {enc:TypeId × Value→H} {W:World} {fuel:Nat} {t:TypeId} {cs:List Value} {x:DataW H × List MemPlace} {l:List (TypeId × Nat)}
  (hl:(Tryz.prog.underlying t).map (fun x=>match x with | .struct fs=>fs.toList.map (fun f=>(f.type,f.offset)) | _=>[(0,9999999)]) = some l) (hne:l ≠ [(0,9999999)])
  (h:DataW.trod enc Tryz.prog W 0 (fun _=>true) true fuel t cs = some x) :
  cs.length = Tryz.prog.cellsOf t∧∃ n,∀ (i:Nat) (ti:TypeId) (oi:Nat),l[i]? = some (ti,oi)→∃ y,DataW.trod enc Tryz.prog W 0 (fun _=>true) true n ti ((cs.drop oi).take (Tryz.prog.cellsOf ti)) = some y:=by
 have hu:∃ fs,Tryz.prog.underlying t = some (.struct fs)∧fs.toList.map (fun f=>(f.type,f.offset)) = l:=by
  cases hh:Tryz.prog.underlying t with
  | none=>rw [hh] at hl;cases hl
  | some d =>
   rw [hh] at hl
   cases d <;> simp at hl
   case struct=>exact ⟨_,rfl,by simpa using hl⟩
   all_goals exact absurd hl.symm hne
 obtain ⟨fs,hfs,hfl⟩:=hu;obtain ⟨xs,n,rfl,rfl,hlen,hxl,hf⟩:=DataW.trod_struct hfs h;refine ⟨hlen,n,fun i ti oi hi=>?_⟩;rw [← hfl,List.getElem?_map] at hi
 cases hfi:fs.toList[i]? with
 | none=>rw [hfi] at hi;cases hi
 | some f =>
  rw [hfi] at hi;simp only [Option.map_some,Option.some.injEq,Prod.mk.injEq] at hi;obtain ⟨rfl,rfl⟩:=hi;have hfi':fs[i]? = some f:=by simpa using hfi
  have g:=hf i f hfi';have hil:i < fs.size:=(Array.getElem?_eq_some_iff.1 hfi').1;have hxi:i < xs.length:=by rw [hxl];exact hil
  rw [List.getElem?_eq_getElem hxi] at g;exact ⟨_,g⟩
def InBytes (w:World) (v:Value) (d:List Nat):Prop:=Src w v d∧Bytes d
theorem InBytes.fresh {w w':World} {v:Value} {d:List Nat} (h:InBytes w v d) (hm:Mod Nowhere w w'):InBytes w' v d:=⟨h.1.fresh hm,h.2⟩
theorem open_row_bytes {H:Type} {enc:TypeId × Value→H} {W:World} {v:Value} {d:DataW H} {p:List MemPlace} (hv:Value.okWide Tryz.prog W .any 0 22 v) (h:DataW.Trod enc Tryz.prog W 0 (fun _=>true) true 22 v d p):∃ zs,InBytes W v zs:=by
 obtain ⟨a,len,cap,rfl⟩:=okWide_slice Tryz.underlying22 hv;obtain ⟨fuel,hf⟩:=h;obtain ⟨v',d',e,h1,h2⟩:=open_src hf;simp [Value.cells] at e;subst e;exact ⟨d',h1,h2⟩
end Go.Proofs.YtanioleniadhoaaGreat
/-
 A row's closing condition, for a call after which nothing that was there has changed, whatever it has made.
-/
namespace Go.Proofs.YtanioleniadhoaaGreat
open Go.ChangeShapes Go.WideShapes Go.ChangeAt Go.RowKit
theorem post_below {H:Type} {enc:TypeId × Value→H} {P:Program} {f:Func} {s:ChangeSpec} {apart fresh handsOn again:Bool} {W W':World} {args:Array Value} {v:Value} {ds gs:List (DataW H)} {before pa pv:List MemPlace}
  (hW:DataW.Whole enc P f.params.toList s.vars apart W args.toList ds gs before)
  (hres:∀ (b:Nat) (sp:Nat→Bool) (hd:Bool),DataW.TrodAll enc P W' b sp hd f.resultTypes.toList (v.resultList f.resultTypes.size) (s.fn H (ds ++ gs)).results [])
  (hargs:∀ sp:Nat→Bool,(∀ p ∈ before,sp p.block = true)→DataW.TrodAll enc P W' 0 sp true f.params.toList args.toList (s.fn H (ds ++ gs)).args pa)
  (hvars:∀ sp:Nat→Bool,(∀ p ∈ before,sp p.block = true)→DataW.TrodVars enc P W' sp s.vars (s.fn H (ds ++ gs)).vars pv)
  (hps:before = pa ++ pv) (hb:Below W.heap.size W W')
  (hok:∀ (j:Nat) (t:TypeId) (r:Value),f.resultTypes[j]? = some t→(v.resultList f.resultTypes.size)[j]? = some r→Value.okWide P W' .any 0 t r) :
  s.post enc P f apart fresh handsOn again W args v W':=by
 have old:∀ p ∈ before,p.block < W.heap.size:=fun p hp=>hW.lt p hp;have sp:∀ p ∈ before,(fun b=>decide (b < W.heap.size)) p.block = true:=fun p hp=>by simpa using old p hp
 obtain rfl:=hps;refine ⟨ds,gs,pa ++ pv,[],pa,pv,hW,hres _ _ _,hargs _ sp,hvars _ sp,hb.frame _,fun _=>⟨hok,_,_,([] ++ pa) ++ pv,⟨[] ++ pa,pv,trodAll_append (hargs _ fun _ _=>rfl) (hres _ _ _),hvars _ fun _ _=>rfl,rfl,?_,?_⟩,?_⟩⟩
 ·intro b off hp;obtain ⟨_,_,_,_,_,hz,_⟩:=hW;have hp':=hp;rw [List.nil_append] at hp';have hlt:b < W.heap.size:=old _ hp';rw [hb.frozen (p:=⟨b,off,none⟩) hlt];exact hz b off hp'
 ·intro ha;obtain ⟨_,_,_,_,_,_,hn⟩:=hW;simpa using hn ha
 ·intro p hp _;simpa using hp
theorem laidOut_ok:laidOutB Tryz.prog = true:=by kernel_rfl
end Go.Proofs.YtanioleniadhoaaGreat
/-
 A row's closing condition, where slices come in.
-/
namespace Go.Proofs.YtanioleniadhoaaGreat
open Go.ChangeShapes Go.WideShapes Go.ChangeAt Go.RowKit
theorem trod_sp {H:Type} {enc:TypeId × Value→H} {t:TypeId} (hr:Tryz.prog.readableRec t = true) (hrow:t < Tryz.prog.types.size) {W W':World} {v:Value} {d:DataW H} {ps:List MemPlace}
  (h:DataW.Trod enc Tryz.prog W 0 (fun _=>true) true t v d ps) (hb:Below W.heap.size W W') (hlt:∀ x ∈ ps,x.block < W.heap.size) (sp:Nat→Bool) (hsp:∀ x ∈ ps,sp x.block = true) :
  DataW.Trod enc Tryz.prog W' 0 sp true t v d ps :=
 WideElems.Trod_stays laidOut_ok hr hrow h (fun x hx=>hb.same (hlt x hx)) hsp
end Go.Proofs.YtanioleniadhoaaGreat
