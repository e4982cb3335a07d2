/-
  Bytes from any slice: a copy of them; a row that takes them up.
-/
import Derived.Test.YthmahbfmfpjjcaaGreatQG11
import Derived.Test.YthmahbfmfpjjcaaGreatQSq
import Derived.Test.YthmahbfmfpjjcaaGreatQG60
import Derived.Shelf.Bytes.SlEqualAll
import Derived.Lib.BytesEntry
set_option linter.unusedVariables false
set_option linter.unusedSimpArgs false
set_option maxHeartbeats 2000000
set_option maxRecDepth 100000
namespace Go.Proofs.YthmahbfmfpjjcaaGreat
open Go.RowKit
open Jn
attribute [local go_sem] Oper.semAt_some
theorem DSl.src {w:World} {v:Value} {d:List Nat} (h:DSl w v d):Src w v d:=by
 obtain ⟨a,c,rfl,h1,h2,-⟩:=Sl.gen h;refine ⟨a,c,rfl,h1,h2,fun h0=>?_⟩;obtain ⟨b,off,cap,e,hb,_,_,hc,_⟩:=Sl.open h (by omega);obtain ⟨rfl,_,_⟩:a = some ⟨b,off,none⟩∧d.length = d.length∧c = cap:=by simpa using e
 refine ⟨b,off,rfl,hb,fun i hi=>?_⟩;rw [hc i (by omega),Yf d i hi]
theorem Zfe {w:World} {b:Nat} {xs:List Value} {T:TypeId} {sz n:Nat} (h:Blk w b xs T) (hn:xs.length = n * sz) (hm:n≤maxLen):Sl w (.slice (some ⟨b,0,none⟩) n n) T sz n xs :=
 ⟨hn,.inr ⟨b,0,n,xs,rfl,h,Nat.le_refl _,hm,by omega,by rw [List.drop_zero,← hn,List.take_length]⟩⟩
theorem XK (w:World):(w.alloc (.cells #[] 5)).ownsRow w.heap.size 5 1 (.slice (some ⟨w.heap.size,0,none⟩) 0 0) 0 [] :=
 Y7 w [] 5 w.heap.size 0 (Nat.le_refl _) rfl (by decide)
theorem XL {w:World} {base:Nat} {v u:Value} {d:List Nat} (hown:w.ownsRow base 5 1 v 0 []) (hs:Src w u d) (hl:d.length≤1099511627776) (hb:base≤w.heap.size) (ty:TypeId) :
  ∃ va vcap w',(Builtin.append_ #[22,22] ty #[v,u]).run Tryz.prog w = .ok (.slice va d.length vcap) w'∧w'.ownsRow base 5 1 (.slice va d.length vcap) d.length (u8s d)∧Mod (Above base) w w':=by
 obtain ⟨i0,hi0,hz0,hz1,hz2⟩:=info_parts Zc;obtain ⟨ua,uc,rfl,hc1,hc2,hcell⟩:=hs;by_cases hm:d.length = 0
 ·obtain ⟨a,c,rfl,hc⟩:=Zg hown;have hy:d = []:=List.eq_nil_of_length_eq_zero hm;subst hy;exact ⟨a,c,w,YF (P:=Tryz.prog) w 22 ty 5 i0 Tryz.underlying22 hi0 a ua 0 c uc hc,hown,Mod.refl _ _⟩
 ·obtain ⟨b,off,rfl,hbl,hcs⟩:=hcell (by omega);have hul:(u8s d).length = d.length:=by simp [u8s]
  have hnews:∀ j x,(u8s d)[j]? = some x→w.cell? ((⟨b,off,none⟩:Addr).add j) = some x:=fun j x hj=>by
   have hjl:=(List.getElem?_eq_some_iff.1 hj).1;rw [hul] at hjl;rw [add_lit,hcs j hjl,← Yf d j hjl,gd0,hj];rfl
  obtain ⟨g,gc,w',hr,ho,hg,_,_⟩:=run_append_lies (P:=Tryz.prog) w 22 ty base 5 i0 (.int .u8 0) 1 1 Tryz.underlying22 hi0 hz0 hz1 hz2 rfl (by decide) v 0 [] hown ⟨b,off,none⟩ d.length uc (u8s d) (by rw [hul];omega) hnews (Xt d) (by omega) (by unfold maxLen;omega) (by omega) hb _ rfl;rw [Nat.zero_add] at hr ho;rw [List.nil_append] at ho;exact ⟨_,gc,w',hr,ho,(Mod.refl _ w).app hown hg⟩
theorem XM {w:World} {v:Value} {d:List Nat} (h:Src w v d) (hn:d.length≤1099511627776) :
  Calls Tryz.prog 99 #[v] w fun e w'=>∃ va vc,e = .returned (.slice va d.length vc)∧w'.ownsRow w.heap.size 5 1 (.slice va d.length vc) d.length (u8s d)∧Mod Nowhere w w':=by
 have hm0:Mod Nowhere w (w.alloc (.cells #[] 5)):=(Mod.refl _ w).alloc _;obtain ⟨va,vc,w2,r1,ho,hm⟩:=XL (XK w) (h.fresh hm0) hn (by simp) 22;have hm2:Mod Nowhere w w2:=hm0.step hm fun i hi e=>by have e:w.heap.size≤i:=e;omega
 obtain ⟨a,c,rfl,h1,h2,h3⟩:=h
 cases a with
 | none =>
  have hd:d = []:=by
   by_cases h0:0 < d.length
   ·obtain ⟨b,off,e,_⟩:=h3 h0;cases e
   ·exact List.eq_nil_of_length_eq_zero (by omega)
  subst hd;have heq:=fun w=>Lib.run_eql_slice_nil (P:=Tryz.prog) w 22 5 none 0 c 0 0 Tryz.underlying22;clear r1 ho hm hm2 h3;go_enter Tryz.func99,Tryz.ntmps99;go_wp2;go_ret;exact ⟨_,_,rfl,World.ownsRow_nil _ _ _ _,Mod.refl _ _⟩
 | some x =>
  have heq:=fun w=>Lib.run_eql_slice_nil (P:=Tryz.prog) w 22 5 (some x) d.length c 0 0 Tryz.underlying22;have hfin:∃ va' vc',(Ending.returned (.slice va d.length vc)) = .returned (.slice va' d.length vc')∧w2.ownsRow w.heap.size 5 1 (.slice va' d.length vc') d.length (u8s d)∧Mod Nowhere w w2:=⟨_,_,rfl,ho,hm2⟩;generalize d.length = n at *;refine hid2 ?_ hfin h3;clear hfin h3;intro hfin h3;clear ho hm hm2;go_enter Tryz.func99,Tryz.ntmps99
  go_wp2_with (at_builtin;refine Lib.wpList_append_run _ rfl _ _ _ _ rfl _ _ (by rfl) (by rfl) _ _ r1 ?_;clear r1)
  go_ret;exact hfin.out
theorem Zff {w:World} {base:Nat} {v u:Value} {l d:List Nat} {n:Nat} (hn:l.length = n) (hown:w.ownsRow base 5 1 v n (u8s l)) (hs:Src w u d) (hl:n + d.length≤1099511627776) (hb:base≤w.heap.size) (ty:TypeId) :
  ∃ va vcap w',(Builtin.append_ #[22,22] ty #[v,u]).run Tryz.prog w = .ok (.slice va (n + d.length) vcap) w'∧w'.ownsRow base 5 1 (.slice va (n + d.length) vcap) (n + d.length) (u8s (l ++ d))∧Mod (Above base) w w':=by
 obtain ⟨i0,hi0,hz0,hz1,hz2⟩:=info_parts Zc;obtain ⟨ua,uc,rfl,hc1,hc2,hcell⟩:=hs;by_cases hm:d.length = 0
 ·obtain ⟨a,c,rfl,hc⟩:=Zg hown;have hy:d = []:=List.eq_nil_of_length_eq_zero hm;subst hy;rw [List.append_nil];exact ⟨a,c,w,YF (P:=Tryz.prog) w 22 ty 5 i0 Tryz.underlying22 hi0 a ua n c uc hc,hown,Mod.refl _ _⟩
 ·obtain ⟨b,off,rfl,hbl,hcs⟩:=hcell (by omega);have hul:(u8s d).length = d.length:=by simp [u8s]
  have hnews:∀ j x,(u8s d)[j]? = some x→w.cell? ((⟨b,off,none⟩:Addr).add j) = some x:=fun j x hj=>by
   have hjl:=(List.getElem?_eq_some_iff.1 hj).1;rw [hul] at hjl;rw [add_lit,hcs j hjl,← Yf d j hjl,gd0,hj];rfl
  obtain ⟨g,gc,w',hr,ho,hg,_,_⟩:=run_append_lies (P:=Tryz.prog) w 22 ty base 5 i0 (.int .u8 0) 1 1 Tryz.underlying22 hi0 hz0 hz1 hz2 rfl (by decide) v n (u8s l) hown ⟨b,off,none⟩ d.length uc (u8s d) (by rw [hul];omega) hnews (Xt d) (by omega) (by unfold maxLen;omega) (by omega) hb _ rfl;rw [← Zr] at ho;exact ⟨_,gc,w',hr,ho,(Mod.refl _ w).app hown hg⟩
theorem Zfg {P:Program} {t e:TypeId} {z:Value} {sz bytes:Nat} (ht:P.underlying t = some (.slice e)) (hi:(P.info? e).map (fun i=>(i.zero,i.size,i.bytes)) = some (some z,sz,bytes)) (b off n cap j:Nat) (hj:j≤cap) (W:World) :
  (Instr.slice t (.slice (some ⟨b,off,none⟩) n cap) none (some (.int .i64 j)) none).run P W = .ok (.slice (some ⟨b,off,none⟩) j cap) W:=by
 obtain ⟨i0,hi0,hz0,hz1,hz2⟩:=info_parts hi;simp [Instr.slice,Instr.sliceBounds,Instr.sliceBound,run_underlying ht,asIntOf,sizeOf,typeInfo,hi0,hz1,add_lit,show ¬ cap < j by omega]
 all_goals (try (cases j <;> simp))
end Go.Proofs.YthmahbfmfpjjcaaGreat
/-
 The registry: entries in Go's memory.
-/
namespace Go.Proofs.YthmahbfmfpjjcaaGreat
open Go.RowKit
open Jn Vn
attribute [local go_sem] Oper.semAt_some
open Rg
abbrev Ex:=(Value × Value) × REn
def exCells (x:Ex):List Value:=[x.1.1,.int .i64 x.2.kind,.int .i64 x.2.st,.int .i64 x.2.bf,.int .i64 x.2.pr,x.1.2,.int .i64 x.2.pk,.int .i64 x.2.ob]
def exsCells (xs:List Ex):List Value:=xs.flatMap exCells
def exps (xs:List Ex):List REn:=xs.map (·.2)
structure ExD (w:World) (x:Ex):Prop where
 da:DSl w x.1.1 x.2.aid
 dd:DSl w x.1.2 x.2.dom
structure ESl (w:World) (v:Value) (xs:List Ex):Prop where
 sl:Sl w v 24 8 xs.length (exsCells xs)
 data:∀ x ∈ xs,ExD w x
theorem ExD.fresh {w w':World} {x:Ex} (h:ExD w x) (hm:Mod Nowhere w w'):ExD w' x:=⟨h.da.fresh hm,h.dd.fresh hm⟩
theorem ESl.fresh {w w':World} {v:Value} {xs:List Ex} (h:ESl w v xs) (hm:Mod Nowhere w w'):ESl w' v xs:=⟨h.sl.mod hm (fun _ _ e=>e),fun x hx=>(h.data x hx).fresh hm⟩
theorem ExD.mod {S:Nat→Prop} {w w':World} {x:Ex} (h:ExD w x) (hm:Mod S w w') (hS:Shun S w 5):ExD w' x:=⟨DSl.mod h.da hm hS,DSl.mod h.dd hm hS⟩
theorem ESl.mod {S:Nat→Prop} {w w':World} {v:Value} {xs:List Ex} (h:ESl w v xs) (hm:Mod S w w') (hI:Shun S w 24) (hS:Shun S w 5):ESl w' v xs:=⟨h.sl.mod hm (h.sl.off hI),fun x hx=>(h.data x hx).mod hm hS⟩
theorem ESl.nil (w:World):ESl w (.slice none 0 0) []:=⟨Sl.nil _ _ _,fun x hx=>(List.not_mem_nil hx).elim⟩
theorem ZV (x:Ex):(exCells x).length = 8:=rfl
theorem Za7 (xs ys:List Ex):exsCells (xs ++ ys) = exsCells xs ++ exsCells ys:=by simp [exsCells]
theorem Za8:∀ (xs:List Ex) (i:Nat) (h:i < xs.length) (j:Nat),j < 8→(exsCells xs).getD (i * 8 + j) default = (exCells xs[i]).getD j default
 | x :: xs,0,_,j,hj=>by
  rw [Nat.zero_mul,Nat.zero_add]
  show (exCells x ++ exsCells xs).getD j default = _
  rw [gd0,List.getElem?_append_left (by rw [ZV];exact hj),← gd0]
  rfl
 | x :: xs,i + 1,h,j,hj=>by
  have ih:=Za8 xs i (by simpa using h) j hj
  show (exCells x ++ exsCells xs).getD ((i + 1) * 8 + j) default = _
  rw [gd0,List.getElem?_append_right (by rw [ZV];omega),← gd0,ZV,show (i + 1) * 8 + j - 8 = i * 8 + j by omega];exact ih
theorem ESl.at_ {w:World} {v:Value} {xs:List Ex} (h:ESl w v xs) {i:Nat} (hi:i < xs.length) :
  ∃ b off cap a1 c1 a2 c2,v = .slice (some ⟨b,off,none⟩) xs.length cap∧b < w.heap.size∧xs.length≤cap∧cap≤maxLen∧(∀ j,j < 8→w.cell? ⟨b,off + i * 8 + j,none⟩ = some ((exCells xs[i]).getD j default)) ∧
   xs[i].1.1 = .slice a1 xs[i].2.aid.length c1∧xs[i].1.2 = .slice a2 xs[i].2.dom.length c2:=by
 obtain ⟨b,off,cap,rfl,hb,h1,h2,hc,_⟩:=h.sl.open (by omega);obtain ⟨a1,c1,e1,_⟩:=Sl.len (h.data xs[i] (List.getElem_mem hi)).da;obtain ⟨a2,c2,e2,_⟩:=Sl.len (h.data xs[i] (List.getElem_mem hi)).dd;refine ⟨b,off,cap,a1,c1,a2,c2,rfl,hb,h1,h2,fun j hj=>?_,e1,e2⟩;have:=hc (i * 8 + j) (by omega);rw [Nat.add_assoc,this,Za8 xs i hi j hj]
def EPost (w:World) (l:List REn) (e:Ending) (w':World):Prop:=∃ v xs,e = .returned v∧ESl w' v xs∧exps xs = l∧Mod Nowhere w w'
theorem Zs (xs:List Ex):(exps xs).length = xs.length:=by simp [exps]
theorem Zy (xs ys:List Ex):exps (xs ++ ys) = exps xs ++ exps ys:=by simp [exps]
theorem eight {w:World} {b o:Nat} {x:Ex} (hc:∀ j,j < 8→w.cell? ⟨b,o + j,none⟩ = some ((exCells x).getD j default)) :
  w.cell? ⟨b,o,none⟩ = some x.1.1∧w.cell? ⟨b,o + 1,none⟩ = some (.int .i64 x.2.kind)∧w.cell? ⟨b,o + 2,none⟩ = some (.int .i64 x.2.st)∧w.cell? ⟨b,o + 3,none⟩ = some (.int .i64 x.2.bf)∧w.cell? ⟨b,o + 4,none⟩ = some (.int .i64 x.2.pr)∧w.cell? ⟨b,o + 5,none⟩ = some x.1.2 ∧
  w.cell? ⟨b,o + 6,none⟩ = some (.int .i64 x.2.pk)∧w.cell? ⟨b,o + 7,none⟩ = some (.int .i64 x.2.ob) :=
 ⟨hc 0 (by omega),hc 1 (by omega),hc 2 (by omega),hc 3 (by omega),hc 4 (by omega),hc 5 (by omega),hc 6 (by omega),hc 7 (by omega)⟩
theorem Zfh {x:Ex} {a1 a2:Option Addr} {c1 c2:Nat} (e1:x.1.1 = .slice a1 x.2.aid.length c1) (e2:x.1.2 = .slice a2 x.2.dom.length c2) :
  exsCells [x] = [.slice a1 x.2.aid.length c1,.int .i64 x.2.kind,.int .i64 x.2.st,.int .i64 x.2.bf,.int .i64 x.2.pr,.slice a2 x.2.dom.length c2,.int .i64 x.2.pk,.int .i64 x.2.ob]:=by
 rw [← e1,← e2];rfl
structure EOwn (w:World) (B:Nat) (va:Option Addr) (L vcap:Nat) (ys:List Ex):Prop where
 len:L = ys.length
 own:w.ownsRow B 24 8 (.slice va L vcap) L (exsCells ys)
 data:∀ y ∈ ys,ExD w y
theorem EOwn.esl {w:World} {B:Nat} {va:Option Addr} {L vcap:Nat} {ys:List Ex} (h:EOwn w B va L vcap ys):ESl w (.slice va L vcap) ys:=by
 obtain ⟨h1,h2,h3⟩:=h;subst h1;exact ⟨Sl.of_owns h2,h3⟩
theorem EOwn.fresh {w w':World} {B:Nat} {va:Option Addr} {L vcap:Nat} {ys:List Ex} (h:EOwn w B va L vcap ys) (hm:Mod Nowhere w w'):EOwn w' B va L vcap ys :=
 ⟨h.len,Zd h.own hm (fun _ _ e=>e),fun y hy=>(h.data y hy).fresh hm⟩
theorem EOwn.nil (w:World) (B:Nat):EOwn w B none 0 0 []:=⟨rfl,World.ownsRow_nil _ _ _ _,fun y hy=>(List.not_mem_nil hy).elim⟩
end Go.Proofs.YthmahbfmfpjjcaaGreat
/-
 The registry: a list of entries gets one more.
-/
namespace Go.Proofs.YthmahbfmfpjjcaaGreat
open Go.RowKit
open Jn Vn Rg
attribute [local go_sem] Oper.semAt_some
theorem XN:(Tryz.prog.info? 24).map (fun i=>(i.zero,i.size,i.bytes)) = some (some (.agg #[.slice none 0 0,.int .i64 0,.int .i64 0,.int .i64 0,.int .i64 0,.slice none 0 0,.int .i64 0,.int .i64 0]),8,96):=by kernel_rfl
theorem Za9 {w w':World} {base sz n:Nat} {T:TypeId} {v:Value} {xs:List Value} (hown:w.ownsRow base T sz v n xs) (hg:w.grownBy w' v.ownBlock) :
  Mod (fun k=>v.ownBlock = some k) w w'∧(∀ k,v.ownBlock = some k→base≤k)∧∀ U,U ≠ T→Shun (fun k=>v.ownBlock = some k) w U:=by
 refine ⟨(Mod.refl _ w).grown hg (fun k hk _=>hk),fun k hk=>(hown.lt k hk).1,fun U hU k hk cs hb=>?_⟩;rcases hown.2 with ⟨rfl,_⟩ | ⟨g,cap,cur,rfl,_,hh,_⟩
 ·simp [Value.ownBlock] at hk
 ·simp [Value.ownBlock] at hk;subst hk;have:=hb.symm.trans hh;simp at this;exact hU this.2
theorem e_put {w W:World} {B:Nat} {x:Ex} (hx:ExD W x) {va:Option Addr} {L vcap:Nat} {ys:List Ex} (ho:EOwn W B va L vcap ys) (hB:B≤W.heap.size) (hL:L≤1000) (hm:Mod Nowhere w W) (hw:w.heap.size≤B) :
  ∃ (va':Option Addr) (vcap':Nat) (W2:World),
   (Builtin.append_ #[40,40] 40 #[.slice va L vcap,.slice (some ⟨W.heap.size,0,none⟩) 1 1]).run Tryz.prog (W.alloc (.cells (exCells x).toArray 24)) = .ok (.slice va' (L + 1) vcap') W2 ∧
   EOwn W2 B va' (L + 1) vcap' (ys ++ [x])∧Mod Nowhere w W2∧Mod (Above B) W W2:=by
 obtain ⟨i0,hi0,hz0,hz1,hz2⟩:=info_parts XN;have hm2:Mod Nowhere W (W.alloc (.cells (exCells x).toArray 24)):=(Mod.refl _ W).alloc _;have hcb:Blk (W.alloc (.cells (exCells x).toArray 24)) W.heap.size (exCells x) 24:=Blk.new W _ _;obtain ⟨a1,c1,e1,-⟩:=Sl.len hx.da;obtain ⟨a2,c2,e2,-⟩:=Sl.len hx.dd
 have hone:∀ u ∈ exCells x,u.oneCell' = true:=by
  intro u hu;unfold exCells at hu;rw [e1,e2] at hu;simp only [List.mem_cons,List.not_mem_nil,or_false] at hu;rcases hu with rfl | rfl | rfl | rfl | rfl | rfl | rfl | rfl <;> rfl
 have hon:=(ho.fresh hm2)
 have hnews:∀ j u,(exCells x)[j]? = some u→(W.alloc (.cells (exCells x).toArray 24)).cell? ((⟨W.heap.size,0,none⟩:Addr).add j) = some u:=fun j u hj=>by
  rw [add_lit,hcb.cell,Nat.zero_add];exact hj
 obtain ⟨g,gc,w',hr,ho',hg,_,_⟩:=run_append_lies (P:=Tryz.prog) (W.alloc (.cells (exCells x).toArray 24)) 40 40 B 24 i0 _ 8 96 Tryz.underlying40 hi0 hz0 hz1 hz2 rfl (by decide) (.slice va L vcap) L (exsCells ys) hon.own ⟨W.heap.size,0,none⟩ 1 1 (exCells x) rfl hnews hone (by decide) (by unfold maxLen;omega) (by omega) (Nat.le_trans hB hm2.size) _ rfl;obtain ⟨b1,b2,b3⟩:=Za9 hon.own hg;have hsh:=b3 5 (by decide);refine ⟨_,gc,w',hr,⟨by rw [List.length_append,← ho.len];rfl,by rw [Za7,show exsCells [x] = exCells x by simp [exsCells]];exact ho',fun y hy=>?_⟩,(hm.trans hm2).step b1 fun i hi e=>absurd hi (by have:=b2 i e;omega),(hm2.nowhere (S:=Above B)).trans (b1.mono fun i hi e=>b2 i e)⟩;rcases List.mem_append.1 hy with e' | e'
 ·exact (hon.data y e').mod b1 hsh
 ·rw [List.mem_singleton.1 e'];exact (hx.fresh hm2).mod b1 hsh
end Go.Proofs.YthmahbfmfpjjcaaGreat
/-
 The registry: which entries are valid, in the program's steps.
-/
namespace Go.Proofs.YthmahbfmfpjjcaaGreat
open Go.RowKit
open Jn Vn Rg
namespace Rg
def pvB (p3 p2 p1 i1 i2 s1 ws s5 wb b0 w31 r0 n1 n2 q:Bool):Bool :=
 if ((!p3 && !p2 && !p1) || (!i1 || !i2)) = true then false
 else if ((p3 && !s1) || (!p3 && !ws)) = true then false
 else if ((s5 && !wb) || (!s5 && !b0)) = true then false
 else if (!w31 || (p3 && !r0)) = true then false
 else n1 && n2 && (p1 || !q)
theorem Zfi (e:REn):pValid e = pvB (decide (e.kind = 3)) (decide (e.kind = 2)) (decide (e.kind = 1)) (isId e.aid) (isId e.dom) (decide (e.st = 1)) (wthB e.st 2 5) (decide (e.st = 5)) (wthB e.bf 2 4) (decide (e.bf = 0)) (wthB e.pr 0 31) (decide (e.pr = 0))
  (numB e.pk (!decide (e.kind = 1)) 16) (numB e.ob (decide (e.kind = 2)) 512) (decide (e.dom = e.aid)):=by
 unfold pValid pvB;simp only [Bool.or_eq_true,Bool.and_eq_true,Bool.not_eq_true',decide_eq_true_eq,decide_eq_false_iff_not,ne_eq,decide_not,Bool.and_assoc]
theorem and31 (b:BitVec 64):b &&& ~~~(31#64) = 0#64 ↔ b.toNat < 32:=by
 constructor
 ·intro h;refine Nat.lt_pow_two_of_testBit (n:=5) _ fun i hi=>?_;have:=congrArg (fun x=>x.getLsbD i) h;simp only [BitVec.getLsbD_and,BitVec.getLsbD_not,BitVec.getLsbD_zero] at this;by_cases hi64:i < 64
  ·have h31:(31#64).getLsbD i = false:=by
    show Nat.testBit ((31#64).toNat) i = false
    rw [show (31#64).toNat = 2 ^ 5 - 1 from rfl,Nat.testBit_two_pow_sub_one]
    simp;omega
   rw [h31] at this
   have:b.getLsbD i = false:=by
    cases hb:b.getLsbD i with
    | false=>rfl
    | true=>rw [hb] at this;simp [hi64] at this
   exact this
  ·exact BitVec.getLsbD_of_ge b i (by omega)
 ·intro h
  apply BitVec.eq_of_getLsbD_eq
  intro i hi;simp only [BitVec.getLsbD_and,BitVec.getLsbD_not,BitVec.getLsbD_zero];by_cases h5:i < 5
  ·have h31:(31#64).getLsbD i = true:=by
    show Nat.testBit ((31#64).toNat) i = true
    rw [show (31#64).toNat = 2 ^ 5 - 1 from rfl,Nat.testBit_two_pow_sub_one]
    simp;omega
   rw [h31];simp
  ·have:b.getLsbD i = false:=by
    show Nat.testBit b.toNat i = false
    exact Nat.testBit_lt_two_pow (Nat.lt_of_lt_of_le h (by have:=Nat.pow_le_pow_right (n:=2) (by omega) (show 5≤i by omega);omega))
   rw [this];rfl
theorem wrap0 (n:Nat) (h:n < 18446744073709551616):IntKind.i64.wrap (n:Int) = 0 ↔ n = 0:=by
 rw [IntKind.wrap_i64];omega
theorem andNot31 {x:Int} (h1:-9223372036854775808≤x) (h2:x≤9223372036854775807):(bits .andNot .i64 x 31 = 0) ↔ (0≤x∧x≤31):=by
 show IntKind.i64.wrap ((BitVec.ofInt 64 x &&& ~~~ BitVec.ofInt 64 31).toNat:Int) = 0 ↔ _
 rw [wrap0 _ (BitVec.isLt _),show BitVec.ofInt 64 31 = 31#64 from rfl];have e:∀ b:BitVec 64,b.toNat = 0 ↔ b = 0#64:=fun b=>⟨fun h=>BitVec.eq_of_toNat_eq (by simpa using h),fun h=>by rw [h];rfl⟩;rw [e,and31,BitVec.toNat_ofInt];omega
theorem andNot31b {x:Int} (h1:-9223372036854775808≤x) (h2:x≤9223372036854775807):(bits .andNot .i64 x 31 != 0) = !wthB x 0 31:=by
 unfold wthB;have:=andNot31 h1 h2;by_cases h:0≤x∧x≤31
 ·rw [this.2 h,decide_eq_true h.1,decide_eq_true h.2];rfl
 ·have h0:¬ bits .andNot .i64 x 31 = 0:=fun e=>h (this.1 e);rw [bne_iff_ne.2 h0]
  symm
  simp only [Bool.not_eq_true',Bool.and_eq_false_iff,decide_eq_false_iff_not];by_cases h1:0≤x
  ·exact .inr fun h2=>h ⟨h1,h2⟩
  ·exact .inl h1
theorem and1 {x:Nat} (h:x < 9223372036854775808):(bits .and .i64 (x:Int) 1 != 0) = decide (x % 2 = 1):=by
 have e:bits .and .i64 (x:Int) ((1:Nat):Int) = ((x &&& 1:Nat):Int):=by
  show IntKind.i64.wrap ((BitVec.ofInt 64 (x:Int) &&& BitVec.ofInt 64 ((1:Nat):Int)).toNat:Int) = _
  rw [BitVec.toNat_and,BitVec.toNat_ofInt,BitVec.toNat_ofInt];have:((x:Int) % (2 ^ 64:Nat)).toNat = x:=by omega
  rw [this,show (((1:Nat):Int) % (2 ^ 64:Nat)).toNat = 1 from rfl,Nat.and_one_is_mod,IntKind.wrap_i64];omega
 rw [show (1:Int) = ((1:Nat):Int) from rfl,e,Nat.and_one_is_mod];rcases Nat.mod_two_eq_zero_or_one x with h | h <;> rw [h] <;> rfl
end Rg
end Go.Proofs.YthmahbfmfpjjcaaGreat
/-
 The registry: the small functions on numbers.
-/
namespace Go.Proofs.YthmahbfmfpjjcaaGreat
open Go.RowKit
attribute [local go_sem] Oper.semAt_some
theorem YJ (w:World) (n a b:Int):Calls Tryz.prog 89 #[.int .i64 n,.int .i64 a,.int .i64 b] w fun e w'=>e = .returned (.bool (decide (a≤n) && decide (n≤b)))∧w' = w:=by
 by_cases h1:a≤n
 ·have h1':(n ≥ a) = True:=by simpa using h1
  by_cases h2:n≤b
  ·go_enter Tryz.func89,Tryz.ntmps89;go_wp2;go_ret;exact ⟨Za (by simp [h1,h2]),rfl⟩
  ·go_enter Tryz.func89,Tryz.ntmps89;go_wp2;go_ret;exact ⟨Za (by simp [h1,h2]),rfl⟩
 ·go_enter Tryz.func89,Tryz.ntmps89;go_wp2;go_ret;exact ⟨Za (by simp;omega),rfl⟩
theorem Zba (w:World) (n:Int) (used:Bool) (m:Int):Calls Tryz.prog 90 #[.int .i64 n,.bool used,.int .i64 m] w fun e w'=>e = .returned (.bool (if used = true then decide (1≤n) && decide (n≤m) else decide (n = 0)))∧w' = w:=by
 have hw:=YJ w n 1 m
 cases used
 ·go_enter Tryz.func90,Tryz.ntmps90;go_wp2;go_ret;exact ⟨Za (by by_cases h:n = 0 <;> simp [h]),rfl⟩
 ·go_enter Tryz.func90,Tryz.ntmps90;go_wp2_with fail;refine hw.mono ?_;rintro e w' ⟨rfl,rfl⟩;go_wp2;go_ret;exact ⟨rfl,rfl⟩
theorem Zbb (w:World) (a:Option Addr) (n c:Nat):Calls Tryz.prog 88 #[.slice a n c] w fun e w'=>e = .returned (.bool (decide (5≤n) && decide (n≤16)))∧w' = w:=by
 have hw:=YJ w n 5 16;go_enter Tryz.func88,Tryz.ntmps88;go_wp2_with fail;refine hw.mono ?_;rintro e w' ⟨rfl,rfl⟩;go_wp2;go_ret;refine ⟨Za ?_,rfl⟩;rw [Bool.eq_iff_iff];simp only [Bool.and_eq_true,decide_eq_true_eq];omega
end Go.Proofs.YthmahbfmfpjjcaaGreat
/-
 The registry: small functions on entries.
-/
namespace Go.Proofs.YthmahbfmfpjjcaaGreat
open Go.RowKit
attribute [local go_sem] Oper.semAt_some
theorem Zfj (w:World) (a1 a2:Option Addr) (n1 c1 n2 c2:Nat) (k st bf pr pk ob:Int) :
  Calls Tryz.prog 46 #[.agg #[.slice a1 n1 c1,.int .i64 k,.int .i64 st,.int .i64 bf,.int .i64 pr,.slice a2 n2 c2,.int .i64 pk,.int .i64 ob]] w fun e w'=>e = .returned (.bool (decide (k ≠ 3) && (decide (st = 3) || decide (st = 4))))∧Mod Nowhere w w':=by
 by_cases hk:k = 3
 ·have hkb:(k != 3) = false:=by simpa using hk
  go_enter Tryz.func46,Tryz.ntmps46;go_wp2;go_ret;exact ⟨Za (by simp [hk]),(Mod.refl _ w).alloc _⟩
 ·have hkb:(k != 3) = true:=by simpa using hk
  by_cases hs:st = 3
  ·have hsb:(st == 3) = true:=by simpa using hs
   go_enter Tryz.func46,Tryz.ntmps46;go_wp2;go_ret;exact ⟨Za (by simp [hk,hs]),(Mod.refl _ w).alloc _⟩
  ·have hsb:(st == 3) = false:=by simpa using hs
   go_enter Tryz.func46,Tryz.ntmps46;go_wp2;go_ret;exact ⟨Za (by by_cases h4:st = 4 <;> simp [hk,hs,h4]),(Mod.refl _ w).alloc _⟩
end Go.Proofs.YthmahbfmfpjjcaaGreat
/-
 bytes.Equal, of any slices.
-/
namespace Go.Proofs.YthmahbfmfpjjcaaGreat
open Go.RowKit
open Jn
attribute [local go_sem] Oper.semAt_some
theorem Src.string {w:World} {v:Value} {d:List Nat} (h:Src w v d):(convert 22 9 v).run Tryz.prog w = .ok (.string (strOfNums (d.map fun x:Nat=>(x:Int)))) w:=by
 obtain ⟨a,c,rfl,-,-,h3⟩:=h;refine Go.Lib.BytesIn.convert (P:=Tryz.prog) (xs:=d.map fun x:Nat=>(x:Int)) ?_ (by simp) c 22 5 9 Tryz.underlying22 Tryz.underlying5 Tryz.underlying9;intro h0;obtain ⟨b,off,e,hb,hc⟩:=h3 h0;refine ⟨b,off,e,fun i hi=>?_⟩;rw [hc i hi]
 congr 2
 rw [gd0,gd0,List.getElem?_map,List.getElem?_eq_getElem hi]
 rfl
theorem Zbc {a:List Nat} (ha:Bytes a):((Lib.bytesOf (a.map fun x:Nat=>(x:Int))).map fun x=>x.toNat) = a:=by
 unfold Lib.bytesOf;rw [List.map_map,List.map_map]
 apply List.ext_getElem
 ·simp
 ·intro i h1 h2;have:=ha i;rw [gd0,List.getElem?_eq_getElem h2] at this;simp only [Option.getD_some] at this;simp only [List.getElem_map,Function.comp_apply,Int.toNat_natCast];rw [UInt8.toNat_ofNat'];omega
theorem Zfk {a b:List Nat} (ha:Bytes a) (hb:Bytes b):((strOfNums (a.map fun x:Nat=>(x:Int))).toList == (strOfNums (b.map fun x:Nat=>(x:Int))).toList) = decide (a = b):=by
 rw [Lib.strOfNums_toList,Lib.strOfNums_toList];by_cases e:a = b
 ·subst e;simp
 ·rw [decide_eq_false e,beq_eq_false_iff_ne];intro h;have:=congrArg (fun l=>l.map fun x:UInt8=>x.toNat) h;simp only [Zbc ha,Zbc hb] at this;exact e this
theorem ZH {w:World} {u v:Value} {g d:List Nat} (hu:Src w u g) (hv:Src w v d) (bg:Bytes g) (bd:Bytes d) :
  Calls Tryz.prog 42 #[u,v] w fun e w'=>e = .returned (.bool (decide (g = d)))∧Mod Nowhere w w':=by
 have h1:=hu.string;have h2:=hv.string;have h3:=Zfk bg bd;generalize strOfNums (g.map fun x:Nat=>(x:Int)) = s1 at *;generalize strOfNums (d.map fun x:Nat=>(x:Int)) = s2 at *;obtain ⟨xa,xc,rfl,-,-,-⟩:=hu;obtain ⟨ya,yc,rfl,-,-,-⟩:=hv;replace h3:=Lib.hid h3;go_enter Tryz.func42,Tryz.ntmps42;go_wp2;go_ret;exact ⟨Za h3.out,Mod.refl _ _⟩
end Go.Proofs.YthmahbfmfpjjcaaGreat
/-
 Comparing strings of bytes: the reference's order and the program's.
-/
namespace Go.Proofs.YthmahbfmfpjjcaaGreat
open Go.RowKit
open Jn Vn Rg
attribute [local go_sem] Oper.semAt_some
theorem Zfl {a b:List Nat} {k:Nat} (h1:k < a.length) (h2:k < b.length) (h:a.take k = b.take k) (e:a.getD k 0 = b.getD k 0):a.take (k + 1) = b.take (k + 1):=by
 rw [List.take_succ_eq_append_getElem h1,List.take_succ_eq_append_getElem h2,h];rw [gd0,gd0,List.getElem?_eq_getElem h1,List.getElem?_eq_getElem h2] at e;simp at e;rw [e]
structure CmpK (a b:List Nat) (n m:Nat):Prop where
 lt:∀ k,k < n→k < m→a.take k = b.take k→a.getD k 0 < b.getD k 0→cmpB a b = -1
 gt:∀ k,k < n→k < m→a.take k = b.take k→b.getD k 0 < a.getD k 0→cmpB a b = 1
 go:∀ k,k < n→k < m→a.take k = b.take k→a.getD k 0 = b.getD k 0→a.take (k + 1) = b.take (k + 1)
 fin:∀ k,k≤n→k≤m→a.take k = b.take k→¬ (k < n∧k < m)→cmpB a b = if n < m then -1 else if m < n then 1 else 0
theorem cmpK (a b:List Nat):CmpK a b a.length b.length :=
 ⟨fun _ h1 h2 h=>Ze3 h1 h2 h,fun _ h1 h2 h=>Ze4 h1 h2 h,fun _ h1 h2 h e=>Zfl h1 h2 h e,fun _ h1 h2 h e=>Ze5 h1 h2 h e⟩
theorem XO {w:World} {u v:Value} {a b:List Nat} (hu:Src w u a) (hv:Src w v b) (ha:Bytes a) (hb:Bytes b) (hla:a.length≤1099511627776) (hlb:b.length≤1099511627776) :
  Calls Tryz.prog 31 #[u,v] w fun e w'=>e = .returned (.int .i64 (cmpB a b))∧Mod Nowhere w w':=by
 obtain ⟨ua,uc,rfl,hu1,hu2,hu3⟩:=hu;obtain ⟨va,vc,rfl,hv1,hv2,hv3⟩:=hv;have hK:=cmpK a b;generalize a.length = n at *;generalize b.length = m at *;refine hid5 ?_ hu3 hv3 hK ha hb;clear hu3 hv3 hK ha hb;intro hu3 hv3 hK ha hb;go_enter Tryz.func31,Tryz.ntmps31;go_wp2
 go_loopw [5] (fun i wr=>∃ k:Nat,k≤n∧k≤m∧i = .int .i64 k∧a.take k = b.take k∧Mod Nowhere w wr) (fun i _=>n - (RowKit.intOf i).toNat)
 case atStart=>exact ⟨0,by omega,by omega,rfl,rfl,Mod.refl _ _⟩
 case round =>
  obtain ⟨k,hk1,hk2,rfl,htk,hmd⟩:=hrel;by_cases hlt:k < n∧k < m
  ·obtain ⟨hlt1,hlt2⟩:=hlt;obtain ⟨b1,o1,rfl,hb1,hc1⟩:=hu3.out (by omega);obtain ⟨b2,o2,rfl,hb2,hc2⟩:=hv3.out (by omega);have c1:=(hmd.cell (p:=⟨b1,o1 + k,none⟩) hb1 id).trans (hc1 k hlt1);have c2:=(hmd.cell (p:=⟨b2,o2 + k,none⟩) hb2 id).trans (hc2 k hlt2);have hx:=ha.out k;have hy:=hb.out k;have k1:=hK.out.lt k hlt1 hlt2 htk;have k2:=hK.out.gt k hlt1 hlt2 htk;have k3:=hK.out.go k hlt1 hlt2 htk;generalize a.getD k 0 = x at *;generalize b.getD k 0 = y at *;refine hid5 ?_ k1 k2 k3 htk hmd;clear k1 k2 k3 htk hmd;intro k1 k2 k3 htk hmd;clear hc1 hc2;have hw1:(k:Int) < n:=by omega
   have hw2:(k:Int) < m:=by omega
   by_cases hxy:x < y
   ·have hi1:(x:Int) < y:=by omega
    go_wp2_with fail
    go_quiet (fail)
    go_wp2;go_ret;exact ⟨Zf (k1.out hxy).symm,hmd.out.drewN _⟩
   ·by_cases hyx:y < x
    ·have hi1:¬ (x:Int) < y:=by omega
     have hi2:(y:Int) < x:=by omega
     go_wp2_with fail
     go_quiet (fail)
     go_wp2_with fail
     go_quiet (fail)
     go_wp2;go_ret;exact ⟨Zf (k2.out hyx).symm,(hmd.out.drewN _).drewN _⟩
    ·have hi1:¬ (x:Int) < y:=by omega
     have hi2:¬ (y:Int) < x:=by omega
     go_wp2_with fail
     go_quiet (fail)
     go_wp2_with fail
     go_quiet (fail)
     go_wp2;go_roundw
     case rel=>exact ⟨k + 1,by omega,by omega,by go_num,k3.out (by omega),hmd.out.drewN _⟩
     case measure=>simp [RowKit.intOf];omega
  ·have he:=hK.out.fin k hk1 hk2 htk hlt;refine hid3 ?_ he hmd htk;clear he hmd htk;intro he hmd htk;by_cases hkn:k < n
   ·have hkm:k = m:=by omega
    subst hkm;go_wp2;go_ret;exact ⟨Zf (by rw [he.out,if_neg (by omega),if_pos (by omega)]),hmd.out⟩
   ·have hkn2:k = n:=by omega
    subst hkn2;by_cases hkm:k < m
    ·go_wp2;go_ret;exact ⟨Zf (by rw [he.out,if_pos (by omega)]),hmd.out⟩
    ·have hkm2:k = m:=by omega
     subst hkm2;go_wp2;go_ret;exact ⟨Zf (by rw [he.out,if_neg (by omega),if_neg (by omega)]),hmd.out⟩
theorem Zfm (a b:List Nat):decide (cmpB a b = 0) = decide (a = b):=by
 by_cases h:a = b
 ·subst h;simp [Xz]
 ·rw [decide_eq_false h,decide_eq_false (fun e=>h (XA e))]
theorem ZW {w:World} {u v:Value} {a b:List Nat} (hu:Src w u a) (hv:Src w v b) (ha:Bytes a) (hb:Bytes b) (hla:a.length≤1099511627776) (hlb:b.length≤1099511627776) :
  Calls Tryz.prog 41 #[u,v] w fun e w'=>e = .returned (.bool (decide (a = b)))∧Mod Nowhere w w':=by
 have hC:=XO hu hv ha hb hla hlb;have hz:=Zfm a b;obtain ⟨ua,uc,rfl,-⟩:=hu;obtain ⟨va,vc,rfl,-⟩:=hv;generalize a.length = n at *;generalize b.length = m at *;generalize cmpB a b = c at *;refine hid2 ?_ hC hz;clear hC hz;intro hC hz;go_enter Tryz.func41,Tryz.ntmps41;go_wp2_with fail;refine (hC.out).mono ?_;rintro e w1 ⟨rfl,hm1⟩;go_wp2;go_ret;exact ⟨Za (by rw [← hz.out];rfl),hm1⟩
end Go.Proofs.YthmahbfmfpjjcaaGreat
/-
 bytes.Compare, bytes.HasPrefix, of any slices; the packages over them.
-/
namespace Go.Proofs.YthmahbfmfpjjcaaGreat
open Go.RowKit
open Jn Vn Rg
attribute [local go_sem] Oper.semAt_some
theorem Src.byteArray {w:World} {v:Value} {d:List Nat} (h:Src w v d):(Extern.Bytes.bytesOf v).run Tryz.prog w = .ok ⟨(Lib.bytesOf (d.map fun x:Nat=>(x:Int))).toArray⟩ w:=by
 obtain ⟨a,c,rfl,-,-,h3⟩:=h
 cases a with
 | none =>
  have:d = []:=by
   by_cases h0:0 < d.length
   ·obtain ⟨b,off,e,_⟩:=h3 h0;cases e
   ·exact List.eq_nil_of_length_eq_zero (by omega)
  subst this
  rfl
 | some x =>
  by_cases h0:0 < d.length
  ·obtain ⟨b,off,e,hb,hc⟩:=h3 h0
   cases e
   have hl:=Lib.run_loadBytesX (P:=Tryz.prog) w (d.map fun x:Nat=>(x:Int)) ⟨b,off,none⟩ .empty (fun j x hj=>by
    rw [List.getElem?_map] at hj;obtain ⟨y,hy,rfl⟩:=Option.map_eq_some_iff.1 hj;have hjl:=(List.getElem?_eq_some_iff.1 hy).1;rw [add_lit,hc j hjl,gd0,hy]
    rfl)
   rw [List.length_map] at hl;refine hl.trans ?_
   congr 1
   apply ByteArray.ext
   simp
  ·have:d = []:=List.eq_nil_of_length_eq_zero (by omega);subst this
   rfl
theorem Zbd:∀ {a b:List Nat},Bytes a→Bytes b→Lib.compareBytes (Lib.bytesOf (a.map fun x:Nat=>(x:Int))) (Lib.bytesOf (b.map fun x:Nat=>(x:Int))) = cmpB a b
 | [],[],_,_=>rfl
 | [],_ :: _,_,_=>rfl
 | _ :: _,[],_,_=>rfl
 | x :: a,y :: b,ha,hb=>by
  have hx:x < 256:=ha 0;have hy:y < 256:=hb 0;have ih:=Zbd (a:=a) (b:=b) (fun k=>ha (k + 1)) (fun k=>hb (k + 1))
  show (if ((x:Int).toNat.toUInt8) < ((y:Int).toNat.toUInt8) then -1 else if ((y:Int).toNat.toUInt8) < ((x:Int).toNat.toUInt8) then 1 else Lib.compareBytes (Lib.bytesOf (a.map fun x:Nat=>(x:Int))) (Lib.bytesOf (b.map fun x:Nat=>(x:Int)))) = if x < y then -1 else if y < x then 1 else cmpB a b
  rw [ih]
  have e:∀ {x y:Nat},x < 256→y < 256→(((x:Int).toNat.toUInt8) < ((y:Int).toNat.toUInt8) ↔ x < y):=fun {x y} h1 h2=>by
   rw [UInt8.lt_iff_toNat_lt,Int.toNat_natCast,Int.toNat_natCast];simp only [Nat.toUInt8,UInt8.toNat_ofNat'];omega
  simp only [e hx hy,e hy hx]
theorem Zfn {w:World} {u v:Value} {a b:List Nat} (hu:Src w u a) (hv:Src w v b) (ha:Bytes a) (hb:Bytes b):(Extern.BytealgCompare.compare #[u,v]).run Tryz.prog w = .ok (.int .i64 (cmpB a b)) w:=by
 have h1:=hu.byteArray;have h2:=hv.byteArray
 show (do pure (goInt (Extern.BytealgCompare.cmp (← Extern.Bytes.bytesOf u) (← Extern.Bytes.bytesOf v))):Sem Value).run Tryz.prog w = _
 simp only [Sem.run_bind,h1,h2,Result.andThen];rw [Lib.cmp_eq,Zbd ha hb]
 rfl
theorem Zfo {w:World} {u v:Value} {a b:List Nat} (hu:Src w u a) (hv:Src w v b) (ha:Bytes a) (hb:Bytes b) :
  Calls Tryz.prog 93 #[u,v] w fun e w'=>e = .returned (.int .i64 (cmpB a b))∧w' = w:=by
 have hr:=Zfn hu hv ha hb;obtain ⟨ua,uc,rfl,-⟩:=hu;obtain ⟨va,vc,rfl,-⟩:=hv;generalize cmpB a b = c at *;generalize a.length = n at *;generalize b.length = m at *;go_enter Tryz.func93,Tryz.ntmps93;go_wp2;rw [run_callFunc_extern Tryz.func134 (by kernel_rfl) (by kernel_rfl) (by kernel_rfl) (e:=Extern.BytealgCompare.compare) (by kernel_rfl),hr];simp only [Result.andThen];rw [Oper.upon_value];go_wp2;go_ret;exact ⟨rfl,rfl⟩
theorem Zbe {w:World} {u v:Value} {a b:List Nat} (hu:Src w u a) (hv:Src w v b) (ha:Bytes a) (hb:Bytes b) :
  Calls Tryz.prog 48 #[u,v] w fun e w'=>e = .returned (.int .i64 (cmpB a b))∧w' = w:=by
 have hr:=Zfo hu hv ha hb;obtain ⟨ua,uc,rfl,-⟩:=hu;obtain ⟨va,vc,rfl,-⟩:=hv;generalize cmpB a b = c at *;generalize a.length = n at *;generalize b.length = m at *;replace hr:=Lib.hid hr;go_enter Tryz.func48,Tryz.ntmps48;go_wp2_with fail;refine (hr.out).mono ?_;rintro e w1 ⟨rfl,rfl⟩;go_wp2;go_ret;exact ⟨rfl,rfl⟩
def begB (p a:List Nat):Bool:=decide (p.length≤a.length) && decide (a.take p.length = p)
theorem Src.takeS {w:World} {a:Option Addr} {n c:Nat} {d:List Nat} (h:Src w (.slice a n c) d) {k:Nat} (hk:k≤n):Src w (.slice a k c) (d.take k):=by
 obtain ⟨a',c',e,h1,h2,h3⟩:=h;simp only [Value.slice.injEq] at e;obtain ⟨rfl,rfl,rfl⟩:=e;have hl:(d.take k).length = k:=by rw [List.length_take];omega
 refine ⟨a,c,by rw [hl],by omega,h2,fun h0=>?_⟩;rw [hl] at h0;obtain ⟨b,off,e1,hb,hc⟩:=h3 (by omega);refine ⟨b,off,e1,hb,fun i hi=>?_⟩;rw [hl] at hi;rw [hc i (by omega)]
 congr 3
 rw [gd0,gd0,List.getElem?_take,if_pos hi]
theorem bytes_take {a:List Nat} (h:Bytes a) (k:Nat):Bytes (a.take k):=Zw.2 fun x hx=>Zw.1 h x (List.mem_of_mem_take hx)
theorem Zfp {w:World} {u v:Value} {a b:List Nat} (hu:Src w u a) (hv:Src w v b) (ha:Bytes a) (hb:Bytes b) :
  Calls Tryz.prog 92 #[u,v] w fun e w'=>e = .returned (.bool (begB b a))∧Mod Nowhere w w':=by
 by_cases hl:b.length≤a.length
 ·have hE:∀ ua uc,u = .slice ua a.length uc→Calls Tryz.prog 42 #[.slice ua b.length uc,v] w fun e w'=>e = .returned (.bool (decide (a.take b.length = b)))∧Mod Nowhere w w':=fun ua uc e=>by
   rw [e] at hu;exact ZH (hu.takeS hl) hv (bytes_take ha _) hb
  have hB:begB b a = decide (a.take b.length = b):=by unfold begB;rw [decide_eq_true hl];rfl
  rw [hB];obtain ⟨ua,uc,rfl,hu1,hu2,-⟩:=hu;obtain ⟨va,vc,rfl,-⟩:=hv;have hE2:=hE _ _ rfl;clear hE;generalize decide (a.take b.length = b) = c at *;generalize a.length = n at *;generalize b.length = m at *;have hli:(m:Int)≤n:=by omega
  replace hE2:=Lib.hid hE2;go_enter Tryz.func92,Tryz.ntmps92;go_wp2_with fail;refine (hE2.out).mono ?_;rintro e w1 ⟨rfl,hm⟩;go_wp2;go_ret;exact ⟨rfl,hm⟩
 ·have hB:begB b a = false:=by unfold begB;rw [decide_eq_false hl];rfl
  rw [hB];obtain ⟨ua,uc,rfl,-⟩:=hu;obtain ⟨va,vc,rfl,-⟩:=hv;generalize a.length = n at *;generalize b.length = m at *;have hli:¬ (m:Int)≤n:=by omega
  go_enter Tryz.func92,Tryz.ntmps92;go_wp2;go_ret;exact ⟨rfl,Mod.refl _ _⟩
theorem Zfq {w:World} {u v:Value} {a b:List Nat} (hu:Src w u a) (hv:Src w v b) (ha:Bytes a) (hb:Bytes b) :
  Calls Tryz.prog 47 #[u,v] w fun e w'=>e = .returned (.bool (begB b a))∧Mod Nowhere w w':=by
 have hr:=Zfp hu hv ha hb;obtain ⟨ua,uc,rfl,-⟩:=hu;obtain ⟨va,vc,rfl,-⟩:=hv;generalize begB b a = c at *;generalize a.length = n at *;generalize b.length = m at *;replace hr:=Lib.hid hr;go_enter Tryz.func47,Tryz.ntmps47;go_wp2_with fail;refine (hr.out).mono ?_;rintro e w1 ⟨rfl,hm⟩;go_wp2;go_ret;exact ⟨rfl,hm⟩
end Go.Proofs.YthmahbfmfpjjcaaGreat
