/-
  The reference of the PINs, in plain numbers: lists of PINs, ascending, as functions of their numbers.
-/
import Derived.Test.YtjanpegbemepgaaGreatTG37
import Derived.Test.YtjanpegbemepgaaGreatTG46
set_option linter.unusedVariables false
set_option linter.unusedSimpArgs false
set_option maxRecDepth 100000
namespace Go.Proofs.YtjanpegbemepgaaGreat
namespace Vn
open Jn
structure QP where
 d:PinD
 t:Nat
 u:Nat
 fr:Bool
def qlTo (g:Nat→Option QP) (k:Nat):List QP:=(List.range k).filterMap g
def ql (g:Nat→Option QP):List QP:=qlTo g 9
theorem qlTo_succ (g:Nat→Option QP) (k:Nat):qlTo g (k + 1) = qlTo g k ++ (g k).toList:=by
 unfold qlTo;rw [List.range_succ,List.filterMap_append]
 cases h:g k <;> simp [h]
structure QFn (g:Nat→Option QP):Prop where
 id:∀ k p,g k = some p→p.d.id = k∧POk p.d
theorem QFn.empty:QFn fun _=>none:=⟨fun _ _ h=>by cases h⟩
theorem QFn.lt {g:Nat→Option QP} (h:QFn g) {k:Nat} {p:QP} (hk:g k = some p):1≤k∧k≤8:=by
 obtain ⟨e,ho⟩:=h.id k p hk;rw [← e];exact ⟨ho.i1,ho.i8⟩
theorem qlTo_mem {g:Nat→Option QP} (h:QFn g) {k:Nat} {p:QP} (hp:p ∈ qlTo g k):p.d.id < k∧g p.d.id = some p:=by
 unfold qlTo at hp;obtain ⟨j,hj,e⟩:=List.mem_filterMap.1 hp;obtain ⟨e1,-⟩:=h.id j p e;rw [e1];exact ⟨List.mem_range.1 hj,e⟩
theorem ql_mem {g:Nat→Option QP} (h:QFn g) {p:QP} (hp:p ∈ ql g):g p.d.id = some p∧POk p.d:=by
 have:=(qlTo_mem h hp).2;exact ⟨this,(h.id _ _ this).2⟩
theorem mem_ql {g:Nat→Option QP} (h:QFn g) {k:Nat} {p:QP} (hk:g k = some p):p ∈ ql g :=
 List.mem_filterMap.2 ⟨k,List.mem_range.2 (by have:=h.lt hk;omega),hk⟩
theorem ql_len (g:Nat→Option QP):(ql g).length≤9:=by
 unfold ql qlTo;exact Nat.le_trans (List.length_filterMap_le _ _) (by simp)
def qupd (g:Nat→Option QP) (k:Nat) (o:Option QP):Nat→Option QP:=fun j=>if j = k then o else g j
theorem QFn.qupd {g:Nat→Option QP} (h:QFn g) {p:QP} (hp:POk p.d):QFn (qupd g p.d.id (some p)):=⟨fun k q hq=>by
 unfold Vn.qupd at hq
 split at hq
 ·cases hq;rename_i e;exact ⟨e.symm,hp⟩
 ·exact h.id k q hq⟩
theorem QFn.del {g:Nat→Option QP} (h:QFn g) (id:Nat):QFn (Vn.qupd g id none):=⟨fun k q hq=>by
 unfold Vn.qupd at hq
 split at hq
 ·cases hq
 ·exact h.id k q hq⟩
def wStep (p:QP) (r:List QP × Bool) (x:QP):List QP × Bool :=
 ((if r.2 = false∧p.d.id≤x.d.id then r.1 ++ [p] else r.1) ++ (if x.d.id ≠ p.d.id then [x] else []),r.2 || decide (p.d.id≤x.d.id))
def wFold (p:QP) (l:List QP):List QP × Bool:=l.foldl (wStep p) ([],false)
def qwith (l:List QP) (p:QP):List QP:=if (wFold p l).2 = true then (wFold p l).1 else (wFold p l).1 ++ [p]
theorem wFold_snoc (p:QP) (l:List QP) (x:QP):wFold p (l ++ [x]) = wStep p (wFold p l) x:=by
 unfold wFold;rw [List.foldl_append];rfl
theorem wFold_ql {g:Nat→Option QP} (h:QFn g) {p:QP}:∀ k,((wFold p (qlTo g k)).2 = true∧p.d.id < k∧(wFold p (qlTo g k)).1 = qlTo (qupd g p.d.id (some p)) k) ∨
  ((wFold p (qlTo g k)).2 = false∧(wFold p (qlTo g k)).1 = qlTo (qupd g p.d.id none) k∧(qlTo (qupd g p.d.id (some p)) k = if p.d.id < k then qlTo (qupd g p.d.id none) k ++ [p] else qlTo (qupd g p.d.id none) k))
 | 0=>.inr ⟨rfl,rfl,by rw [if_neg (by omega)];rfl⟩
 | k + 1=>by
  have ih:=wFold_ql h (p:=p) k;have e1:=qlTo_succ (qupd g p.d.id (some p)) k;have e2:=qlTo_succ (qupd g p.d.id none) k;rw [qlTo_succ g k]
  cases hg:g k with
  | none =>
   rw [show (none:Option QP).toList = [] from rfl,List.append_nil];rcases ih with ⟨a,b,c⟩ | ⟨a,b,c⟩
   ·left
    refine ⟨a,by omega,?_⟩;rw [c,e1];have:qupd g p.d.id (some p) k = none:=by unfold qupd;rw [if_neg (by omega)];exact hg
    rw [this];simp
   ·right
    have h2:qupd g p.d.id none k = none:=by unfold qupd;split;rfl;exact hg
    rw [h2] at e2;simp only [Option.toList_none,List.append_nil] at e2;refine ⟨a,by rw [b,e2],?_⟩;rw [e1,e2,c];by_cases hk:p.d.id = k
    ·have:qupd g p.d.id (some p) k = some p:=by unfold qupd;rw [if_pos hk.symm]
     rw [this,if_neg (by omega),if_pos (by omega)];rfl
    ·have:qupd g p.d.id (some p) k = none:=by unfold qupd;rw [if_neg (fun e=>hk e.symm)];exact hg
     rw [this];by_cases hk2:p.d.id < k
     ·rw [if_pos hk2,if_pos (by omega)];simp
     ·rw [if_neg hk2,if_neg (by omega)];simp
  | some x =>
   obtain ⟨ex,-⟩:=h.id k x hg;rw [show (some x).toList = [x] from rfl,wFold_snoc];unfold wStep;rcases ih with ⟨a,b,c⟩ | ⟨a,b,c⟩
   ·left
    have:qupd g p.d.id (some p) k = some x:=by unfold qupd;rw [if_neg (by omega)];exact hg
    refine ⟨by simp [a],by omega,?_⟩;rw [e1,this,c,a];simp;omega
   ·by_cases hk:p.d.id≤k
    ·left
     refine ⟨by simp [ex];right;exact hk,by omega,?_⟩;rw [e1,c,b,a,ex];simp only [true_and];rw [if_pos hk];by_cases hk2:p.d.id = k
     ·have:qupd g p.d.id (some p) k = some p:=by unfold qupd;rw [if_pos hk2.symm]
      rw [this,if_neg (by omega),if_neg (by omega)];simp
     ·have:qupd g p.d.id (some p) k = some x:=by unfold qupd;rw [if_neg (by omega)];exact hg
      rw [this,if_pos (by omega),if_pos (by omega)];simp
    ·right
     have t1:qupd g p.d.id (some p) k = some x:=by unfold qupd;rw [if_neg (by omega)];exact hg
     have t2:qupd g p.d.id none k = some x:=by unfold qupd;rw [if_neg (by omega)];exact hg
     refine ⟨by simp [a,ex];omega,?_,?_⟩
     ·rw [e2,b,a,ex,t2];simp only [true_and];rw [if_neg hk,if_pos (by omega)];rfl
     ·rw [e1,e2,c,t1,t2,if_neg (by omega),if_neg (by omega)]
theorem qwith_ql {g:Nat→Option QP} (h:QFn g) {p:QP} (hp:p.d.id≤8):qwith (ql g) p = ql (qupd g p.d.id (some p)):=by
 unfold qwith ql;rcases wFold_ql h (p:=p) 9 with ⟨a,b,c⟩ | ⟨a,b,c⟩
 ·rw [if_pos a,c]
 ·rw [if_neg (by rw [a];decide),b,c,if_pos (by omega)]
def qwithout (l:List QP) (id:Int):List QP:=l.filter fun x=>decide ((x.d.id:Int) ≠ id)
theorem qwithout_qlTo {g:Nat→Option QP} (h:QFn g) (id:Nat):∀ k,qwithout (qlTo g k) id = qlTo (qupd g id none) k
 | 0=>rfl
 | k + 1=>by
  rw [qlTo_succ,qlTo_succ,← qwithout_qlTo h id k];unfold qwithout;rw [List.filter_append]
  congr 1
  cases hg:g k with
  | none =>
   have:qupd g id none k = none:=by unfold qupd;split;rfl;exact hg
   rw [this];rfl
  | some x =>
   obtain ⟨ex,-⟩:=h.id k x hg;by_cases hk:k = id
   ·have:qupd g id none k = none:=by unfold qupd;rw [if_pos hk]
    rw [this];simp [ex,hk]
   ·have:qupd g id none k = some x:=by unfold qupd;rw [if_neg hk];exact hg
    rw [this];simp [ex];omega
def qsettle (l:List QP):List QP:=l.map fun x=>{ x with fr:=false }
def settleF (g:Nat→Option QP):Nat→Option QP:=fun k=>(g k).map fun x=>{ x with fr:=false }
theorem qsettle_qlTo (g:Nat→Option QP):∀ k,qsettle (qlTo g k) = qlTo (settleF g) k
 | 0=>rfl
 | k + 1=>by
  rw [qlTo_succ,qlTo_succ,← qsettle_qlTo g k];unfold qsettle;rw [List.map_append]
  congr 1
  unfold settleF
  cases g k <;> rfl
theorem QFn.settle {g:Nat→Option QP} (h:QFn g):QFn (settleF g):=⟨fun k p hp=>by
 unfold settleF at hp
 cases hg:g k with
 | none=>rw [hg] at hp;cases hp
 | some x =>
  rw [hg] at hp
  cases hp
  exact h.id k x hg⟩
def qfind (l:List QP) (id:Int):Int:=match l.findIdx? (fun x=>decide ((x.d.id:Int) = id)) with
 | some i=>(i:Int)
 | none=>-1
end Vn
end Go.Proofs.YtjanpegbemepgaaGreat
namespace Go.Proofs.YtjanpegbemepgaaGreat
open Go.RowKit
open Jn Vn
attribute [local go_sem] Oper.semAt_some
abbrev Qx:=(Value × Value) × QP
def qxCells (x:Qx):List Value:=[.int .i64 x.2.d.id,x.1.1,.int .i64 x.2.d.limit,.int .i64 x.2.d.lo,.int .i64 x.2.d.hi,x.1.2,.int .i64 x.2.d.cl,.int .i64 x.2.t,.int .i64 x.2.u,.bool x.2.fr]
def qxsCells (xs:List Qx):List Value:=xs.flatMap qxCells
def qps (xs:List Qx):List QP:=xs.map (·.2)
structure QxD (w:World) (x:Qx):Prop where
 dv:DSl w x.1.1 x.2.d.value
 dc:DSl w x.1.2 x.2.d.code
structure QSl (w:World) (v:Value) (xs:List Qx):Prop where
 sl:Sl w v 116 10 xs.length (qxsCells xs)
 data:∀ x ∈ xs,QxD w x
theorem QxD.fresh {w w':World} {x:Qx} (h:QxD w x) (hm:Mod Nowhere w w'):QxD w' x:=⟨h.dv.fresh hm,h.dc.fresh hm⟩
theorem QSl.fresh {w w':World} {v:Value} {xs:List Qx} (h:QSl w v xs) (hm:Mod Nowhere w w'):QSl w' v xs:=⟨h.sl.mod hm (fun _ _ e=>e),fun x hx=>(h.data x hx).fresh hm⟩
theorem QxD.mod {S:Nat→Prop} {w w':World} {x:Qx} (h:QxD w x) (hm:Mod S w w') (hS:Shun S w 5):QxD w' x:=⟨DSl.mod h.dv hm hS,DSl.mod h.dc hm hS⟩
theorem QSl.mod {S:Nat→Prop} {w w':World} {v:Value} {xs:List Qx} (h:QSl w v xs) (hm:Mod S w w') (hI:Shun S w 116) (hS:Shun S w 5):QSl w' v xs:=⟨h.sl.mod hm (h.sl.off hI),fun x hx=>(h.data x hx).mod hm hS⟩
theorem QSl.nil (w:World):QSl w (.slice none 0 0) []:=⟨Sl.nil _ _ _,fun x hx=>(List.not_mem_nil hx).elim⟩
theorem qxCells_len (x:Qx):(qxCells x).length = 10:=rfl
theorem qxsCells_append (xs ys:List Qx):qxsCells (xs ++ ys) = qxsCells xs ++ qxsCells ys:=by simp [qxsCells]
theorem qxsCells_get:∀ (xs:List Qx) (i:Nat) (h:i < xs.length) (j:Nat),j < 10→(qxsCells xs).getD (i * 10 + j) default = (qxCells xs[i]).getD j default
 | x :: xs,0,_,j,hj=>by
  rw [Nat.zero_mul,Nat.zero_add]
  show (qxCells x ++ qxsCells xs).getD j default = _
  rw [List.getD_eq_getElem?_getD,List.getElem?_append_left (by rw [qxCells_len];exact hj),← List.getD_eq_getElem?_getD]
  rfl
 | x :: xs,i + 1,h,j,hj=>by
  have ih:=qxsCells_get xs i (by simpa using h) j hj
  show (qxCells x ++ qxsCells xs).getD ((i + 1) * 10 + j) default = _
  rw [List.getD_eq_getElem?_getD,List.getElem?_append_right (by rw [qxCells_len];omega),← List.getD_eq_getElem?_getD,qxCells_len,show (i + 1) * 10 + j - 10 = i * 10 + j by omega];exact ih
theorem QSl.at_ {w:World} {v:Value} {xs:List Qx} (h:QSl w v xs) {i:Nat} (hi:i < xs.length) :
  ∃ b off cap a1 c1 a2 c2,v = .slice (some ⟨b,off,none⟩) xs.length cap∧b < w.heap.size∧xs.length≤cap∧cap≤maxLen∧(∀ j,j < 10→w.cell? ⟨b,off + i * 10 + j,none⟩ = some ((qxCells xs[i]).getD j default)) ∧
   xs[i].1.1 = .slice a1 xs[i].2.d.value.length c1∧xs[i].1.2 = .slice a2 xs[i].2.d.code.length c2:=by
 obtain ⟨b,off,cap,rfl,hb,h1,h2,hc,_⟩:=h.sl.open (by omega);obtain ⟨a1,c1,e1,_⟩:=Sl.len (h.data xs[i] (List.getElem_mem hi)).dv;obtain ⟨a2,c2,e2,_⟩:=Sl.len (h.data xs[i] (List.getElem_mem hi)).dc;refine ⟨b,off,cap,a1,c1,a2,c2,rfl,hb,h1,h2,fun j hj=>?_,e1,e2⟩;have:=hc (i * 10 + j) (by omega);rw [Nat.add_assoc,this,qxsCells_get xs i hi j hj]
theorem info_qpin:(Tryz.prog.info? 116).map (fun i=>(i.zero,i.size,i.bytes)) = some (some (.agg #[.int .i64 0,.slice none 0 0,.int .i64 0,.int .i64 0,.int .i64 0,.slice none 0 0,.int .i64 0,.int .i64 0,.int .i64 0,.bool false]),10,112):=by kernel_rfl
def QPost (w:World) (l:List QP) (e:Ending) (w':World):Prop:=∃ v xs,e = .returned v∧QSl w' v xs∧qps xs = l∧Mod Nowhere w w'
theorem qps_len (xs:List Qx):(qps xs).length = xs.length:=by simp [qps]
theorem QSl.of_owns {w W:World} {T:Nat} {v:Value} {xs ys:List Qx} (h:QSl w v xs) {u:Value} (ho:W.ownsRow T 116 10 u ys.length (qxsCells ys)) (hm:Mod Nowhere w W) (hy:∀ y ∈ ys,y ∈ xs):QSl W u ys :=
 ⟨Sl.of_owns ho,fun x hx=>(h.data x (hy x hx)).fresh hm⟩
theorem ten {w:World} {b o:Nat} {x:Qx} (hc:∀ j,j < 10→w.cell? ⟨b,o + j,none⟩ = some ((qxCells x).getD j default)) :
  w.cell? ⟨b,o,none⟩ = some (.int .i64 x.2.d.id)∧w.cell? ⟨b,o + 1,none⟩ = some x.1.1∧w.cell? ⟨b,o + 2,none⟩ = some (.int .i64 x.2.d.limit)∧w.cell? ⟨b,o + 3,none⟩ = some (.int .i64 x.2.d.lo)∧w.cell? ⟨b,o + 4,none⟩ = some (.int .i64 x.2.d.hi)∧w.cell? ⟨b,o + 5,none⟩ = some x.1.2 ∧
  w.cell? ⟨b,o + 6,none⟩ = some (.int .i64 x.2.d.cl)∧w.cell? ⟨b,o + 7,none⟩ = some (.int .i64 x.2.t)∧w.cell? ⟨b,o + 8,none⟩ = some (.int .i64 x.2.u)∧w.cell? ⟨b,o + 9,none⟩ = some (.bool x.2.fr) :=
 ⟨hc 0 (by omega),hc 1 (by omega),hc 2 (by omega),hc 3 (by omega),hc 4 (by omega),hc 5 (by omega),hc 6 (by omega),hc 7 (by omega),hc 8 (by omega),hc 9 (by omega)⟩
theorem qx_form {x:Qx} {a1 a2:Option Addr} {c1 c2:Nat} (e1:x.1.1 = .slice a1 x.2.d.value.length c1) (e2:x.1.2 = .slice a2 x.2.d.code.length c2) :
  qxsCells [x] = [.int .i64 x.2.d.id,.slice a1 x.2.d.value.length c1,.int .i64 x.2.d.limit,.int .i64 x.2.d.lo,.int .i64 x.2.d.hi,.slice a2 x.2.d.code.length c2,.int .i64 x.2.d.cl,.int .i64 x.2.t,.int .i64 x.2.u,.bool x.2.fr]:=by
 rw [← e1,← e2];rfl
theorem find_step {l:List QP} {id:Int} {k:Nat} (hk:k < l.length) (hno:∀ x ∈ l.take k,(x.d.id:Int) ≠ id) :
  ((l[k].d.id:Int) = id→qfind l id = (k:Int))∧((l[k].d.id:Int) ≠ id→∀ x ∈ l.take (k + 1),(x.d.id:Int) ≠ id):=by
 constructor
 ·intro e;unfold qfind
  have:l.findIdx? (fun x=>decide ((x.d.id:Int) = id)) = some k:=by
   rw [List.findIdx?_eq_some_iff_getElem];refine ⟨hk,by simpa using e,fun j hj=>?_⟩;have:=hno l[j] (List.mem_take_iff_getElem.2 ⟨j,by omega,rfl⟩);simpa using this
  rw [this]
 ·intro e x hx;rw [List.take_succ_eq_append_getElem hk] at hx;rcases List.mem_append.1 hx with h | h
  ·exact hno x h
  ·rw [List.mem_singleton.1 h];exact e
theorem find_none {l:List QP} {id:Int} (hno:∀ x ∈ l,(x.d.id:Int) ≠ id):qfind l id = -1:=by
 unfold qfind
 have:l.findIdx? (fun x=>decide ((x.d.id:Int) = id)) = none:=by
  rw [List.findIdx?_eq_none_iff];intro x hx;simpa using hno x hx
 rw [this]
set_option maxHeartbeats 2000000 in
theorem qFind_ok {w:World} {v:Value} {xs:List Qx} (h:QSl w v xs) (hn:xs.length≤1000) (id:Int) :
  Calls Tryz.prog 90 #[v,.int .i64 id] w fun e w'=>e = .returned (.int .i64 (qfind (qps xs) id))∧w = w':=by
 obtain ⟨la,lc,rfl,h1,h2,-⟩:=h.sl.gen;obtain ⟨R,hR⟩:∃ R,qfind (qps xs) id = R:=⟨_,rfl⟩;rw [hR];refine hid2 ?_ h hR;clear h hR;intro h hR;go_enter Tryz.func90,Tryz.ntmps90;go_wp2
 go_loopw [5] (fun i wr=>∃ k:Nat,k≤xs.length∧i = .int .i64 k∧(∀ x ∈ (qps xs).take k,(x.d.id:Int) ≠ id)∧w = wr) (fun i _=>xs.length - (RowKit.intOf i).toNat)
 case atStart=>exact ⟨0,by omega,rfl,fun x hx=>by simp at hx,rfl⟩
 case round =>
  obtain ⟨k,hk,rfl,hno,rfl⟩:=hrel;by_cases hlt:k < xs.length
  ·obtain ⟨b,off,cap',a1,c1,a2,c2,e0,hb,_,_,hc,e1,e2⟩:=h.out.at_ hlt
   obtain ⟨rfl,rfl⟩:la = some ⟨b,off,none⟩∧lc = cap':=by
    simp at e0;exact ⟨e0.1,e0.2⟩
   have k0:=(ten hc).1;have hst:=find_step (l:=qps xs) (id:=id) (k:=k) (by rw [qps_len];exact hlt) hno;have hg:(qps xs)[k]'(by rw [qps_len];exact hlt) = xs[k].2:=by simp [qps]
   rw [hg] at hst;obtain ⟨q,hq⟩:∃ q,xs[k].2.d.id = q:=⟨_,rfl⟩;rw [hq] at hst k0;clear hc e1 e2 e0;by_cases hid:(q:Int) = id
   ·have e:=hst.1 hid;rw [hR.out] at e;subst e;have hidb:((q:Int) == id) = true:=by simpa using hid
    refine hid6 ?_ hst hno hid hR hq hg;clear hst hno hid hR hq hg;intro hst hno hid hR hq hg;go_wp2;go_ret;exact ⟨rfl,rfl⟩
   ·have hno2:=hst.2 hid;have hidb:((q:Int) == id) = false:=by simpa using hid
    refine hid6 ?_ hst hno hid hno2 hq hg;clear hst hno hid hno2 hq hg;intro hst hno hid hno2 hq hg;go_wp2;go_roundw
    case rel=>exact ⟨k + 1,by omega,by go_num,hno2.out,by first | rfl | trivial⟩
    case measure=>simp [RowKit.intOf];omega
  ·obtain rfl:k = xs.length:=by omega
   have e:R = -1:=by
    rw [← hR.out];exact find_none (by rw [← qps_len,List.take_length] at hno;exact hno)
   subst e;refine hid2 ?_ hno hR;clear hno hR;intro hno hR;go_wp2;go_ret;exact ⟨rfl,rfl⟩
set_option maxHeartbeats 4000000 in
theorem qWithout_ok {w:World} {v:Value} {xs:List Qx} (h:QSl w v xs) (hn:xs.length≤1000) (nd:Int) :
  Calls Tryz.prog 93 #[v,.int .i64 nd] w (QPost w (qwithout (qps xs) nd)):=by
 obtain ⟨i0,hi0,hz0,hz1,hz2⟩:=info_parts info_qpin;obtain ⟨la,lc,rfl,h1,h2,-⟩:=h.sl.gen;obtain ⟨R,hR⟩:∃ R,qwithout (qps xs) nd = R:=⟨_,rfl⟩;rw [hR];refine hid2 ?_ h hR;clear h hR;intro h hR;go_enter Tryz.func93,Tryz.ntmps93;go_wp2
 go_loopw [5,6] (fun v i wr=>∃ (k L:Nat) (va:Option Addr) (vcap:Nat) (F:List Qx),k≤xs.length∧i = .int .i64 k∧v = .slice va L vcap∧F = (xs.take k).filter (fun x=>decide ((x.2.d.id:Int) ≠ nd))∧L = F.length∧wr.ownsRow w.heap.size 116 10 (.slice va L vcap) L (qxsCells F)∧Mod Nowhere w wr) (fun _ i _=>xs.length - (RowKit.intOf i).toNat)
 case atStart=>exact ⟨0,0,none,0,[],by omega,rfl,rfl,rfl,rfl,World.ownsRow_nil _ _ _ _,Mod.refl _ _⟩
 case round =>
  obtain ⟨k,L,va,vcap,F,hk,rfl,rfl,hF,hL,hown,hm⟩:=hrel;by_cases hlt:k < xs.length
  ·obtain ⟨b,off,cap',xa,xc,ya,yc,e0,hb,_,_,hc,e3,e4⟩:=(h.out.fresh hm).at_ hlt
   have hft:((xs.take (k + 1)).filter fun x=>decide ((x.2.d.id:Int) ≠ nd)) = F ++ (if (xs[k].2.d.id:Int) = nd then [] else [xs[k]]):=by
    rw [List.take_succ_eq_append_getElem hlt,List.filter_append,← hF]
    congr 1
    by_cases e:(xs[k].2.d.id:Int) = nd <;> simp [e]
   have hLb:L≤1000:=by
    have:=List.length_filter_le (fun x:Qx=>decide ((x.2.d.id:Int) ≠ nd)) (xs.take k);have:=List.length_take_le k xs;rw [← hF] at *;omega
   have hcs:=qx_form e3 e4
   obtain ⟨rfl,rfl⟩:la = some ⟨b,off,none⟩∧lc = cap':=by
    simp at e0;exact ⟨e0.1,e0.2⟩
   obtain ⟨c0,c1,c2,c3,c4,c5,c6,c7,c8,c9⟩:=ten hc;rw [e3] at c1;rw [e4] at c5;clear hc e0;obtain ⟨vl,hvl⟩:∃ q,xs[k].2.d.value.length = q:=⟨_,rfl⟩;obtain ⟨cl,hcl⟩:∃ q,xs[k].2.d.code.length = q:=⟨_,rfl⟩;obtain ⟨id,hid0⟩:∃ q,xs[k].2.d.id = q:=⟨_,rfl⟩;obtain ⟨li,hli⟩:∃ q,xs[k].2.d.limit = q:=⟨_,rfl⟩;obtain ⟨lo,hlo⟩:∃ q,xs[k].2.d.lo = q:=⟨_,rfl⟩;obtain ⟨hi,hhi⟩:∃ q,xs[k].2.d.hi = q:=⟨_,rfl⟩;obtain ⟨ul,hul⟩:∃ q,xs[k].2.d.cl = q:=⟨_,rfl⟩;obtain ⟨t,ht⟩:∃ q,xs[k].2.t = q:=⟨_,rfl⟩;obtain ⟨u,hu⟩:∃ q,xs[k].2.u = q:=⟨_,rfl⟩;obtain ⟨fr,hfr⟩:∃ q,xs[k].2.fr = q:=⟨_,rfl⟩;rw [hvl] at c1
   rw [hcl] at c5;rw [hid0] at c0 hft;rw [hli] at c2;rw [hlo] at c3;rw [hhi] at c4;rw [hul] at c6;rw [ht] at c7;rw [hu] at c8;rw [hfr] at c9;rw [hvl,hcl,hid0,hli,hlo,hhi,hul,ht,hu,hfr] at hcs;refine hid12 ?_ e3 e4 hvl hcl hid0 hli hlo hhi hul ht hu hfr;clear e3 e4 hvl hcl hid0 hli hlo hhi hul ht hu hfr;intro e3 e4 hvl hcl hid0 hli hlo hhi hul ht hu hfr;by_cases hid:(id:Int) = nd
   ·rw [if_pos hid,List.append_nil] at hft;have hidb:((id:Int) != nd) = false:=by simpa using hid
    clear c1 c2 c3 c4 c5 c6 c7 c8 c9;refine hid7 ?_ hid hft hF hcs hL hown hm;clear hid hft hF hcs hL hown hm;intro hid hft hF hcs hL hown hm;go_wp2;go_roundw
    case rel=>exact ⟨k + 1,L,va,vcap,F,by omega,by go_num,rfl,hft.out.symm,hL.out,hown.out,hm.out⟩
    case measure=>simp [RowKit.intOf];omega
   ·rw [if_neg hid] at hft;have hidb:((id:Int) != nd) = true:=by simpa using hid
    have hmA:Mod Nowhere wr (wr.alloc (.cells #[.int .i64 id,.slice xa vl xc,.int .i64 li,.int .i64 lo,.int .i64 hi,.slice ya cl yc,.int .i64 ul,.int .i64 t,.int .i64 u,.bool fr] 116)):=(Mod.refl _ wr).alloc _;have hownA:=owns_mod hown hmA (fun _ _ e=>e);have hmwA:=hm.trans hmA;have hsz:=hm.size;refine hid8 ?_ hid hft hF hcs hL hownA hmwA hm;clear hid hft hF hcs hL hownA hmwA hm;intro hid hft hF hcs hL hownA hmwA hm;clear hown hmA
    go_wp2_with (at_builtin;refine wpList_append_lies _ rfl _ _ 48 rfl w.heap.size 116 i0 (.agg #[.int .i64 0,.slice none 0 0,.int .i64 0,.int .i64 0,.int .i64 0,.slice none 0 0,.int .i64 0,.int .i64 0,.int .i64 0,.bool false]) 10 112 Tryz.underlying48 hi0 hz0 hz1 hz2 rfl (by decide) _ L _ (by rfl) hownA.out ⟨wr.heap.size,0,none⟩ 1 1 [.int .i64 (id:Int),.slice xa vl xc,.int .i64 (li:Int),.int .i64 (lo:Int),.int .i64 (hi:Int),.slice ya cl yc,.int .i64 (ul:Int),.int .i64 (t:Int),.int .i64 (u:Int),.bool fr] (by rfl) rfl (cells_new wr _ _) (by simp [Value.oneCell']) (by decide) (by unfold maxLen;omega) (by omega) (by simp;omega) _ rfl ?_;intro g cap w2 hown2 hgrow2 hat2 hlt2;have hM2:Mod Nowhere w w2:=hmwA.out.step ((Mod.refl (Above w.heap.size) _).app hownA.out hgrow2) (fun i hi e=>by have e:w.heap.size≤i:=e;omega);clear hgrow2 hat2;replace hown2:=Lib.hid hown2;replace hM2:=Lib.hid hM2)
    go_roundw
    case rel=>exact ⟨k + 1,L + 1,_,_,F ++ [xs[k]],by omega,by go_num,rfl,hft.out.symm,by rw [List.length_append,← hL.out];rfl,by rw [qxsCells_append,hcs.out];exact hown2.out,hM2.out⟩
    case measure=>simp [RowKit.intOf];omega
  ·obtain rfl:k = xs.length:=by omega
   rw [List.take_length] at hF
   have hfin:QPost w R (.returned (.slice va L vcap)) wr:=by
    refine ⟨_,F,rfl,h.out.of_owns (by rw [← hL];exact hown) hm (fun y hy=>by rw [hF] at hy;exact (List.mem_filter.1 hy).1),?_,hm⟩;rw [← hR.out,hF];unfold qps qwithout;rw [List.filter_map];rfl
   replace hfin:=Lib.hid hfin;clear hown hL hm hF;go_wp2;go_ret;exact hfin.out
theorem qapp_typed {w w':World} {base sz n:Nat} {T:TypeId} {v:Value} {xs:List Value} (hown:w.ownsRow base T sz v n xs) (hg:w.grownBy w' v.ownBlock) :
  Mod (fun k=>v.ownBlock = some k) w w'∧(∀ k,v.ownBlock = some k→base≤k)∧∀ U,U ≠ T→Shun (fun k=>v.ownBlock = some k) w U:=by
 refine ⟨(Mod.refl _ w).grown hg (fun k hk _=>hk),fun k hk=>(hown.lt k hk).1,fun U hU k hk cs hb=>?_⟩;rcases hown.2 with ⟨rfl,_⟩ | ⟨g,cap,cur,rfl,_,hh,_⟩
 ·simp [Value.ownBlock] at hk
 ·simp [Value.ownBlock] at hk;subst hk;have:=hb.symm.trans hh;simp at this;exact hU this.2
structure QOwn (w:World) (B:Nat) (va:Option Addr) (L vcap:Nat) (ys:List Qx):Prop where
 len:L = ys.length
 own:w.ownsRow B 116 10 (.slice va L vcap) L (qxsCells ys)
 data:∀ y ∈ ys,QxD w y
theorem QOwn.qsl {w:World} {B:Nat} {va:Option Addr} {L vcap:Nat} {ys:List Qx} (h:QOwn w B va L vcap ys):QSl w (.slice va L vcap) ys:=by
 obtain ⟨h1,h2,h3⟩:=h;subst h1;exact ⟨Sl.of_owns h2,h3⟩
theorem QOwn.fresh {w w':World} {B:Nat} {va:Option Addr} {L vcap:Nat} {ys:List Qx} (h:QOwn w B va L vcap ys) (hm:Mod Nowhere w w'):QOwn w' B va L vcap ys :=
 ⟨h.len,owns_mod h.own hm (fun _ _ e=>e),fun y hy=>(h.data y hy).fresh hm⟩
theorem QOwn.nil (w:World) (B:Nat):QOwn w B none 0 0 []:=⟨rfl,World.ownsRow_nil _ _ _ _,fun y hy=>(List.not_mem_nil hy).elim⟩
theorem q_put {w W:World} {B:Nat} {x:Qx} (hx:QxD W x) {va:Option Addr} {L vcap:Nat} {ys:List Qx} (ho:QOwn W B va L vcap ys) (hB:B≤W.heap.size) (hL:L≤1000) (hm:Mod Nowhere w W) (hw:w.heap.size≤B) :
  ∃ (va':Option Addr) (vcap':Nat) (W2:World),
   (Builtin.append_ #[48,48] 48 #[.slice va L vcap,.slice (some ⟨W.heap.size,0,none⟩) 1 1]).run Tryz.prog (W.alloc (.cells (qxCells x).toArray 116)) = .ok (.slice va' (L + 1) vcap') W2 ∧
   QOwn W2 B va' (L + 1) vcap' (ys ++ [x])∧Mod Nowhere w W2:=by
 obtain ⟨i0,hi0,hz0,hz1,hz2⟩:=info_parts info_qpin;have hm2:Mod Nowhere W (W.alloc (.cells (qxCells x).toArray 116)):=(Mod.refl _ W).alloc _;have hcb:Blk (W.alloc (.cells (qxCells x).toArray 116)) W.heap.size (qxCells x) 116:=Blk.new W _ _;obtain ⟨a1,c1,e1,-⟩:=Sl.len hx.dv;obtain ⟨a2,c2,e2,-⟩:=Sl.len hx.dc
 have hone:∀ u ∈ qxCells x,u.oneCell' = true:=by
  intro u hu;unfold qxCells at hu;rw [e1,e2] at hu;simp only [List.mem_cons,List.not_mem_nil,or_false] at hu;rcases hu with rfl | rfl | rfl | rfl | rfl | rfl | rfl | rfl | rfl | rfl <;> rfl
 have hon:=(ho.fresh hm2)
 have hnews:∀ j u,(qxCells x)[j]? = some u→(W.alloc (.cells (qxCells x).toArray 116)).cell? ((⟨W.heap.size,0,none⟩:Addr).add j) = some u:=fun j u hj=>by
  rw [add_lit,hcb.cell,Nat.zero_add];exact hj
 obtain ⟨g,gc,w',hr,ho',hg,_,_⟩:=run_append_lies (P:=Tryz.prog) (W.alloc (.cells (qxCells x).toArray 116)) 48 48 B 116 i0 _ 10 112 Tryz.underlying48 hi0 hz0 hz1 hz2 rfl (by decide) (.slice va L vcap) L (qxsCells ys) hon.own ⟨W.heap.size,0,none⟩ 1 1 (qxCells x) rfl hnews hone (by decide) (by unfold maxLen;omega) (by omega) (Nat.le_trans hB hm2.size) _ rfl;obtain ⟨b1,b2,b3⟩:=qapp_typed hon.own hg;have hsh:=b3 5 (by decide);refine ⟨_,gc,w',hr,⟨by rw [List.length_append,← ho.len];rfl,by rw [qxsCells_append,show qxsCells [x] = qxCells x by simp [qxsCells]];exact ho',fun y hy=>?_⟩,(hm.trans hm2).step b1 fun i hi e=>absurd hi (by have:=b2 i e;omega)⟩;rcases List.mem_append.1 hy with e' | e'
 ·exact (hon.data y e').mod b1 hsh
 ·rw [List.mem_singleton.1 e'];exact (hx.fresh hm2).mod b1 hsh
theorem qps_snoc (xs:List Qx) (x:Qx):qps (xs ++ [x]) = qps xs ++ [x.2]:=by simp [qps]
theorem qps_succ {xs:List Qx} {k:Nat} (hk:k < xs.length):(qps xs).take (k + 1) = (qps xs).take k ++ [xs[k].2]:=by
 rw [List.take_succ_eq_append_getElem (by rw [qps_len];exact hk)];simp [qps]
set_option maxHeartbeats 4000000 in
theorem qSettle_ok {w:World} {v:Value} {xs:List Qx} (h:QSl w v xs) (hn:xs.length≤900) :
  Calls Tryz.prog 97 #[v] w (QPost w (qsettle (qps xs))):=by
 obtain ⟨la,lc,rfl,h1,h2,-⟩:=h.sl.gen;obtain ⟨R,hR⟩:∃ R,qsettle (qps xs) = R:=⟨_,rfl⟩;rw [hR];refine hid2 ?_ h hR;clear h hR;intro h hR;go_enter Tryz.func97,Tryz.ntmps97;go_wp2
 go_loopw [3,4] (fun v i wr=>∃ (k L:Nat) (va:Option Addr) (vcap:Nat) (ys:List Qx),k≤xs.length∧i = .int .i64 k∧v = .slice va L vcap∧k = L∧qps ys = qsettle ((qps xs).take k)∧QOwn wr w.heap.size va L vcap ys∧Mod Nowhere w wr) (fun _ i _=>xs.length - (RowKit.intOf i).toNat)
 case atStart=>exact ⟨0,0,none,0,[],by omega,rfl,rfl,rfl,rfl,QOwn.nil _ _,Mod.refl _ _⟩
 case round =>
  obtain ⟨k,L,va,vcap,ys,hk,rfl,rfl,rfl,hys,hown,hmw⟩:=hrel;by_cases hlt:k < xs.length
  ·skip
   obtain ⟨b,off,cap',a1,c1,a2,c2,e0,hb,_,_,hc,e1,e2⟩:=(h.out.fresh hmw).at_ hlt
   obtain ⟨rfl,rfl⟩:la = some ⟨b,off,none⟩∧lc = cap':=by
    simp at e0;exact ⟨e0.1,e0.2⟩
   have hqs:=qps_succ hlt;have hxd:=(h.out.data xs[k] (List.getElem_mem hlt)).fresh hmw;obtain ⟨x,hxk⟩:∃ x,xs[k] = x:=⟨_,rfl⟩;rw [hxk] at hc e1 e2 hqs hxd;obtain ⟨⟨v1,v2⟩,⟨⟨id,val,li,lo,hi,code,cl⟩,t,u,fr⟩⟩:=x;dsimp only at e1 e2;subst e1;subst e2;obtain ⟨k0,k1,k2,k3,k4,k5,k6,k7,k8,k9⟩:=ten hc;dsimp only at k0 k1 k2 k3 k4 k5 k6 k7 k8 k9 hqs;clear hc e0;have hmA:Mod Nowhere wr (wr.alloc (.cells #[.int .i64 id,.slice a1 val.length c1,.int .i64 li,.int .i64 lo,.int .i64 hi,.slice a2 code.length c2,.int .i64 cl,.int .i64 t,.int .i64 u,.bool false] 116)):=(Mod.refl _ wr).alloc _;obtain ⟨va',vc',W2,r3,ho2,hm2⟩:=q_put (w:=w) (x:=((.slice a1 val.length c1,.slice a2 code.length c2),⟨⟨id,val,li,lo,hi,code,cl⟩,t,u,false⟩)) ⟨DSl.fresh hxd.dv hmA,DSl.fresh hxd.dc hmA⟩ (hown.fresh hmA) (Nat.le_trans hmw.size hmA.size) (by omega) (hmw.trans hmA) (Nat.le_refl _)
   have hrel2:qps (ys ++ [((.slice a1 val.length c1,.slice a2 code.length c2),⟨⟨id,val,li,lo,hi,code,cl⟩,t,u,false⟩)]) = qsettle ((qps xs).take (k + 1)):=by
    rw [qps_snoc,hys,hqs];unfold qsettle;rw [List.map_append];rfl
   unfold qxCells at r3;dsimp only at r3;simp only [World.size_alloc] at r3;refine hid10 ?_ hrel2 ho2 hm2 hmw hys hown hxd hqs hxk hmA;clear hrel2 ho2 hm2 hmw hys hown hxd hqs hxk hmA;intro hrel2 ho2 hm2 hmw hys hown hxd hqs hxk hmA
   go_wp2_with (at_builtin;refine Lib.wpList_append_run _ rfl _ _ _ _ rfl _ _ (by rfl) (by rfl) _ _ r3 ?_;clear r3)
   go_roundw
   case rel=>exact ⟨k + 1,k + 1,va',vc',_,by omega,by go_num,rfl,rfl,hrel2.out,ho2.out,hm2.out⟩
   case measure=>simp [RowKit.intOf];omega
  ·obtain rfl:k = xs.length:=by omega
   have hfin:QPost w R (.returned (.slice va xs.length vcap)) wr:=⟨_,ys,rfl,hown.qsl,by rw [hys,← hR.out,← qps_len,List.take_length],hmw⟩;replace hfin:=Lib.hid hfin;clear hown hmw hys;go_wp2;go_ret;exact hfin.out
set_option maxHeartbeats 16000000 in
theorem qWith_ok {w:World} {v:Value} {xs:List Qx} (h:QSl w v xs) (hn:xs.length≤400) {x0:Qx} (hx0:QxD w x0) :
  Calls Tryz.prog 92 #[v,.agg (qxCells x0).toArray] w (QPost w (qwith (qps xs) x0.2)):=by
 obtain ⟨la,lc,rfl,h1,h2,-⟩:=h.sl.gen;obtain ⟨pa,pc,pe1,-⟩:=Sl.len hx0.dv;obtain ⟨qa,qc,pe2,-⟩:=Sl.len hx0.dc;obtain ⟨⟨pv1,pv2⟩,⟨⟨pid,pval,pli,plo,phi,pcode,pcl⟩,pt,pu,pfr⟩⟩:=x0;dsimp only at pe1 pe2;subst pe1;subst pe2;obtain ⟨P,hP⟩:∃ P:QP,(⟨⟨pid,pval,pli,plo,phi,pcode,pcl⟩,pt,pu,pfr⟩:QP) = P:=⟨_,rfl⟩;have hPid:P.d.id = pid:=by rw [← hP]
 obtain ⟨R,hR⟩:∃ R,qwith (qps xs) P = R:=⟨_,rfl⟩
 show Calls Tryz.prog 92 #[_,.agg #[.int .i64 pid,.slice pa pval.length pc,.int .i64 pli,.int .i64 plo,.int .i64 phi,.slice qa pcode.length qc,.int .i64 pcl,.int .i64 pt,.int .i64 pu,.bool pfr]] w (QPost w (qwith (qps xs) ⟨⟨pid,pval,pli,plo,phi,pcode,pcl⟩,pt,pu,pfr⟩))
 rw [hP,hR];have b0:=Blk.new w [.int .i64 pid,.slice pa pval.length pc,.int .i64 pli,.int .i64 plo,.int .i64 phi,.slice qa pcode.length qc,.int .i64 pcl,.int .i64 pt,.int .i64 pu,.bool pfr] 116;have m0:Mod Nowhere w (w.alloc (.cells #[.int .i64 pid,.slice pa pval.length pc,.int .i64 pli,.int .i64 plo,.int .i64 phi,.slice qa pcode.length qc,.int .i64 pcl,.int .i64 pt,.int .i64 pu,.bool pfr] 116)):=(Mod.refl _ w).alloc _;have z0:(w.alloc (.cells #[.int .i64 pid,.slice pa pval.length pc,.int .i64 pli,.int .i64 plo,.int .i64 phi,.slice qa pcode.length qc,.int .i64 pcl,.int .i64 pt,.int .i64 pu,.bool pfr] 116)).heap.size = w.heap.size + 1:=by simp
 obtain ⟨W0,hW0⟩:∃ W0,w.alloc (.cells #[.int .i64 pid,.slice pa pval.length pc,.int .i64 pli,.int .i64 plo,.int .i64 phi,.slice qa pcode.length qc,.int .i64 pcl,.int .i64 pt,.int .i64 pu,.bool pfr] 116) = W0:=⟨_,rfl⟩;rw [hW0] at b0 m0 z0
 have hkP:∀ W,Mod Nowhere W0 W→W.cell? ⟨w.heap.size,0,none⟩ = some (.int .i64 pid)∧W.cell? ⟨w.heap.size,1,none⟩ = some (.slice pa pval.length pc)∧W.cell? ⟨w.heap.size,2,none⟩ = some (.int .i64 pli)∧W.cell? ⟨w.heap.size,3,none⟩ = some (.int .i64 plo)∧W.cell? ⟨w.heap.size,4,none⟩ = some (.int .i64 phi)∧W.cell? ⟨w.heap.size,5,none⟩ = some (.slice qa pcode.length qc)∧W.cell? ⟨w.heap.size,6,none⟩ = some (.int .i64 pcl)∧W.cell? ⟨w.heap.size,7,none⟩ = some (.int .i64 pt)∧W.cell? ⟨w.heap.size,8,none⟩ = some (.int .i64 pu)∧W.cell? ⟨w.heap.size,9,none⟩ = some (.bool pfr)∧w.heap.size < W.heap.size:=fun W hm=>by
  have b:=b0.mod hm (fun e=>e);exact ⟨b.cell 0,b.cell 1,b.cell 2,b.cell 3,b.cell 4,b.cell 5,b.cell 6,b.cell 7,b.cell 8,b.cell 9,b.lt⟩
 refine hid8 ?_ h hR b0 m0 hkP hx0 hP hPid;clear h hR b0 m0 hkP hx0 hP hPid;intro h hR b0 m0 hkP hx0 hP hPid;go_enter Tryz.func92,Tryz.ntmps92;go_wp2
 go_loopw [5,6,7] (fun v dn i wr=>∃ (k L:Nat) (va:Option Addr) (vcap:Nat) (ys:List Qx),k≤xs.length∧i = .int .i64 k∧v = .slice va L vcap∧dn = .bool (wFold P ((qps xs).take k)).2∧L≤2 * k∧qps ys = (wFold P ((qps xs).take k)).1∧QOwn wr (w.heap.size + 1) va L vcap ys∧Mod Nowhere W0 wr) (fun _ _ i _=>xs.length - (RowKit.intOf i).toNat)
 case atStart=>exact ⟨0,0,none,0,[],by omega,rfl,rfl,rfl,by omega,rfl,QOwn.nil _ _,Mod.refl _ _⟩
 case round =>
  obtain ⟨k,L,va,vcap,ys,hk,rfl,rfl,rfl,hL,hys,hown,hm0⟩:=hrel;have hmw:=m0.out.trans hm0;by_cases hlt:k < xs.length
  ·obtain ⟨b,off,cap',a1,c1,a2,c2,e0,hb,_,_,hc,e1,e2⟩:=h.out.at_ hlt
   obtain ⟨rfl,rfl⟩:la = some ⟨b,off,none⟩∧lc = cap':=by
    simp at e0;exact ⟨e0.1,e0.2⟩
   have hqs:=qps_succ hlt;have hxd:=h.out.data xs[k] (List.getElem_mem hlt);obtain ⟨x,hxk⟩:∃ x,xs[k] = x:=⟨_,rfl⟩;rw [hxk] at hc e1 e2 hqs hxd;obtain ⟨⟨v1,v2⟩,⟨⟨id,val,li,lo,hi,code,cl⟩,t,u,fr⟩⟩:=x;dsimp only at e1 e2;subst e1;subst e2;have hcX:∀ W,Mod Nowhere w W→(∀ j,j < 10→W.cell? ⟨b,off + k * 10 + j,none⟩ = some ((qxCells ((.slice a1 val.length c1,.slice a2 code.length c2),⟨⟨id,val,li,lo,hi,code,cl⟩,t,u,fr⟩)).getD j default))∧b < W.heap.size:=fun W hm=>⟨fun j hj=>(hm.cell (p:=⟨b,off + k * 10 + j,none⟩) hb (fun e=>e)).trans (hc j hj),Nat.lt_of_lt_of_le hb hm.size⟩;obtain ⟨hcr,hbr⟩:=hcX wr hmw
   obtain ⟨k0,k1,k2,k3,k4,k5,k6,k7,k8,k9⟩:=ten hcr;obtain ⟨p0,p1,p2,p3,p4,p5,p6,p7,p8,p9,pl⟩:=hkP.out wr hm0;dsimp only at k0 k1 k2 k3 k4 k5 k6 k7 k8 k9 hqs;clear hc e0 hcr hb;have hst:=wFold_snoc P ((qps xs).take k) ⟨⟨id,val,li,lo,hi,code,cl⟩,t,u,fr⟩;rw [← hqs] at hst;obtain ⟨r,hr⟩:∃ r,wFold P ((qps xs).take k) = r:=⟨_,rfl⟩;obtain ⟨out,dn⟩:=r;rw [hr] at hst hys;rw [hr];unfold wStep at hst;dsimp only at hst hys;dsimp only;rw [hPid.out] at hst;have hwB:wr.heap.size≤wr.heap.size:=Nat.le_refl _;have hB1:w.heap.size + 1≤wr.heap.size:=by have:=hm0.size;rw [z0] at this;exact this
   refine hid10 ?_ hst hr hys hown hm0 hmw hqs hxk hxd hcX;clear hst hr hys hown hm0 hmw hqs hxk hxd hcX;intro hst hr hys hown hm0 hmw hqs hxk hxd hcX
   cases dn
   ·by_cases hle:pid≤id
    ·have hlei:(pid:Int)≤(id:Int):=by omega
     by_cases heq:id = pid
     ·have hst2:wFold P ((qps xs).take (k + 1)) = (out ++ [P],true):=by rw [hst.out];simp [hle,heq]
      have heqb:((id:Int) != (pid:Int)) = false:=by simp [heq]
      go_wp2
      go_quiet (fail)
      obtain ⟨Wq,hWq,mq⟩:∃ Wq,wr.drewN nq = Wq∧Mod Nowhere wr Wq:=⟨_,rfl,(Mod.refl _ _).drewN nq⟩;rw [hWq];replace hWq:=Lib.hid hWq;clear k0 k1 k2 k3 k4 k5 k6 k7 k8 k9 p0 p1 p2 p3 p4 p5 p6 p7 p8 p9 pl hbr;have m0q:=hm0.out.trans mq;have ownq:=hown.out.fresh mq;have sq:=m0q.size;rw [z0] at sq;obtain ⟨hcx,hbr⟩:=hcX.out Wq (m0.out.trans m0q);obtain ⟨k0,k1,k2,k3,k4,k5,k6,k7,k8,k9⟩:=ten hcx;obtain ⟨p0,p1,p2,p3,p4,p5,p6,p7,p8,p9,pl⟩:=hkP.out Wq m0q;dsimp only at k0 k1 k2 k3 k4 k5 k6 k7 k8 k9;clear hcx;obtain ⟨va1,vc1,W1,r1,o1,m1⟩:=q_put (w:=W0) (x:=((.slice pa pval.length pc,.slice qa pcode.length qc),⟨⟨pid,pval,pli,plo,phi,pcode,pcl⟩,pt,pu,pfr⟩)) (hx0.out.fresh (m0.out.trans m0q)) ownq (by omega) (by omega) m0q (by omega)
      unfold qxCells at r1;dsimp only at r1;have s1:=m1.size;rw [z0] at s1;clear k0 k1 k2 k3 k4 k5 k6 k7 k8 k9 hbr;obtain ⟨hcx,hbr⟩:=hcX.out W1 (m0.out.trans m1);obtain ⟨k0,k1,k2,k3,k4,k5,k6,k7,k8,k9⟩:=ten hcx;dsimp only at k0 k1 k2 k3 k4 k5 k6 k7 k8 k9;clear hcx;obtain ⟨q0,q1,q2,q3,q4,q5,q6,q7,q8,q9,ql⟩:=hkP.out W1 m1;refine hid2 ?_ o1 m1;clear o1 m1;intro o1 m1
      go_wp2_with (at_builtin;refine Lib.wpList_append_run _ rfl _ _ _ _ rfl _ _ (by rfl) (by rfl) _ _ r1 ?_;clear r1)
      replace o1:=o1.out;replace m1:=m1.out;clear p0 p1 p2 p3 p4 p5 p6 p7 p8 p9 pl;have p0:=q0;have p1:=q1;have p2:=q2;have p3:=q3;have p4:=q4;have p5:=q5;have p6:=q6;have p7:=q7;have p8:=q8;have p9:=q9;have pl:=ql;clear q0 q1 q2 q3 q4 q5 q6 q7 q8 q9 ql
      go_quiet (fail)
      obtain ⟨Wp,hWp,mp⟩:∃ Wp,W1.drewN nq = Wp∧Mod Nowhere W1 Wp:=⟨_,rfl,(Mod.refl _ _).drewN nq⟩;rw [hWp];replace hWp:=Lib.hid hWp;clear k0 k1 k2 k3 k4 k5 k6 k7 k8 k9 p0 p1 p2 p3 p4 p5 p6 p7 p8 p9 pl hbr;have m0p:=m1.trans mp;have ownp:=o1.fresh mp;have sp:=m0p.size;rw [z0] at sp;obtain ⟨hcx,hbr⟩:=hcX.out Wp (m0.out.trans m0p);obtain ⟨k0,k1,k2,k3,k4,k5,k6,k7,k8,k9⟩:=ten hcx;obtain ⟨p0,p1,p2,p3,p4,p5,p6,p7,p8,p9,pl⟩:=hkP.out Wp m0p;dsimp only at k0 k1 k2 k3 k4 k5 k6 k7 k8 k9;clear hcx
      have hrel2:qps (ys ++ [((.slice pa pval.length pc,.slice qa pcode.length qc),⟨⟨pid,pval,pli,plo,phi,pcode,pcl⟩,pt,pu,pfr⟩)]) = (wFold P ((qps xs).take (k + 1))).1:=by
       rw [hst2]
       show qps (ys ++ [_]) = out ++ [P];rw [qps_snoc,hys.out,← hP.out]
      have hdn2:(wFold P ((qps xs).take (k + 1))).2 = true:=by rw [hst2]
      have hoF:=ownp;have hmF:=m0p;refine hid5 ?_ hrel2 hdn2 hst2 hoF hmF;clear hrel2 hdn2 hst2 hoF hmF;intro hrel2 hdn2 hst2 hoF hmF;go_wp2;go_roundw
      case rel=>exact ⟨k + 1,(L + 1),va1,vc1,(ys ++ [((.slice pa pval.length pc,.slice qa pcode.length qc),⟨⟨pid,pval,pli,plo,phi,pcode,pcl⟩,pt,pu,pfr⟩)]),by omega,by go_num,rfl,by rw [hdn2.out],by omega,hrel2.out,hoF.out,hmF.out⟩
      case measure=>simp [RowKit.intOf];omega
     ·have hst2:wFold P ((qps xs).take (k + 1)) = (out ++ [P] ++ [⟨⟨id,val,li,lo,hi,code,cl⟩,t,u,fr⟩],true):=by rw [hst.out];simp [hle,heq]
      have heqb:((id:Int) != (pid:Int)) = true:=by simp;omega
      go_wp2
      go_quiet (fail)
      obtain ⟨Wq,hWq,mq⟩:∃ Wq,wr.drewN nq = Wq∧Mod Nowhere wr Wq:=⟨_,rfl,(Mod.refl _ _).drewN nq⟩;rw [hWq];replace hWq:=Lib.hid hWq;clear k0 k1 k2 k3 k4 k5 k6 k7 k8 k9 p0 p1 p2 p3 p4 p5 p6 p7 p8 p9 pl hbr;have m0q:=hm0.out.trans mq;have ownq:=hown.out.fresh mq;have sq:=m0q.size;rw [z0] at sq;obtain ⟨hcx,hbr⟩:=hcX.out Wq (m0.out.trans m0q);obtain ⟨k0,k1,k2,k3,k4,k5,k6,k7,k8,k9⟩:=ten hcx;obtain ⟨p0,p1,p2,p3,p4,p5,p6,p7,p8,p9,pl⟩:=hkP.out Wq m0q;dsimp only at k0 k1 k2 k3 k4 k5 k6 k7 k8 k9;clear hcx;obtain ⟨va1,vc1,W1,r1,o1,m1⟩:=q_put (w:=W0) (x:=((.slice pa pval.length pc,.slice qa pcode.length qc),⟨⟨pid,pval,pli,plo,phi,pcode,pcl⟩,pt,pu,pfr⟩)) (hx0.out.fresh (m0.out.trans m0q)) ownq (by omega) (by omega) m0q (by omega)
      unfold qxCells at r1;dsimp only at r1;have s1:=m1.size;rw [z0] at s1;clear k0 k1 k2 k3 k4 k5 k6 k7 k8 k9 hbr;obtain ⟨hcx,hbr⟩:=hcX.out W1 (m0.out.trans m1);obtain ⟨k0,k1,k2,k3,k4,k5,k6,k7,k8,k9⟩:=ten hcx;dsimp only at k0 k1 k2 k3 k4 k5 k6 k7 k8 k9;clear hcx;obtain ⟨q0,q1,q2,q3,q4,q5,q6,q7,q8,q9,ql⟩:=hkP.out W1 m1;refine hid2 ?_ o1 m1;clear o1 m1;intro o1 m1
      go_wp2_with (at_builtin;refine Lib.wpList_append_run _ rfl _ _ _ _ rfl _ _ (by rfl) (by rfl) _ _ r1 ?_;clear r1)
      replace o1:=o1.out;replace m1:=m1.out;clear p0 p1 p2 p3 p4 p5 p6 p7 p8 p9 pl;have p0:=q0;have p1:=q1;have p2:=q2;have p3:=q3;have p4:=q4;have p5:=q5;have p6:=q6;have p7:=q7;have p8:=q8;have p9:=q9;have pl:=ql;clear q0 q1 q2 q3 q4 q5 q6 q7 q8 q9 ql
      go_quiet (fail)
      obtain ⟨Wp,hWp,mp⟩:∃ Wp,W1.drewN nq = Wp∧Mod Nowhere W1 Wp:=⟨_,rfl,(Mod.refl _ _).drewN nq⟩;rw [hWp];replace hWp:=Lib.hid hWp;clear k0 k1 k2 k3 k4 k5 k6 k7 k8 k9 p0 p1 p2 p3 p4 p5 p6 p7 p8 p9 pl hbr;have m0p:=m1.trans mp;have ownp:=o1.fresh mp;have sp:=m0p.size;rw [z0] at sp;obtain ⟨hcx,hbr⟩:=hcX.out Wp (m0.out.trans m0p);obtain ⟨k0,k1,k2,k3,k4,k5,k6,k7,k8,k9⟩:=ten hcx;obtain ⟨p0,p1,p2,p3,p4,p5,p6,p7,p8,p9,pl⟩:=hkP.out Wp m0p;dsimp only at k0 k1 k2 k3 k4 k5 k6 k7 k8 k9;clear hcx;obtain ⟨va2,vc2,W2,r2,o2,m2⟩:=q_put (w:=W0) (x:=((.slice a1 val.length c1,.slice a2 code.length c2),⟨⟨id,val,li,lo,hi,code,cl⟩,t,u,fr⟩)) (hxd.out.fresh (m0.out.trans m0p)) ownp (by omega) (by omega) m0p (by omega)
      unfold qxCells at r2;dsimp only at r2
      have hrel2:qps ((ys ++ [((.slice pa pval.length pc,.slice qa pcode.length qc),⟨⟨pid,pval,pli,plo,phi,pcode,pcl⟩,pt,pu,pfr⟩)]) ++ [((.slice a1 val.length c1,.slice a2 code.length c2),⟨⟨id,val,li,lo,hi,code,cl⟩,t,u,fr⟩)]) = (wFold P ((qps xs).take (k + 1))).1:=by
       rw [hst2]
       show qps (ys ++ [_] ++ [_]) = out ++ [P] ++ [_];rw [qps_snoc,qps_snoc,hys.out,← hP.out]
      have hdn2:(wFold P ((qps xs).take (k + 1))).2 = true:=by rw [hst2]
      have hoF:=o2;have hmF:=m2;refine hid7 ?_ o2 m2 hrel2 hdn2 hst2 hoF hmF;clear o2 m2 hrel2 hdn2 hst2 hoF hmF;intro o2 m2 hrel2 hdn2 hst2 hoF hmF
      go_wp2_with (at_builtin;refine Lib.wpList_append_run _ rfl _ _ _ _ rfl _ _ (by rfl) (by rfl) _ _ r2 ?_;clear r2)
      go_roundw
      case rel=>exact ⟨k + 1,((L + 1) + 1),va2,vc2,((ys ++ [((.slice pa pval.length pc,.slice qa pcode.length qc),⟨⟨pid,pval,pli,plo,phi,pcode,pcl⟩,pt,pu,pfr⟩)]) ++ [((.slice a1 val.length c1,.slice a2 code.length c2),⟨⟨id,val,li,lo,hi,code,cl⟩,t,u,fr⟩)]),by omega,by go_num,rfl,by rw [hdn2.out],by omega,hrel2.out,hoF.out,hmF.out⟩
      case measure=>simp [RowKit.intOf];omega
    ·have hlei:¬ (pid:Int)≤(id:Int):=by omega
     have hst2:wFold P ((qps xs).take (k + 1)) = (out ++ [⟨⟨id,val,li,lo,hi,code,cl⟩,t,u,fr⟩],false):=by rw [hst.out];simp [hle];omega
     have heqb:((id:Int) != (pid:Int)) = true:=by simp;omega
     go_wp2
     go_quiet (fail)
     obtain ⟨Wq,hWq,mq⟩:∃ Wq,wr.drewN nq = Wq∧Mod Nowhere wr Wq:=⟨_,rfl,(Mod.refl _ _).drewN nq⟩;rw [hWq];replace hWq:=Lib.hid hWq;clear k0 k1 k2 k3 k4 k5 k6 k7 k8 k9 p0 p1 p2 p3 p4 p5 p6 p7 p8 p9 pl hbr;have m0q:=hm0.out.trans mq;have ownq:=hown.out.fresh mq;have sq:=m0q.size;rw [z0] at sq;obtain ⟨hcx,hbr⟩:=hcX.out Wq (m0.out.trans m0q);obtain ⟨k0,k1,k2,k3,k4,k5,k6,k7,k8,k9⟩:=ten hcx;obtain ⟨p0,p1,p2,p3,p4,p5,p6,p7,p8,p9,pl⟩:=hkP.out Wq m0q;dsimp only at k0 k1 k2 k3 k4 k5 k6 k7 k8 k9;clear hcx;go_wp2
     go_quiet (fail)
     obtain ⟨Wp,hWp,mp⟩:∃ Wp,Wq.drewN nq = Wp∧Mod Nowhere Wq Wp:=⟨_,rfl,(Mod.refl _ _).drewN nq⟩;rw [hWp];replace hWp:=Lib.hid hWp;clear k0 k1 k2 k3 k4 k5 k6 k7 k8 k9 p0 p1 p2 p3 p4 p5 p6 p7 p8 p9 pl hbr;have m0p:=m0q.trans mp;have ownp:=ownq.fresh mp;have sp:=m0p.size;rw [z0] at sp;obtain ⟨hcx,hbr⟩:=hcX.out Wp (m0.out.trans m0p);obtain ⟨k0,k1,k2,k3,k4,k5,k6,k7,k8,k9⟩:=ten hcx;obtain ⟨p0,p1,p2,p3,p4,p5,p6,p7,p8,p9,pl⟩:=hkP.out Wp m0p;dsimp only at k0 k1 k2 k3 k4 k5 k6 k7 k8 k9;clear hcx;obtain ⟨va1,vc1,W1,r1,o1,m1⟩:=q_put (w:=W0) (x:=((.slice a1 val.length c1,.slice a2 code.length c2),⟨⟨id,val,li,lo,hi,code,cl⟩,t,u,fr⟩)) (hxd.out.fresh (m0.out.trans m0p)) ownp (by omega) (by omega) m0p (by omega)
     unfold qxCells at r1;dsimp only at r1
     have hrel2:qps (ys ++ [((.slice a1 val.length c1,.slice a2 code.length c2),⟨⟨id,val,li,lo,hi,code,cl⟩,t,u,fr⟩)]) = (wFold P ((qps xs).take (k + 1))).1:=by
      rw [hst2]
      show qps (ys ++ [_]) = out ++ [_];rw [qps_snoc,hys.out]
     have hdn2:(wFold P ((qps xs).take (k + 1))).2 = false:=by rw [hst2]
     have hoF:=o1;have hmF:=m1;refine hid7 ?_ o1 m1 hrel2 hdn2 hst2 hoF hmF;clear o1 m1 hrel2 hdn2 hst2 hoF hmF;intro o1 m1 hrel2 hdn2 hst2 hoF hmF
     go_wp2_with (at_builtin;refine Lib.wpList_append_run _ rfl _ _ _ _ rfl _ _ (by rfl) (by rfl) _ _ r1 ?_;clear r1)
     go_roundw
     case rel=>exact ⟨k + 1,(L + 1),va1,vc1,(ys ++ [((.slice a1 val.length c1,.slice a2 code.length c2),⟨⟨id,val,li,lo,hi,code,cl⟩,t,u,fr⟩)]),by omega,by go_num,rfl,by rw [hdn2.out],by omega,hrel2.out,hoF.out,hmF.out⟩
     case measure=>simp [RowKit.intOf];omega
   ·by_cases heq:id = pid
    ·have hst2:wFold P ((qps xs).take (k + 1)) = (out,true):=by rw [hst.out];simp [heq]
     have heqb:((id:Int) != (pid:Int)) = false:=by simp [heq]
     go_wp2
     go_quiet (fail)
     obtain ⟨Wq,hWq,mq⟩:∃ Wq,wr.drewN nq = Wq∧Mod Nowhere wr Wq:=⟨_,rfl,(Mod.refl _ _).drewN nq⟩;rw [hWq];replace hWq:=Lib.hid hWq;clear k0 k1 k2 k3 k4 k5 k6 k7 k8 k9 p0 p1 p2 p3 p4 p5 p6 p7 p8 p9 pl hbr;have m0q:=hm0.out.trans mq;have ownq:=hown.out.fresh mq;have sq:=m0q.size;rw [z0] at sq;obtain ⟨hcx,hbr⟩:=hcX.out Wq (m0.out.trans m0q);obtain ⟨k0,k1,k2,k3,k4,k5,k6,k7,k8,k9⟩:=ten hcx;obtain ⟨p0,p1,p2,p3,p4,p5,p6,p7,p8,p9,pl⟩:=hkP.out Wq m0q;dsimp only at k0 k1 k2 k3 k4 k5 k6 k7 k8 k9;clear hcx;go_wp2
     go_quiet (fail)
     obtain ⟨Wp,hWp,mp⟩:∃ Wp,Wq.drewN nq = Wp∧Mod Nowhere Wq Wp:=⟨_,rfl,(Mod.refl _ _).drewN nq⟩;rw [hWp];replace hWp:=Lib.hid hWp;clear k0 k1 k2 k3 k4 k5 k6 k7 k8 k9 p0 p1 p2 p3 p4 p5 p6 p7 p8 p9 pl hbr;have m0p:=m0q.trans mp;have ownp:=ownq.fresh mp;have sp:=m0p.size;rw [z0] at sp;obtain ⟨hcx,hbr⟩:=hcX.out Wp (m0.out.trans m0p);obtain ⟨k0,k1,k2,k3,k4,k5,k6,k7,k8,k9⟩:=ten hcx;obtain ⟨p0,p1,p2,p3,p4,p5,p6,p7,p8,p9,pl⟩:=hkP.out Wp m0p;dsimp only at k0 k1 k2 k3 k4 k5 k6 k7 k8 k9;clear hcx
     have hrel2:qps ys = (wFold P ((qps xs).take (k + 1))).1:=by
      rw [hst2];exact hys.out
     have hdn2:(wFold P ((qps xs).take (k + 1))).2 = true:=by rw [hst2]
     have hoF:=ownp;have hmF:=m0p;refine hid5 ?_ hrel2 hdn2 hst2 hoF hmF;clear hrel2 hdn2 hst2 hoF hmF;intro hrel2 hdn2 hst2 hoF hmF;go_wp2;go_roundw
     case rel=>exact ⟨k + 1,L,va,vcap,ys,by omega,by go_num,rfl,by rw [hdn2.out],by omega,hrel2.out,hoF.out,hmF.out⟩
     case measure=>simp [RowKit.intOf];omega
    ·have hst2:wFold P ((qps xs).take (k + 1)) = (out ++ [⟨⟨id,val,li,lo,hi,code,cl⟩,t,u,fr⟩],true):=by rw [hst.out];simp [heq]
     have heqb:((id:Int) != (pid:Int)) = true:=by simp;omega
     go_wp2
     go_quiet (fail)
     obtain ⟨Wq,hWq,mq⟩:∃ Wq,wr.drewN nq = Wq∧Mod Nowhere wr Wq:=⟨_,rfl,(Mod.refl _ _).drewN nq⟩;rw [hWq];replace hWq:=Lib.hid hWq;clear k0 k1 k2 k3 k4 k5 k6 k7 k8 k9 p0 p1 p2 p3 p4 p5 p6 p7 p8 p9 pl hbr;have m0q:=hm0.out.trans mq;have ownq:=hown.out.fresh mq;have sq:=m0q.size;rw [z0] at sq;obtain ⟨hcx,hbr⟩:=hcX.out Wq (m0.out.trans m0q);obtain ⟨k0,k1,k2,k3,k4,k5,k6,k7,k8,k9⟩:=ten hcx;obtain ⟨p0,p1,p2,p3,p4,p5,p6,p7,p8,p9,pl⟩:=hkP.out Wq m0q;dsimp only at k0 k1 k2 k3 k4 k5 k6 k7 k8 k9;clear hcx;go_wp2
     go_quiet (fail)
     obtain ⟨Wp,hWp,mp⟩:∃ Wp,Wq.drewN nq = Wp∧Mod Nowhere Wq Wp:=⟨_,rfl,(Mod.refl _ _).drewN nq⟩;rw [hWp];replace hWp:=Lib.hid hWp;clear k0 k1 k2 k3 k4 k5 k6 k7 k8 k9 p0 p1 p2 p3 p4 p5 p6 p7 p8 p9 pl hbr;have m0p:=m0q.trans mp;have ownp:=ownq.fresh mp;have sp:=m0p.size;rw [z0] at sp;obtain ⟨hcx,hbr⟩:=hcX.out Wp (m0.out.trans m0p);obtain ⟨k0,k1,k2,k3,k4,k5,k6,k7,k8,k9⟩:=ten hcx;obtain ⟨p0,p1,p2,p3,p4,p5,p6,p7,p8,p9,pl⟩:=hkP.out Wp m0p;dsimp only at k0 k1 k2 k3 k4 k5 k6 k7 k8 k9;clear hcx;obtain ⟨va1,vc1,W1,r1,o1,m1⟩:=q_put (w:=W0) (x:=((.slice a1 val.length c1,.slice a2 code.length c2),⟨⟨id,val,li,lo,hi,code,cl⟩,t,u,fr⟩)) (hxd.out.fresh (m0.out.trans m0p)) ownp (by omega) (by omega) m0p (by omega)
     unfold qxCells at r1;dsimp only at r1
     have hrel2:qps (ys ++ [((.slice a1 val.length c1,.slice a2 code.length c2),⟨⟨id,val,li,lo,hi,code,cl⟩,t,u,fr⟩)]) = (wFold P ((qps xs).take (k + 1))).1:=by
      rw [hst2]
      show qps (ys ++ [_]) = out ++ [_];rw [qps_snoc,hys.out]
     have hdn2:(wFold P ((qps xs).take (k + 1))).2 = true:=by rw [hst2]
     have hoF:=o1;have hmF:=m1;refine hid7 ?_ o1 m1 hrel2 hdn2 hst2 hoF hmF;clear o1 m1 hrel2 hdn2 hst2 hoF hmF;intro o1 m1 hrel2 hdn2 hst2 hoF hmF
     go_wp2_with (at_builtin;refine Lib.wpList_append_run _ rfl _ _ _ _ rfl _ _ (by rfl) (by rfl) _ _ r1 ?_;clear r1)
     go_roundw
     case rel=>exact ⟨k + 1,(L + 1),va1,vc1,(ys ++ [((.slice a1 val.length c1,.slice a2 code.length c2),⟨⟨id,val,li,lo,hi,code,cl⟩,t,u,fr⟩)]),by omega,by go_num,rfl,by rw [hdn2.out],by omega,hrel2.out,hoF.out,hmF.out⟩
     case measure=>simp [RowKit.intOf];omega
  ·obtain rfl:k = xs.length:=by omega
   rw [← qps_len,List.take_length] at hys;rw [← qps_len,List.take_length];obtain ⟨r,hr⟩:∃ r,wFold P (qps xs) = r:=⟨_,rfl⟩;obtain ⟨out,dn⟩:=r;rw [hr] at hys ⊢;dsimp only at hys;dsimp only;have hRe:R = if dn = true then out else out ++ [P]:=by rw [← hR.out];unfold qwith;rw [hr]
   have hB1:w.heap.size + 1≤wr.heap.size:=by have:=hm0.size;rw [z0] at this;exact this
   cases dn
   ·obtain ⟨p0,p1,p2,p3,p4,p5,p6,p7,p8,p9,pl⟩:=hkP.out wr hm0;obtain ⟨va1,vc1,W1,r1,o1,m1⟩:=q_put (w:=W0) (x:=((.slice pa pval.length pc,.slice qa pcode.length qc),⟨⟨pid,pval,pli,plo,phi,pcode,pcl⟩,pt,pu,pfr⟩)) (hx0.out.fresh (m0.out.trans hm0)) hown (by omega) (by omega) hm0 (by omega);unfold qxCells at r1;dsimp only at r1
    have hfin:∀ W,W = W1→QPost w R (.returned (.slice va1 (L + 1) vc1)) W:=fun W e=>by
     subst e;exact ⟨_,_,rfl,o1.qsl,by rw [qps_snoc,hys,hRe,← hP.out];rfl,m0.out.trans m1⟩
    refine hid9 ?_ hfin hys hown hm0 hmw hr hRe o1 m1;clear hfin hys hown hm0 hmw hr hRe o1 m1;intro hfin hys hown hm0 hmw hr hRe o1 m1
    go_wp2_with (at_builtin;refine Lib.wpList_append_run _ rfl _ _ _ _ rfl _ _ (by rfl) (by rfl) _ _ r1 ?_;clear r1)
    go_ret;exact hfin.out _ rfl
   ·have hfin:QPost w R (.returned (.slice va L vcap)) wr:=⟨_,ys,rfl,hown.qsl,by rw [hys,hRe];rfl,hmw⟩;refine hid7 ?_ hfin hys hown hm0 hmw hr hRe;clear hfin hys hown hm0 hmw hr hRe;intro hfin hys hown hm0 hmw hr hRe;go_wp2;go_ret;exact hfin.out
structure QF where
 g:Nat→Option QP
 act:Bool
 o:Nat→Option QP
structure QF.Ok (S:QF):Prop where
 g:QFn S.g
 o:QFn S.o
structure QLs (w:World) (lv ov:Value) (S:QF):Prop where
 ex:∃ xs os,QSl w lv xs∧QSl w ov os∧qps xs = ql S.g∧qps os = ql S.o
def QRep (w:World) (v:Value) (S:QF):Prop:=∃ lv ov,v = .agg #[lv,.bool S.act,ov]∧QLs w lv ov S
theorem QLs.fresh {w w':World} {lv ov:Value} {S:QF} (h:QLs w lv ov S) (hm:Mod Nowhere w w'):QLs w' lv ov S:=by
 obtain ⟨xs,os,h1,h2,h3,h4⟩:=h.ex;exact ⟨xs,os,h1.fresh hm,h2.fresh hm,h3,h4⟩
theorem QLs.form {w:World} {lv ov:Value} {S:QF} (h:QLs w lv ov S):∃ la n lc oa m oc,lv = .slice la n lc∧ov = .slice oa m oc:=by
 obtain ⟨xs,os,h1,h2,-,-⟩:=h.ex;obtain ⟨la,lc,rfl,-,-,-⟩:=h1.sl.gen;obtain ⟨oa,oc,rfl,-,-,-⟩:=h2.sl.gen;exact ⟨_,_,_,_,_,_,rfl,rfl⟩
theorem QRep.fresh {w w':World} {v:Value} {S:QF} (h:QRep w v S) (hm:Mod Nowhere w w'):QRep w' v S:=by
 obtain ⟨lv,ov,e,h⟩:=h;exact ⟨lv,ov,e,h.fresh hm⟩
theorem QSl.box {w w':World} {v:Value} {xs:List Qx} {B:Nat} {cs:List Value} {T:TypeId} (h:QSl w v xs) (hb:Blk w B cs T) (hT:T ≠ 116∧T ≠ 5) (hm:Mod (fun k=>k = B) w w'):QSl w' v xs:=by
 have hsh:∀ U,T ≠ U→Shun (fun k=>k = B) w U:=fun U hU k e cs' hb'=>hU (by rw [e] at hb';exact (hb.inj hb').2);exact h.mod hm (hsh _ hT.1) (hsh _ hT.2)
theorem QLs.box {w w':World} {lv ov:Value} {S:QF} {B:Nat} {cs:List Value} {T:TypeId} (h:QLs w lv ov S) (hb:Blk w B cs T) (hT:T ≠ 116∧T ≠ 5) (hm:Mod (fun k=>k = B) w w'):QLs w' lv ov S:=by
 obtain ⟨xs,os,h1,h2,h3,h4⟩:=h.ex;exact ⟨xs,os,h1.box hb hT hm,h2.box hb hT hm,h3,h4⟩
theorem ql_nil (g:Nat→Option QP) (h:∀ k,g k = none):ql g = []:=by
 unfold ql qlTo;rw [List.filterMap_eq_nil_iff];intro k _;exact h k
def noQ:Nat→Option QP:=fun _=>none
def atQ (g:Nat→Option QP) (id:Int):Option QP:=if 0≤id then g id.toNat else none
theorem atQ_some {g:Nat→Option QP} (h:QFn g) {id:Int} {p:QP} (hp:atQ g id = some p):id = (p.d.id:Int)∧POk p.d∧g p.d.id = some p:=by
 unfold atQ at hp
 split at hp
 ·obtain ⟨e,ho⟩:=h.id _ _ hp;exact ⟨by omega,ho,by rw [e];exact hp⟩
 ·cases hp
theorem atQ_nat (g:Nat→Option QP) (k:Nat):atQ g (k:Int) = g k:=by unfold atQ;rw [if_pos (by omega),Int.toNat_natCast]
theorem find_ql {g:Nat→Option QP} (h:QFn g) (id:Int) :
  (atQ g id = none∧qfind (ql g) id = -1) ∨ (∃ (p:QP) (k:Nat),atQ g id = some p∧qfind (ql g) id = (k:Int)∧∃ hk:k < (ql g).length,(ql g)[k] = p):=by
 unfold qfind
 cases hf:(ql g).findIdx? (fun x=>decide ((x.d.id:Int) = id)) with
 | none =>
  left
  rw [List.findIdx?_eq_none_iff] at hf;refine ⟨?_,rfl⟩
  cases ha:atQ g id with
  | none=>rfl
  | some p =>
   obtain ⟨e,-,hp⟩:=atQ_some h ha;have:=hf p (mem_ql h hp);simp [e] at this
 | some k =>
  right
  rw [List.findIdx?_eq_some_iff_getElem] at hf;obtain ⟨hk,h1,-⟩:=hf;have hm:=ql_mem h (List.getElem_mem hk);have e:((ql g)[k].d.id:Int) = id:=by simpa using h1
  refine ⟨(ql g)[k],k,?_,rfl,hk,rfl⟩;rw [← e,atQ_nat];exact hm.1
theorem two_st (w:World) (lv av ov:Value) :
  ∃ W,(w.alloc (.cells #[lv,av,ov] 50)).alloc (.cells #[.slice none 0 0,.bool false,.slice none 0 0] 50) = W∧Blk W w.heap.size [lv,av,ov] 50∧Blk W (w.heap.size + 1) [.slice none 0 0,.bool false,.slice none 0 0] 50∧Mod Nowhere w W∧W.heap.size = w.heap.size + 1 + 1:=by
 obtain ⟨b0,b1,hm⟩:=boxes2 w [lv,av,ov] [.slice none 0 0,.bool false,.slice none 0 0] 50 50;exact ⟨_,rfl,b0,b1,hm,by simp⟩
def put3 (W:World) (B:Nat) (c0 c1 c2:Value):World:=((W.setCell ⟨B,0,none⟩ c0).setCell ⟨B,1,none⟩ c1).setCell ⟨B,2,none⟩ c2
theorem blk3 {W:World} {B:Nat} {T:TypeId} {o0 o1 o2:Value} (hb:Blk W B [o0,o1,o2] T) (c0 c1 c2:Value):Blk (put3 W B c0 c1 c2) B [c0,c1,c2] T∧Mod (fun j=>j = B) W (put3 W B c0 c1 c2) :=
 ⟨((hb.setCell 0 c0).setCell 1 c1).setCell 2 c2,(((Mod.refl (fun j=>j = B) W).setCell (p:=⟨B,0,none⟩) (fun _=>rfl) c0).setCell (p:=⟨B,1,none⟩) (fun _=>rfl) c1).setCell (p:=⟨B,2,none⟩) (fun _=>rfl) c2⟩
theorem ret_st0 {fn:Func} {p:Tmp} (h:fn.results = #[.cell p 50]) (tmps:Array Value) (w:World) (b:Nat) (c0 c1 c2:Value) (hp:tmps.getD p undef = ptr b) (hb:Blk w b [c0,c1,c2] 50) :
  (results fn tmps).run Tryz.prog w = .ok (.agg #[c0,c1,c2]) w :=
 results_cell_row h _ _ b 50 _ (0,0) _ hp hb Tryz.underlying50 rfl (by kernel_rfl)
theorem ret_st1 {fn:Func} {p u:Tmp} (h:fn.results = #[.cell p 50,.tmp u]) (tmps:Array Value) (w:World) (b:Nat) (c0 c1 c2:Value) (hp:tmps.getD p undef = ptr b) (hb:Blk w b [c0,c1,c2] 50) :
  (results fn tmps).run Tryz.prog w = .ok (.tuple #[.agg #[c0,c1,c2],tmps.getD u undef]) w:=by
 rw [results_cell_tmp h,hp];have k0:=hb.cell 0;have k1:=hb.cell 1;have k2:=hb.cell 2;simp only [List.getElem?_cons_zero,List.getElem?_cons_succ] at k0 k1 k2
 go_simp
theorem ret_st2 {fn:Func} {p u1 u2:Tmp} (h:fn.results = #[.cell p 50,.tmp u1,.tmp u2]) (tmps:Array Value) (w:World) (b:Nat) (c0 c1 c2:Value) (hp:tmps.getD p undef = ptr b) (hb:Blk w b [c0,c1,c2] 50) :
  (results fn tmps).run Tryz.prog w = .ok (.tuple #[.agg #[c0,c1,c2],tmps.getD u1 undef,tmps.getD u2 undef]) w:=by
 have hp':tmps[p]?.getD undef = ptr b:=by simpa using hp
 have k0:=hb.cell 0;have k1:=hb.cell 1;have k2:=hb.cell 2;simp only [List.getElem?_cons_zero,List.getElem?_cons_succ] at k0 k1 k2;simp only [results,h];simp [Sem.run_bind,Result.andThen,hp']
 go_simp
def StPost (w:World) (S:QF) (e:Ending) (w':World):Prop:=∃ v,e = .returned v∧QRep w' v S∧Mod Nowhere w w'
def qBegin (S:QF):QF:=⟨S.g,true,S.g⟩
def qCommit (S:QF):QF:=⟨settleF S.g,false,noQ⟩
def qAbort (S:QF):QF:=if S.act = true then ⟨S.o,false,noQ⟩ else S
set_option maxHeartbeats 4000000 in
theorem qBegin_ok {w:World} {v:Value} {S:QF} (h:QRep w v S):Calls Tryz.prog 53 #[v] w (StPost w (qBegin S)):=by
 obtain ⟨lv,ov,rfl,hL⟩:=h;obtain ⟨la,n,lc,oa,m,oc,rfl,rfl⟩:=hL.form;obtain ⟨W,hW,b0,b1,hmW,hzW⟩:=two_st w (.slice la n lc) (.bool S.act) (.slice oa m oc);have k0:=b0.cell 0;have k1:=b0.cell 1;have k2:=b0.cell 2;have j0:=b1.cell 0;have j1:=b1.cell 1;have j2:=b1.cell 2;simp only [List.getElem?_cons_zero,List.getElem?_cons_succ] at k0 k1 k2 j0 j1 j2;have kf:=b0.frozen;have jf:=b1.frozen;have kl:=b0.lt;have jl:=b1.lt;have hne:w.heap.size ≠ w.heap.size + 1:=by omega
 have hne2:w.heap.size + 1 ≠ w.heap.size:=by omega
 have e1:Blk ((W.setCell ⟨w.heap.size,1,none⟩ (.bool true)).setCell ⟨w.heap.size,2,none⟩ (.slice la n lc)) w.heap.size [.slice la n lc,.bool true,.slice la n lc] 50:=(b0.setCell 1 _).setCell 2 _;have m1:Mod (fun j=>j = w.heap.size) W ((W.setCell ⟨w.heap.size,1,none⟩ (.bool true)).setCell ⟨w.heap.size,2,none⟩ (.slice la n lc)):=((Mod.refl (fun j=>j = w.heap.size) W).setCell (p:=⟨w.heap.size,1,none⟩) (fun _=>rfl) _).setCell (p:=⟨w.heap.size,2,none⟩) (fun _=>rfl) _;have e2:=b1.mod m1 (fun e=>hne2 e);obtain ⟨e3,m3⟩:=blk3 e2 (.slice la n lc) (.bool true) (.slice la n lc)
 have hl1:QLs W (.slice la n lc) (.slice la n lc) (qBegin S):=by
  obtain ⟨xs,os,h1,h2,h3,h4⟩:=(hL.fresh hmW).ex;exact ⟨xs,xs,h1,h1,h3,h3⟩
 have hl2:=(hl1.box b0 (by decide) m1).box e2 (by decide) m3;have hmF:Mod Nowhere w _:=(hmW.newb m1 (Nat.le_refl _)).newb m3 (by omega);unfold put3 at e3 hl2 hmF;refine hid12 ?_ hL b0 b1 hmW hzW e1 m1 e2 e3 m3 hl1 hl2;clear hL b0 b1 hmW hzW e1 m1 e2 e3 m3 hl1 hl2;intro hL b0 b1 hmW hzW e1 m1 e2 e3 m3 hl1 hl2;replace hmF:=Lib.hid hmF;go_enter Tryz.func53,Tryz.ntmps53;go_wp2;exact bodyPost_ret (ret_st0 rfl _ _ (w.heap.size + 1) _ _ _ rfl e3.out) rfl ⟨_,rfl,⟨_,_,rfl,hl2.out⟩,hmF.out⟩
theorem fin_st {w W:World} {B:Nat} {o0 o1 o2:Value} (hb:Blk W B [o0,o1,o2] 50) (hB:w.heap.size≤B) (hm:Mod Nowhere w W) {lv ov:Value} {S:QF} (hl:QLs W lv ov S) :
  Blk (put3 W B lv (.bool S.act) ov) B [lv,.bool S.act,ov] 50∧QRep (put3 W B lv (.bool S.act) ov) (.agg #[lv,.bool S.act,ov]) S∧Mod Nowhere w (put3 W B lv (.bool S.act) ov):=by
 obtain ⟨e1,m1⟩:=blk3 hb lv (.bool S.act) ov;exact ⟨e1,⟨_,_,rfl,hl.box hb (by decide) m1⟩,hm.newb m1 hB⟩
theorem ql_noQ:ql noQ = []:=ql_nil _ fun _=>rfl
theorem QF.Ok.commit {S:QF} (h:S.Ok):(qCommit S).Ok:=⟨h.g.settle,.empty⟩
theorem QF.Ok.begin {S:QF} (h:S.Ok):(qBegin S).Ok:=⟨h.g,h.g⟩
theorem QF.Ok.abort {S:QF} (h:S.Ok):(qAbort S).Ok:=by
 unfold qAbort
 split
 ·exact ⟨h.o,.empty⟩
 ·exact h
set_option maxHeartbeats 4000000 in
theorem qCommit_ok {w:World} {v:Value} {S:QF} (h:QRep w v S):Calls Tryz.prog 54 #[v] w (StPost w (qCommit S)):=by
 obtain ⟨lv,ov,rfl,hL⟩:=h;obtain ⟨la,n,lc,oa,m,oc,rfl,rfl⟩:=hL.form;obtain ⟨av,hav⟩:∃ av,S.act = av:=⟨_,rfl⟩;rw [hav];obtain ⟨W,hW,b0,b1,hmW,hzW⟩:=two_st w (.slice la n lc) (.bool av) (.slice oa m oc);have k0:=b0.cell 0;have k1:=b0.cell 1;have k2:=b0.cell 2;have j0:=b1.cell 0;have j1:=b1.cell 1;have j2:=b1.cell 2;simp only [List.getElem?_cons_zero,List.getElem?_cons_succ] at k0 k1 k2 j0 j1 j2;have kf:=b0.frozen;have jf:=b1.frozen;have kl:=b0.lt;have jl:=b1.lt;have hne:w.heap.size ≠ w.heap.size + 1:=by omega
 have hne2:w.heap.size + 1 ≠ w.heap.size:=by omega
 obtain ⟨xs,os,h1,h2,h3,h4⟩:=(hL.fresh hmW).ex;have hxl:xs.length≤900:=by have:=ql_len S.g;rw [← h3,qps_len] at this;omega
 have hC:=qSettle_ok h1 hxl;rw [h3] at hC;refine hid11 ?_ hL b0 b1 hmW hzW h1 h2 h3 h4 hC hav;clear hL b0 b1 hmW hzW h1 h2 h3 h4 hC hav;intro hL b0 b1 hmW hzW h1 h2 h3 h4 hC hav;go_enter Tryz.func54,Tryz.ntmps54;go_wp2_with fail;refine hC.out.mono ?_;rintro e w2 ⟨v2,ys,rfl,hq,hqe,hm2⟩;have c0:=b0.out.mod hm2 (fun e=>e);have c1:=b1.out.mod hm2 (fun e=>e);clear k0 k1 k2 j0 j1 j2 kf jf kl jl;have k0:=c0.cell 0;have k1:=c0.cell 1;have k2:=c0.cell 2;have j0:=c1.cell 0;have j1:=c1.cell 1;have j2:=c1.cell 2;simp only [List.getElem?_cons_zero,List.getElem?_cons_succ] at k0 k1 k2 j0 j1 j2;have kf:=c0.frozen
 have jf:=c1.frozen;have kl:=c0.lt;have jl:=c1.lt;have hl2:QLs w2 v2 (.slice none 0 0) (qCommit S):=⟨ys,[],hq,QSl.nil _,hqe.trans (qsettle_qlTo _ 9),by show [] = ql noQ;rw [ql_noQ]⟩;obtain ⟨f1,f2,f3⟩:=fin_st (w:=w) c1 (by omega) (hmW.out.trans hm2) hl2;obtain ⟨ya,yn,yc,-,-,-,rfl,-⟩:=hl2.form;unfold put3 at f1 f2 f3;refine hid9 ?_ c0 c1 hl2 f1 f2 f3 hq hqe hm2;clear c0 c1 hl2 f1 f2 f3 hq hqe hm2;intro c0 c1 hl2 f1 f2 f3 hq hqe hm2;go_wp2;exact bodyPost_ret (ret_st0 rfl _ _ (w.heap.size + 1) _ _ _ rfl f1.out) rfl ⟨_,rfl,f2.out,f3.out⟩
set_option maxHeartbeats 4000000 in
theorem qAbort_ok {w:World} {v:Value} {S:QF} (h:QRep w v S):Calls Tryz.prog 55 #[v] w (StPost w (qAbort S)):=by
 obtain ⟨lv,ov,rfl,hL⟩:=h;obtain ⟨la,n,lc,oa,m,oc,rfl,rfl⟩:=hL.form;obtain ⟨av,hav⟩:∃ av,S.act = av:=⟨_,rfl⟩;rw [hav];obtain ⟨W,hW,b0,b1,hmW,hzW⟩:=two_st w (.slice la n lc) (.bool av) (.slice oa m oc);have k0:=b0.cell 0;have k1:=b0.cell 1;have k2:=b0.cell 2;have j0:=b1.cell 0;have j1:=b1.cell 1;have j2:=b1.cell 2;simp only [List.getElem?_cons_zero,List.getElem?_cons_succ] at k0 k1 k2 j0 j1 j2;have kf:=b0.frozen;have jf:=b1.frozen;have kl:=b0.lt;have jl:=b1.lt;have hne:w.heap.size ≠ w.heap.size + 1:=by omega
 have hne2:w.heap.size + 1 ≠ w.heap.size:=by omega
 have hLW:=hL.fresh hmW;obtain ⟨R,hR⟩:∃ R,qAbort S = R:=⟨_,rfl⟩;rw [hR]
 cases av
 ·have hRe:R = S:=by rw [← hR];unfold qAbort;rw [if_neg (by rw [hav];decide)]
  obtain ⟨f1,f2,f3⟩:=fin_st (w:=w) b1 (by omega) hmW hLW;rw [hav] at f1 f2 f3;rw [← hRe] at f2;unfold put3 at f1 f2 f3;refine hid12 ?_ hL b0 b1 hmW hzW hLW hR hRe f1 f2 f3 hav;clear hL b0 b1 hmW hzW hLW hR hRe f1 f2 f3 hav;intro hL b0 b1 hmW hzW hLW hR hRe f1 f2 f3 hav;go_enter Tryz.func55,Tryz.ntmps55;go_wp2;exact bodyPost_ret (ret_st0 rfl _ _ (w.heap.size + 1) _ _ _ rfl f1.out) rfl ⟨_,rfl,f2.out,f3.out⟩
 ·have hRe:R = ⟨S.o,false,noQ⟩:=by rw [← hR];unfold qAbort;rw [if_pos hav]
  have hl2:QLs W (.slice oa m oc) (.slice none 0 0) R:=by
   obtain ⟨xs,os,h1,h2,h3,h4⟩:=hLW.ex;rw [hRe];exact ⟨os,[],h2,QSl.nil _,h4,by show [] = ql noQ;rw [ql_noQ]⟩
  obtain ⟨f1,f2,f3⟩:=fin_st (w:=w) b1 (by omega) hmW hl2;have hRa:R.act = false:=by rw [hRe]
  rw [hRa] at f1 f2 f3;unfold put3 at f1 f2 f3;refine hid12 ?_ hL b0 b1 hmW hzW hLW hR hRe f1 f2 f3 hav;clear hL b0 b1 hmW hzW hLW hR hRe f1 f2 f3 hav;intro hL b0 b1 hmW hzW hLW hR hRe f1 f2 f3 hav;refine hid2 ?_ hl2 hRa;clear hl2 hRa;intro hl2 hRa;go_enter Tryz.func55,Tryz.ntmps55;go_wp2;exact bodyPost_ret (ret_st0 rfl _ _ (w.heap.size + 1) _ _ _ rfl f1.out) rfl ⟨_,rfl,f2.out,f3.out⟩
set_option maxHeartbeats 2000000 in
theorem qFits_ok {w:World} (x:Qx) {a1 a2:Option Addr} {n1 n2 c1 c2:Nat} (e1:x.1.1 = .slice a1 n1 c1) (e2:x.1.2 = .slice a2 n2 c2) (va:Option Addr) (vl vc:Nat) :
  Calls Tryz.prog 95 #[.agg (qxCells x).toArray,.slice va vl vc] w fun e w'=>e = .returned (.bool (fitsB vl x.2.d.lo x.2.d.hi))∧Mod Nowhere w w':=by
 obtain ⟨⟨v1,v2⟩,⟨⟨id,val,li,lo,hi,code,cl⟩,t,u,fr⟩⟩:=x;dsimp only at e1 e2;subst e1;subst e2
 show Calls Tryz.prog 95 #[.agg #[.int .i64 id,.slice a1 n1 c1,.int .i64 li,.int .i64 lo,.int .i64 hi,.slice a2 n2 c2,.int .i64 cl,.int .i64 t,.int .i64 u,.bool fr],.slice va vl vc] w fun e w'=>e = .returned (.bool (fitsB vl lo hi))∧Mod Nowhere w w'
 have m0:Mod Nowhere w (w.alloc (.cells #[.int .i64 id,.slice a1 n1 c1,.int .i64 li,.int .i64 lo,.int .i64 hi,.slice a2 n2 c2,.int .i64 cl,.int .i64 t,.int .i64 u,.bool fr] 116)):=(Mod.refl _ w).alloc _;replace m0:=Lib.hid m0;unfold fitsB;by_cases h1:(lo:Int)≤(vl:Int)
 ·by_cases h2:(vl:Int)≤(hi:Int)
  all_goals
   go_enter Tryz.func95,Tryz.ntmps95;go_wp2;go_ret;exact ⟨ret_bool (by simp [h1,h2] <;> (intros;omega)),m0.out⟩
 ·go_enter Tryz.func95,Tryz.ntmps95;go_wp2;go_ret;exact ⟨ret_bool (by simp <;> (intros;omega)),m0.out⟩
def qDelete (S:QF) (id:Int):QF × Nat:=if (atQ S.g id).isSome = true then (⟨qupd S.g id.toNat none,S.act,S.o⟩,0) else (S,12)
def StErr (w:World) (R:QF × Nat) (e:Ending) (w':World):Prop:=∃ v,e = .returned (.tuple #[v,errno R.2])∧QRep w' v R.1∧Mod Nowhere w w'
set_option maxHeartbeats 8000000 in
theorem qDelete_ok {w:World} {v:Value} {S:QF} (h:QRep w v S) (hS:S.Ok) (id:Int):Calls Tryz.prog 48 #[v,.int .i64 id] w (StErr w (qDelete S id)):=by
 obtain ⟨lv,ov,rfl,hL⟩:=h;obtain ⟨la,n,lc,oa,m,oc,rfl,rfl⟩:=hL.form;obtain ⟨av,hav⟩:∃ av,S.act = av:=⟨_,rfl⟩;rw [hav];obtain ⟨W,hW,b0,b1,hmW,hzW⟩:=two_st w (.slice la n lc) (.bool av) (.slice oa m oc);have k0:=b0.cell 0;have k1:=b0.cell 1;have k2:=b0.cell 2;have j0:=b1.cell 0;have j1:=b1.cell 1;have j2:=b1.cell 2;simp only [List.getElem?_cons_zero,List.getElem?_cons_succ] at k0 k1 k2 j0 j1 j2;have kf:=b0.frozen;have jf:=b1.frozen;have kl:=b0.lt;have jl:=b1.lt;have hne:w.heap.size ≠ w.heap.size + 1:=by omega
 have hne2:w.heap.size + 1 ≠ w.heap.size:=by omega
 have hLW:=hL.fresh hmW;obtain ⟨xs,os,h1,h2,h3,h4⟩:=hLW.ex;have hxl:xs.length≤9:=by have:=ql_len S.g;rw [← h3,qps_len] at this;omega
 have hF:=qFind_ok h1 (by omega) id;rw [h3] at hF;have hWo:=qWithout_ok h1 (by omega) id;rw [h3] at hWo;obtain ⟨R,hR⟩:∃ R,qDelete S id = R:=⟨_,rfl⟩;rw [hR];rcases find_ql hS.g id with ⟨ha,hf⟩ | ⟨p,k,ha,hf,hk,hp⟩
 ·rw [hf] at hF;have hRe:R = (S,12):=by rw [← hR];unfold qDelete;rw [ha];rfl
  obtain ⟨f1,f2,f3⟩:=fin_st (w:=w) b1 (by omega) hmW hLW;rw [hav] at f1 f2 f3;unfold put3 at f1 f2 f3;refine hid12 ?_ hL b0 b1 hmW hzW hLW hR hRe f1 f2 f3 hF;clear hL b0 b1 hmW hzW hLW hR hRe f1 f2 f3 hF;intro hL b0 b1 hmW hzW hLW hR hRe f1 f2 f3 hF;refine hid7 ?_ hWo h1 h2 h3 h4 hS hav;clear hWo h1 h2 h3 h4 hS hav;intro hWo h1 h2 h3 h4 hS hav;go_enter Tryz.func48,Tryz.ntmps48;go_wp2_with fail;refine hF.out.mono ?_;rintro e w2 ⟨rfl,rfl⟩;go_wp2;refine bodyPost_ret (ret_st1 rfl _ _ (w.heap.size + 1) _ _ _ rfl f1.out) rfl ?_;rw [hRe.out];exact ⟨_,rfl,f2.out,f3.out⟩
 ·rw [hf] at hF;have hRe:R = (⟨qupd S.g id.toNat none,av,S.o⟩,0):=by rw [← hR];unfold qDelete;rw [ha,hav];rfl
  have hid:id = (p.d.id:Int):=(atQ_some hS.g ha).1;refine hid12 ?_ hL b0 b1 hmW hzW hLW hR hRe hF hWo h1 h2;clear hL b0 b1 hmW hzW hLW hR hRe hF hWo h1 h2;intro hL b0 b1 hmW hzW hLW hR hRe hF hWo h1 h2;refine hid6 ?_ h3 h4 hS hav ha hf;clear h3 h4 hS hav ha hf;intro h3 h4 hS hav ha hf;replace hk:=Lib.hid hk;refine hid2 ?_ hp hid;clear hp hid;intro hp hid;go_enter Tryz.func48,Tryz.ntmps48;go_wp2_with fail;refine hF.out.mono ?_;rintro e w2 ⟨rfl,rfl⟩;go_wp2_with fail;refine hWo.out.mono ?_;rintro e w3 ⟨v3,ys,rfl,hq,hqe,hm3⟩;have c0:=b0.out.mod hm3 (fun e=>e);have c1:=b1.out.mod hm3 (fun e=>e)
  clear k0 k1 k2 j0 j1 j2 kf jf kl jl;have k0:=c0.cell 0;have k1:=c0.cell 1;have k2:=c0.cell 2;have j0:=c1.cell 0;have j1:=c1.cell 1;have j2:=c1.cell 2;simp only [List.getElem?_cons_zero,List.getElem?_cons_succ] at k0 k1 k2 j0 j1 j2;have kf:=c0.frozen;have jf:=c1.frozen;have kl:=c0.lt;have jl:=c1.lt;obtain ⟨ya,yc,rfl,-,-,-⟩:=hq.sl.gen;have m4:Mod (fun j=>j = w.heap.size) w3 (w3.setCell ⟨w.heap.size,0,none⟩ (.slice ya ys.length yc)):=(Mod.refl (fun j=>j = w.heap.size) w3).setCell (p:=⟨w.heap.size,0,none⟩) (fun _=>rfl) _;have d1:=c1.mod m4 (fun e=>hne2 e)
  have hl4:QLs (w3.setCell ⟨w.heap.size,0,none⟩ (.slice ya ys.length yc)) (.slice ya ys.length yc) (.slice oa m oc) ⟨qupd S.g id.toNat none,av,S.o⟩ :=
   ⟨ys,os,hq.box c0 (by decide) m4,(h2.out.fresh hm3).box c0 (by decide) m4,by
    rw [hqe,hid.out,Int.toNat_natCast];exact qwithout_qlTo hS.out.g _ 9,h4.out⟩
  obtain ⟨f1,f2,f3⟩:=fin_st (w:=w) d1 (by omega) ((hmW.out.trans hm3).newb m4 (Nat.le_refl _)) hl4;have hav2:(⟨qupd S.g id.toNat none,av,S.o⟩:QF).act = av:=rfl;rw [hav2] at f1 f2 f3;unfold put3 at f1 f2 f3;refine hid12 ?_ c0 c1 d1 hl4 f1 f2 f3 hq hqe hm3 m4 hav2;clear c0 c1 d1 hl4 f1 f2 f3 hq hqe hm3 m4 hav2;intro c0 c1 d1 hl4 f1 f2 f3 hq hqe hm3 m4 hav2;go_wp2;refine bodyPost_ret (ret_st1 rfl _ _ (w.heap.size + 1) _ _ _ rfl f1.out) rfl ?_;rw [hRe.out];exact ⟨_,rfl,f2.out,f3.out⟩
set_option maxHeartbeats 4000000 in
theorem qJoin_ok {w:World} {b:Nat} {v:Value} {d:List Nat} (hb:Blk w b [v] 31) (hs:Src w v d) (hl:d.length≤1000) :
  Calls Tryz.prog 91 #[.slice (some ⟨b,0,none⟩) 1 1] w fun e w'=>∃ va vc,e = .returned (.slice va d.length vc)∧DSl w' (.slice va d.length vc) d∧Mod Nowhere w w':=by
 obtain ⟨va0,vc0,W1,hr,ho,hm⟩:=append_onto (l:=[]) (n:=0) rfl (World.ownsRow_nil w w.heap.size 5 1) hs (by omega) (Nat.le_refl _) 31;rw [Nat.zero_add] at hr ho;have hsl:DSl W1 (.slice va0 d.length vc0) d:=Sl.of_owns ho;have hmN:Mod Nowhere w W1:=hm.mono fun i hi e=>absurd hi (by have e:w.heap.size≤i:=e;omega);have hs0:=hs;obtain ⟨ua,uc,rfl,-,-,-⟩:=hs;have k0:=hb.cell 0;simp only [List.getElem?_cons_zero] at k0;have kl:=hb.lt;refine hid6 ?_ hsl hmN hs0 hb ho hm;clear hsl hmN hs0 hb ho hm;intro hsl hmN hs0 hb ho hm;go_enter Tryz.func91,Tryz.ntmps91;go_wp2
 go_loopw [3,4] (fun x i wr=>(i = .int .i64 0∧x = .slice none 0 0∧wr = w) ∨ (i = .int .i64 1∧x = .slice va0 d.length vc0∧wr = W1)) (fun _ i _=>1 - (RowKit.intOf i).toNat)
 case atStart=>exact .inl ⟨rfl,rfl,rfl⟩
 case round =>
  rcases hrel with ⟨rfl,rfl,rfl⟩ | ⟨rfl,rfl,rfl⟩
  ·go_wp2_with (at_builtin;refine Lib.wpList_append_run _ rfl _ _ _ _ rfl _ _ (by rfl) (by rfl) _ _ hr ?_;clear hr)
   go_roundw
   case rel=>exact .inr ⟨by go_num,by first | trivial | rfl,by first | trivial | rfl⟩
   case measure=>simp [RowKit.intOf]
  ·clear hr;go_wp2;go_ret;exact ⟨_,_,rfl,hsl.out,hmN.out⟩
def qInfo (S:QF) (id:Int):Value:=match atQ S.g id with
 | none=>.tuple #[zinfo,.bool false]
 | some p=>.tuple #[infoV id p.t p.u p.d.limit,.bool true]
set_option maxHeartbeats 8000000 in
theorem qInfo_ok {w:World} {v:Value} {S:QF} (h:QRep w v S) (hS:S.Ok) (id:Int):Calls Tryz.prog 58 #[v,.int .i64 id] w fun e w'=>e = .returned (qInfo S id)∧Mod Nowhere w w':=by
 obtain ⟨lv,ov,rfl,hL⟩:=h;obtain ⟨la,n,lc,oa,m,oc,rfl,rfl⟩:=hL.form;obtain ⟨av,hav⟩:∃ av,S.act = av:=⟨_,rfl⟩;rw [hav];obtain ⟨R,hR⟩:∃ R,qInfo S id = R:=⟨_,rfl⟩;rw [hR];obtain ⟨b0,b1,hmW⟩:=boxes2 w [.slice la n lc,.bool av,.slice oa m oc] [.int .i64 0,.int .i64 0,.int .i64 0,.int .i64 0] 50 62;obtain ⟨W,hW⟩:∃ W,(w.alloc (.cells #[.slice la n lc,.bool av,.slice oa m oc] 50)).alloc (.cells #[.int .i64 0,.int .i64 0,.int .i64 0,.int .i64 0] 62) = W:=⟨_,rfl⟩;rw [hW] at b0 b1 hmW;have k0:=b0.cell 0;have j0:=b1.cell 0;have j1:=b1.cell 1;have j2:=b1.cell 2;have j3:=b1.cell 3
 simp only [List.getElem?_cons_zero,List.getElem?_cons_succ] at k0 j0 j1 j2 j3;have jf:=b1.frozen;have kl:=b0.lt;have jl:=b1.lt;obtain ⟨xs,os,h1,h2,h3,h4⟩:=(hL.fresh hmW).ex;have hxl:xs.length≤9:=by have:=ql_len S.g;rw [← h3,qps_len] at this;omega
 have hF:=qFind_ok h1 (by omega) id;rw [h3] at hF;rcases find_ql hS.g id with ⟨ha,hf⟩ | ⟨p,k,ha,hf,hk,hp⟩
 ·rw [hf] at hF;have hRe:R = .tuple #[zinfo,.bool false]:=by rw [← hR];unfold qInfo;rw [ha]
  refine hid12 ?_ hL b0 b1 hmW hF h1 h2 h3 h4 hR hRe hav;clear hL b0 b1 hmW hF h1 h2 h3 h4 hR hRe hav;intro hL b0 b1 hmW hF h1 h2 h3 h4 hR hRe hav;replace hS:=Lib.hid hS;go_enter Tryz.func58,Tryz.ntmps58;go_wp2_with fail;refine hF.out.mono ?_;rintro e w2 ⟨rfl,rfl⟩;go_wp2;obtain ⟨hbE,hmE⟩:=set4 b1.out hmW.out (by omega) (.int .i64 0) (.int .i64 0) (.int .i64 0) (.int .i64 0);refine bodyPost_ret (ret_info rfl _ _ (w.heap.size + 1) _ _ _ _ rfl hbE) rfl ⟨?_,hmE⟩;rw [hRe.out];rfl
 ·rw [hf] at hF;have hlt:k < xs.length:=by rw [← qps_len,h3];exact hk
  obtain ⟨b,off,cap',a1,c1,a2,c2,e0,hbl,_,hcm,hc,e1,e2⟩:=h1.at_ hlt;simp only [Value.slice.injEq] at e0;obtain ⟨rfl,rfl,rfl⟩:=e0
  have hpx:xs[k].2 = p:=by
   rw [← hp];have:(qps xs)[k]'(by rw [h3];exact hk) = xs[k].2:=by simp [qps]
   rw [← this]
   congr 1
  have hRe:R = .tuple #[infoV id p.t p.u p.d.limit,.bool true]:=by rw [← hR];unfold qInfo;rw [ha]
  obtain ⟨x,hxk⟩:∃ x,xs[k] = x:=⟨_,rfl⟩;rw [hxk] at hc e1 e2 hpx;obtain ⟨⟨v1,v2⟩,⟨⟨pid,val,li,lo,hi,code,cl⟩,t,u,fr⟩⟩:=x;dsimp only at e1 e2 hpx;subst e1;subst e2;subst hpx;obtain ⟨c0',c1',c2',c3',c4',c5',c6',c7',c8',c9'⟩:=ten hc;dsimp only at c0' c1' c2' c3' c4' c5' c6' c7' c8' c9';clear hc;have hki:(k:Int) < (xs.length:Int):=by omega
  have hmx:Mod Nowhere W (W.alloc (.cells #[.int .i64 pid,.slice a1 val.length c1,.int .i64 li,.int .i64 lo,.int .i64 hi,.slice a2 code.length c2,.int .i64 cl,.int .i64 t,.int .i64 u,.bool fr] 116)):=(Mod.refl _ W).alloc _;refine hid12 ?_ hL b0 b1 hmW hF h1 h2 h3 h4 hR hRe hav;clear hL b0 b1 hmW hF h1 h2 h3 h4 hR hRe hav;intro hL b0 b1 hmW hF h1 h2 h3 h4 hR hRe hav;refine hid5 ?_ hS hxk hmx ha hf;clear hS hxk hmx ha hf;intro hS hxk hmx ha hf;replace hk:=Lib.hid hk;replace hp:=Lib.hid hp;go_enter Tryz.func58,Tryz.ntmps58;go_wp2_with fail;refine hF.out.mono ?_;rintro e w2 ⟨rfl,rfl⟩
  go_wp2;obtain ⟨hbE,hmE⟩:=alloc4 (set4 b1.out hmW.out (by omega) (.int .i64 id) (.int .i64 t) (.int .i64 u) (.int .i64 li)) (.cells #[.int .i64 pid,.slice a1 val.length c1,.int .i64 li,.int .i64 lo,.int .i64 hi,.slice a2 code.length c2,.int .i64 cl,.int .i64 t,.int .i64 u,.bool fr] 116);refine bodyPost_ret (ret_info rfl _ _ (w.heap.size + 1) _ _ _ _ rfl hbE) rfl ⟨?_,hmE⟩;rw [hRe.out];rfl
set_option maxHeartbeats 16000000 in
theorem qValid_ok {w:World} (id:Int) (va:Option Addr) (vl vc:Nat) (limit lo hi:Int) (ua:Option Addr) (ul uc:Nat) (cl:Int) :
  Calls Tryz.prog 89 #[.agg #[.int .i64 id,.slice va vl vc,.int .i64 limit,.int .i64 lo,.int .i64 hi,.slice ua ul uc,.int .i64 cl]] w fun e w'=>e = .returned (.bool (pinValidB id vl limit lo hi ul cl))∧Mod Nowhere w w':=by
 have hm0:Mod Nowhere w (w.alloc (.cells #[.int .i64 id,.slice va vl vc,.int .i64 limit,.int .i64 lo,.int .i64 hi,.slice ua ul uc,.int .i64 cl] 35)):=(Mod.refl _ w).alloc _;obtain ⟨R,hR⟩:∃ R,pinValidB id vl limit lo hi ul cl = R:=⟨_,rfl⟩;rw [hR]
 have hF:¬ (1≤id∧id≤8∧1≤limit∧limit≤15∧1≤lo∧hi≤16∧lo≤(vl:Int)∧(vl:Int)≤hi∧((ul = 0∧cl = 0) ∨ (1≤(ul:Int)∧(ul:Int)≤16∧1≤cl∧cl≤15)))→R = false:=fun h=>by
  rw [← hR,Bool.eq_false_iff];intro e
  apply h
  unfold pinValidB unbB fitsB at e;simp only [Bool.and_eq_true,Bool.or_eq_true,decide_eq_true_eq] at e;omega
 have hT:(1≤id∧id≤8∧1≤limit∧limit≤15∧1≤lo∧hi≤16∧lo≤(vl:Int)∧(vl:Int)≤hi∧((ul = 0∧cl = 0) ∨ (1≤(ul:Int)∧(ul:Int)≤16∧1≤cl∧cl≤15)))→R = true:=fun h=>by
  rw [← hR];unfold pinValidB unbB fitsB;simp only [Bool.and_eq_true,Bool.or_eq_true,decide_eq_true_eq];omega
 refine hid4 ?_ hm0 hR hF hT;clear hm0 hR hF hT;intro hm0 hR hF hT;by_cases d0:id < 1
 ·skip
  obtain rfl:R = false:=hF.out (by omega);clear hF hT;go_enter Tryz.func89,Tryz.ntmps89;go_wp2;go_ret;exact ⟨rfl,hm0.out⟩
 by_cases d1:8 < id
 ·skip
  obtain rfl:R = false:=hF.out (by omega);clear hF hT;go_enter Tryz.func89,Tryz.ntmps89;go_wp2;go_ret;exact ⟨rfl,hm0.out⟩
 by_cases d2:limit < 1
 ·skip
  obtain rfl:R = false:=hF.out (by omega);clear hF hT;go_enter Tryz.func89,Tryz.ntmps89;go_wp2;go_ret;exact ⟨rfl,hm0.out⟩
 by_cases d3:15 < limit
 ·skip
  obtain rfl:R = false:=hF.out (by omega);clear hF hT;go_enter Tryz.func89,Tryz.ntmps89;go_wp2;go_ret;exact ⟨rfl,hm0.out⟩
 by_cases d4:lo < 1
 ·skip
  obtain rfl:R = false:=hF.out (by omega);clear hF hT;go_enter Tryz.func89,Tryz.ntmps89;go_wp2;go_ret;exact ⟨rfl,hm0.out⟩
 by_cases d5:hi < lo
 ·skip
  obtain rfl:R = false:=hF.out (by omega);clear hF hT;go_enter Tryz.func89,Tryz.ntmps89;go_wp2;go_ret;exact ⟨rfl,hm0.out⟩
 by_cases d6:16 < hi
 ·skip
  obtain rfl:R = false:=hF.out (by omega);clear hF hT;go_enter Tryz.func89,Tryz.ntmps89;go_wp2;go_ret;exact ⟨rfl,hm0.out⟩
 by_cases d7:(vl:Int) < lo
 ·skip
  obtain rfl:R = false:=hF.out (by omega);clear hF hT;go_enter Tryz.func89,Tryz.ntmps89;go_wp2;go_ret;exact ⟨rfl,hm0.out⟩
 by_cases d8:hi < (vl:Int)
 ·skip
  obtain rfl:R = false:=hF.out (by omega);clear hF hT;go_enter Tryz.func89,Tryz.ntmps89;go_wp2;go_ret;exact ⟨rfl,hm0.out⟩
 by_cases d9:ul = 0
 ·subst d9;have t1:((0:Int) == 0) = true:=rfl;by_cases d10:cl = 0
  ·subst d10;obtain rfl:R = true:=hT.out (by omega);clear hF hT;go_enter Tryz.func89,Tryz.ntmps89;go_wp2;go_ret;exact ⟨rfl,hm0.out⟩
  ·have t2:(cl == 0) = false:=by simpa using d10
   obtain rfl:R = false:=hF.out (by omega);clear hF hT;go_enter Tryz.func89,Tryz.ntmps89;go_wp2;go_ret;exact ⟨rfl,hm0.out⟩
 have t1:((ul:Int) == 0) = false:=by simp;omega
 by_cases d10:(ul:Int)≤16
 ·by_cases d11:1≤cl
  ·by_cases d12:cl≤15
   ·skip
    obtain rfl:R = true:=hT.out (by omega);clear hF hT;go_enter Tryz.func89,Tryz.ntmps89;go_wp2;go_ret;exact ⟨rfl,hm0.out⟩
   ·skip
    obtain rfl:R = false:=hF.out (by omega);clear hF hT;go_enter Tryz.func89,Tryz.ntmps89;go_wp2;go_ret;exact ⟨rfl,hm0.out⟩
  ·skip
   obtain rfl:R = false:=hF.out (by omega);clear hF hT;go_enter Tryz.func89,Tryz.ntmps89;go_wp2;go_ret;exact ⟨rfl,hm0.out⟩
 ·skip
  obtain rfl:R = false:=hF.out (by omega);clear hF hT;go_enter Tryz.func89,Tryz.ntmps89;go_wp2;go_ret;exact ⟨rfl,hm0.out⟩
end Go.Proofs.YtjanpegbemepgaaGreat
