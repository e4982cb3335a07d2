/-
  The PINs: a value replaced.
-/
import Derived.Test.YtjanpegbemepgaaGreatTG37
import Derived.Shelf.Bytes.SlEqualAll
set_option linter.unusedVariables false
set_option linter.unusedSimpArgs false
set_option maxRecDepth 100000
namespace Go.Proofs.YtjanpegbemepgaaGreat
open Go.RowKit
open Jn Vn
attribute [local go_sem] Oper.semAt_some
def PC2 (D:Items→Prop) (w:World) (A:VAt) (m:Mem) (s':VSt) (left er n:Nat) (e:Ending) (w':World):Prop :=
 (∃ m' k,e = .returned (.tuple #[.int .i64 left,errno er])∧VRep w' A m' s'∧k≤n∧Runs m m' k∧Mod A.S w w') ∨
 (∃ m' f,e = .returned (.tuple #[.int .i64 0,errno 7])∧D f∧VDead w' A m' f∧Stopped m m' n∧Mod A.S w w')
section
variable {D D' : Items → Prop} {w w1 w' : World} {A : VAt} {m m1 : Mem} {s' : VSt} {er left n k a b : Nat} {e : Ending}
theorem PC2.mono (h:PC2 D w A m s' left er a e w') (hD:∀ f,D f→D' f) (hn:a≤b):PC2 D' w A m s' left er b e w':=by
 rcases h with ⟨m',k,a1,b1,c,d,f⟩ | ⟨m',g,a1,b1,c,d,f⟩
 ·exact .inl ⟨m',k,a1,b1,Nat.le_trans c hn,d,f⟩
 ·exact .inr ⟨m',g,a1,hD _ b1,c,d.mono hn,f⟩
theorem PC2.after (hr:Runs m m1 k) (hk:k≤a) (hm:Mod A.S w w1) (h:PC2 D w1 A m1 s' left er b e w'):PC2 D w A m s' left er (a + b) e w':=by
 rcases h with ⟨m',j,a1,b1,c,d,f⟩ | ⟨m',g,a1,b1,c,d,f⟩
 ·exact .inl ⟨m',k + j,a1,b1,by omega,hr.trans d,hm.trans f⟩
 ·exact .inr ⟨m',g,a1,b1,c,hr.stopped d (by omega),hm.trans f⟩
theorem PC2.from (hm:Mod A.S w w1) (h:PC2 D w1 A m s' left er b e w'):PC2 D w A m s' left er b e w':=by
 rcases h with ⟨m',j,a1,b1,c,d,f⟩ | ⟨m',g,a1,b1,c,d,f⟩
 ·exact .inl ⟨m',j,a1,b1,c,d,hm.trans f⟩
 ·exact .inr ⟨m',g,a1,b1,c,d,hm.trans f⟩
theorem PC2.no (h:PC2 D w A m s' left er n e w'):∃ i j:Int,e = .returned (.tuple #[.int .i64 i,errno j]):=by
 rcases h with ⟨_,_,e,_⟩ | ⟨_,_,e,_⟩ <;> exact ⟨_,_,e⟩
end
def pRepl (Z:Nat) (s:VSt) (d:PinD) (v:List Nat):VSt × Nat:=pPut Z s { d with value:=v } d.limit (ptry (view s) d.id).2
def pLeft (d:PinD) (e:Nat):Nat:=if e = 0 then d.limit else 0
set_option maxHeartbeats 8000000 in
theorem pinReplaced_ok {w:World} {pb:Nat} {A:VAt} {m:Mem} {s:VSt} {d:PinD} (hd:POk d) {v:List Nat} (hdv:POk { d with value:=v }) {u1 u2 uv:Value} (hu1:∃ a n c,u1 = .slice a n c) (hs1:SrcS A w uv v) (hs2:SrcS A w u2 d.code) (hp:PnAt w pb A.vb) (h:VRep w A m s) (hxn:s.l.length≤90000) (hI:PInvF (view s)) (hrm:Room m (vcost A + vcost A + vcost A)) :
  Calls Tryz.prog 61 #[ptr pb,pinV d u1 u2,uv] w (PC2 (fun f=>f = s.f ∨ f = (pRepl A.Z s d v).1.f) w A m (pRepl A.Z s d v).1 (pLeft d (pRepl A.Z s d v).2) (pRepl A.Z s d v).2 (vcost A + vcost A + vcost A)):=by
 obtain ⟨xa,xn,xc,rfl⟩:=hu1;obtain ⟨ya,yc,rfl,-,-,-⟩:=hs2.src;obtain ⟨va,vc,rfl,-,-,-⟩:=hs1.src;have hlt:=h.lt;have hl1:=hd.l1;have htr:=hI.tries hd.i1 hd.i8;have hT:=fun W (hm:Mod Nowhere w W)=>pinTries_ok (hp.fresh hm) (h.fresh hm) (by omega) hI hd.i1 hd.i8;have hP:=fun W (hm:Mod Nowhere w W)=>pinPut_ok hdv (u1:=.slice va v.length vc) (u2:=.slice ya d.code.length yc) (hs1.mod hm.nowhere) (hs2.mod hm.nowhere) hd.l15 htr.2 (hp.fresh hm) (h.fresh hm) hxn hrm;unfold pRepl;obtain ⟨q,hq⟩:∃ q,pPut A.Z s { d with value:=v } d.limit (ptry (view s) d.id).2 = q:=⟨_,rfl⟩;rw [hq]
 simp only [hq] at hP;obtain ⟨p1,hp1⟩:∃ x,(ptry (view s) d.id).1 = x:=⟨_,rfl⟩;obtain ⟨p2,hp2⟩:∃ x,(ptry (view s) d.id).2 = x:=⟨_,rfl⟩;simp only [hp1,hp2] at hT hP htr;unfold pinV at hP;unfold pinV;have b0:=Blk.new w [.int .i64 d.id,.slice xa xn xc,.int .i64 d.limit,.int .i64 d.lo,.int .i64 d.hi,.slice ya d.code.length yc,.int .i64 d.cl] 35;have m0:Mod Nowhere w (w.alloc (.cells #[.int .i64 d.id,.slice xa xn xc,.int .i64 d.limit,.int .i64 d.lo,.int .i64 d.hi,.slice ya d.code.length yc,.int .i64 d.cl] 35)):=(Mod.refl _ w).alloc _;have hT1:=hT _ m0;dsimp only at hP;refine hid12 ?_ hT hP hT1 b0 m0 hs1 hs2 hp h hI hq hp1;clear hT hP hT1 b0 m0 hs1 hs2 hp h hI hq hp1;intro hT hP hT1 b0 m0 hs1 hs2 hp h hI hq hp1
 refine hid4 ?_ hp2 hd hdv hlt;clear hp2 hd hdv hlt;intro hp2 hd hdv hlt;go_enter Tryz.func61,Tryz.ntmps61;go_wp2_with fail;refine hT1.out.mono ?_;rintro e w1 ⟨rfl,hm1⟩;have hb1:=b0.out.mod hm1 (fun e=>e);have c0:=hb1.cell 0;have c1:=hb1.cell 1;have c2:=hb1.cell 2;have c3:=hb1.cell 3;have c4:=hb1.cell 4;have c5:=hb1.cell 5;have c6:=hb1.cell 6;simp only [List.getElem?_cons_zero,List.getElem?_cons_succ] at c0 c1 c2 c3 c4 c5 c6;have cf:=hb1.frozen;have cl:=hb1.lt;have hm2:Mod Nowhere w (w1.setCell ⟨w.heap.size,1,none⟩ (.slice va v.length vc)):=(m0.out.trans hm1).newb ((Mod.refl (fun j=>j = w.heap.size) w1).setCell (p:=⟨w.heap.size,1,none⟩) (fun _=>rfl) _) (Nat.le_refl _);have hb2:=hb1.setCell 1 (.slice va v.length vc)
 have hP1:=hP.out _ hm2;refine hid5 ?_ hm1 hb1 hm2 hb2 hP1;clear hm1 hb1 hm2 hb2 hP1;intro hm1 hb1 hm2 hb2 hP1;go_wp2_with fail;refine hP1.out.mono ?_;rintro e w2 hc
 have hbS:Mod A.S w w2:=by
  rcases hc with ⟨_,_,_,_,_,_,g⟩ | ⟨_,_,_,_,_,_,g⟩
  ·exact hm2.out.nowhere.trans g
  ·exact hm2.out.nowhere.trans g
 have hc2:Mod A.S (w1.setCell ⟨w.heap.size,1,none⟩ (.slice va v.length vc)) w2:=by
  rcases hc with ⟨_,_,_,_,_,_,g⟩ | ⟨_,_,_,_,_,_,g⟩ <;> exact g
 have hb3:=hb2.out.mod hc2 (fun e=>by have:=hlt.out _ e;omega);have c2:=hb3.cell 2;simp only [List.set_cons_succ,List.set_cons_zero,List.getElem?_cons_zero,List.getElem?_cons_succ] at c2;have cl:=hb3.lt;rcases hc with ⟨m',k,rfl,hv,hk,hr,hm⟩ | ⟨m',f,rfl,hf,hdd,hst,hm⟩
 ·by_cases h0:q.2 = 0
  ·have hfin:PC2 (fun f=>f = s.f ∨ f = q.1.f) w A m q.1 (pLeft d q.2) q.2 (vcost A + vcost A + vcost A) (.returned (.tuple #[.int .i64 d.limit,errno 0])) w2:=by
    rw [h0];exact .inl ⟨m',k,by unfold pLeft;rw [if_pos rfl];rfl,hv,hk,hr,hbS⟩
   rw [h0];refine hid8 ?_ hfin hv hr hm hbS hb3 hk hc2;clear hfin hv hr hm hbS hb3 hk hc2;intro hfin hv hr hm hbS hb3 hk hc2;go_wp2
   go_ret2
   exact hfin.out
  ·have hz:(((q.2:Nat):Int) != 0) = true:=by simp;omega
   have hfin:PC2 (fun f=>f = s.f ∨ f = q.1.f) w A m q.1 (pLeft d q.2) q.2 (vcost A + vcost A + vcost A) (.returned (.tuple #[.int .i64 0,errno q.2])) w2:=.inl ⟨m',k,by unfold pLeft;rw [if_neg h0];rfl,hv,hk,hr,hbS⟩;refine hid8 ?_ hfin hv hr hm hbS hb3 hk hc2;clear hfin hv hr hm hbS hb3 hk hc2;intro hfin hv hr hm hbS hb3 hk hc2;go_wp2
   go_ret2
   exact hfin.out
 ·have hfin:PC2 (fun f=>f = s.f ∨ f = q.1.f) w A m q.1 (pLeft d q.2) q.2 (vcost A + vcost A + vcost A) (.returned (.tuple #[.int .i64 0,errno 7])) w2:=.inr ⟨m',f,rfl,hf,hdd,hst,hbS⟩;refine hid7 ?_ hfin hdd hst hm hbS hb3 hc2;clear hfin hdd hst hm hbS hb3 hc2;intro hfin hdd hst hm hbS hb3 hc2;clear hf;go_wp2
  go_ret2
  exact hfin.out
end Go.Proofs.YtjanpegbemepgaaGreat
/-
 The PINs: the counters set at once (the closure now).
-/
namespace Go.Proofs.YtjanpegbemepgaaGreat
open Go.RowKit
open Jn Vn
attribute [local go_sem] Oper.semAt_some
def NowBox (w:World) (A:VAt) (bo bu bp bd pb:Nat) (other:Nat) (ub:Bool) (id:Nat):Prop :=
 ∀ W,Mod A.S w W→(W.cell? ⟨bo,0,none⟩ = some (.int .i64 other)∧W.cell? ⟨bu,0,none⟩ = some (.bool ub)∧W.cell? ⟨bp,0,none⟩ = some (ptr pb)∧W.cell? ⟨bd,0,none⟩ = some (.int .i64 id))∧bo < W.heap.size∧bu < W.heap.size∧bp < W.heap.size∧bd < W.heap.size
theorem NowBox.mod {w w':World} {A:VAt} {bo bu bp bd pb other id:Nat} {ub:Bool} (h:NowBox w A bo bu bp bd pb other ub id) (hm:Mod A.S w w'):NowBox w' A bo bu bp bd pb other ub id:=fun W h1=>h W (hm.trans h1)
set_option maxHeartbeats 8000000 in
theorem pinNow1_ok {w:World} {pb bo bu bp bd:Nat} {A:VAt} {m:Mem} {s:VSt} {id other n:Nat} (hid:id≤8) (hn:n≤15) (ho:other≤15) {ub:Bool} (hp:PnAt w pb A.vb) (h:VRep w A m s) (hxn:s.l.length≤90000) (hrm:Room m (vcost A)) (hk:NowBox w A bo bu bp bd pb other ub id) :
  Calls Tryz.prog 81 #[.int .i64 n,ptr bo,ptr bu,ptr bp,ptr bd] w (VCall w A m s (pNow A.Z s id ub other n).1 (pNow A.Z s id ub other n).2 (vcost A)):=by
 have hN:=fun W v d (hm:Mod Nowhere w W) (hs:Src W v d) (hb:Bytes d) (hl:d.length≤2)=>vNow_ok (h.fresh hm) (by omega) ((24 + id:Nat):Int) hs hb (by omega) hrm;have e24:((24 + id:Nat):Int) = 24 + (id:Int):=by omega
 have a2:IntKind.i64.wrap (24 + (id:Int)) = 24 + (id:Int):=by rw [IntKind.wrap_i64];omega
 have a3:IntKind.u8.wrap (n:Int) = n:=by rw [IntKind.wrap_u8];omega
 have a4:IntKind.u8.wrap (other:Int) = other:=by rw [IntKind.wrap_u8];omega
 have kv:=Blk.cell hp 0;have lv:=Blk.lt hp;simp only [List.getElem?_cons_zero] at kv;have np:=hp.notS h;obtain ⟨⟨ko,ku,kp,kd⟩,lo,lu,lp,ld⟩:=hk w (Mod.refl _ _);have hsrc:=src2 w n other;have hm0:Mod Nowhere w (w.alloc (.cells #[.int .u8 (n:Int),.int .u8 (other:Int)] 5)):=(Mod.refl _ w).alloc _
 cases ub
 ·have hN1:=fun W (hm:Mod Nowhere (w.alloc (.cells #[.int .u8 (n:Int),.int .u8 (other:Int)] 5)) W)=>hN W _ [n,other] (hm0.trans hm) (hsrc.fresh hm) (bytes2 hn ho) (Nat.le_refl _);unfold pNow;rw [if_neg (by decide)];obtain ⟨q,hq⟩:∃ q,vNow A.Z s ((24 + id:Nat):Int) [n,other] = q:=⟨_,rfl⟩;simp only [hq] at hN1;rw [hq];rw [e24] at hN1;refine hid9 ?_ hN hN1 h hp hsrc hm0 hq e24 hk;clear hN hN1 h hp hsrc hm0 hq e24 hk;intro hN hN1 h hp hsrc hm0 hq e24 hk;go_enter Tryz.func81,Tryz.ntmps81;go_wp2
  go_region_held3 (fun w'=>w'.cell? ⟨bp,0,none⟩ = some (ptr pb)∧w'.cell? ⟨pb,0,none⟩ = some (ptr A.vb)∧w'.cell? ⟨bd,0,none⟩ = some (.int .i64 id)) (simp [*,World.cell?_alloc_some,World.cell?_setCell_far,World.cell?_setCell_other])
   (first | (go_at_call 82;(with_reducible refine (hN1.out _ ((Mod.refl _ _).drew)).mono ?_);rintro e w2 hc;obtain ⟨ne,rfl⟩:=hc.errno;have hb2:Mod A.S w w2:=(hm0.out.nowhere.trans ((Mod.refl A.S _).drew)).trans hc.modS;have hfin:=hc.from (((hm0.out.nowhere).drew):Mod A.S w _);obtain ⟨⟨ko,ku,kp,kd⟩,lo,lu,lp,ld⟩:=hk.out w2 hb2;have kv:=Blk.cell (Blk.mod hp.out hb2 np) 0;(simp only [List.getElem?_cons_zero] at kv);clear hc;replace hfin:=Lib.hid hfin;replace hb2:=Lib.hid hb2) | fail)
  go_wp2;go_ret;exact hfin.out
 ·have hsrc2:=(src2 w other n).fresh ((Mod.refl Nowhere _).drew);have hmA:Mod Nowhere w (w.alloc (.cells #[.int .u8 (other:Int),.int .u8 (n:Int)] 5)).drew:=((Mod.refl _ w).alloc _).drew;have hN1:=fun W (hm:Mod Nowhere (w.alloc (.cells #[.int .u8 (other:Int),.int .u8 (n:Int)] 5)).drew W)=>hN W _ [other,n] (hmA.trans hm) (hsrc2.fresh hm) (bytes2 ho hn) (Nat.le_refl _);obtain ⟨⟨jo,ju,jp,jd⟩,mo,mu,mp,md⟩:=hk _ hmA.nowhere;have jv:=Blk.cell (Blk.mod hp hmA (fun e=>e)) 0;have mv:=Blk.lt (Blk.mod hp hmA (fun e=>e));simp only [List.getElem?_cons_zero] at jv;unfold pNow;rw [if_pos rfl]
  obtain ⟨q,hq⟩:∃ q,vNow A.Z s ((24 + id:Nat):Int) [other,n] = q:=⟨_,rfl⟩;simp only [hq] at hN1;rw [hq];rw [e24] at hN1;refine hid10 ?_ hN h hp hsrc hm0 hq e24 hk hN1 hsrc2;clear hN h hp hsrc hm0 hq e24 hk hN1 hsrc2;intro hN h hp hsrc hm0 hq e24 hk hN1 hsrc2;obtain ⟨W,hW⟩:∃ W,(w.alloc (.cells #[.int .u8 (other:Int),.int .u8 (n:Int)] 5)).drew = W:=⟨_,rfl⟩;rw [hW] at hmA hN1 jo ju jp jd jv mo mu mp md;refine hid2 ?_ hW hmA;clear hW hmA;intro hW hmA;go_enter Tryz.func81,Tryz.ntmps81;go_wp2
  go_region
  rw [hW.out];clear ko ku kp kd lo lu lp ld kv lv;go_wp2
  go_region_held3 (fun w'=>w'.cell? ⟨bp,0,none⟩ = some (ptr pb)∧w'.cell? ⟨pb,0,none⟩ = some (ptr A.vb)∧w'.cell? ⟨bd,0,none⟩ = some (.int .i64 id)) (simp [*,World.cell?_alloc_some,World.cell?_setCell_far,World.cell?_setCell_other])
   (first | (go_at_call 82;(with_reducible refine (hN1.out _ ((Mod.refl _ _).drew)).mono ?_);rintro e w2 hc;obtain ⟨ne,rfl⟩:=hc.errno;have hb2:Mod A.S w w2:=(hmA.out.nowhere.trans ((Mod.refl A.S _).drew)).trans hc.modS;have hfin:=hc.from (((hmA.out.nowhere).drew):Mod A.S w _);obtain ⟨⟨ko,ku,kp,kd⟩,lo,lu,lp,ld⟩:=hk.out w2 hb2;have kv:=Blk.cell (Blk.mod hp.out hb2 np) 0;(simp only [List.getElem?_cons_zero] at kv);clear hc;replace hfin:=Lib.hid hfin;replace hb2:=Lib.hid hb2) | fail)
  go_wp2;go_ret;exact hfin.out
end Go.Proofs.YtjanpegbemepgaaGreat
/-
 The PINs: a vault stays where a box of a number is written.
-/
namespace Go.Proofs.YtjanpegbemepgaaGreat
open Go.RowKit
open Jn Vn
attribute [local go_sem] Oper.semAt_some
theorem PInv.free_len {D:Nat→Nat} {p:PSt} {W:Nat} {pc:Nat→List Nat} (h:PInv D p W pc):p.frames≤p.freed.length + p.count:=by
 have hsub:List.range p.frames ⊆ p.freed ++ (List.range p.frames).filter fun f=>decide (p.holds.getD f 0 ≠ -1):=by
  intro f hf;have hf':=List.mem_range.1 hf;rw [List.mem_append];by_cases e:p.holds.getD f 0 = -1
  ·exact .inl ((h.free f).2 ⟨hf',e⟩)
  ·exact .inr (List.mem_filter.2 ⟨hf,by simpa using e⟩)
 have h1:=List.nodup_range.length_le_of_subset hsub;rw [List.length_append,List.length_range] at h1
 have h2:((List.range p.frames).filter fun f=>decide (p.holds.getD f 0 ≠ -1)).length≤p.count:=by
  have hn:(((List.range p.frames).filter fun f=>decide (p.holds.getD f 0 ≠ -1)).map fun f=>(p.holds.getD f 0).toNat).Nodup:=by
   refine List.pairwise_map.2 ((List.nodup_range.filter _).imp_of_mem fun {a b} ha hb hne e=>hne ?_);have ha1:=List.mem_range.1 (List.mem_filter.1 ha).1;have hb1:=List.mem_range.1 (List.mem_filter.1 hb).1;have ha2:p.holds.getD a 0 ≠ -1:=by simpa using (List.mem_filter.1 ha).2
   have hb2:p.holds.getD b 0 ≠ -1:=by simpa using (List.mem_filter.1 hb).2
   rcases h.holds a ha1 with ⟨q,-⟩ | ⟨i,hi,q1,q2⟩
   ·exact (ha2 q).elim
   ·rcases h.holds b hb1 with ⟨q,-⟩ | ⟨j,hj,r1,r2⟩
    ·exact (hb2 q).elim
    ·rw [q1,r1] at e;have:i = j:=by omega
     rw [this,r2] at q2;omega
  have hs:(((List.range p.frames).filter fun f=>decide (p.holds.getD f 0 ≠ -1)).map fun f=>(p.holds.getD f 0).toNat) ⊆ List.range p.count:=by
   intro x hx;obtain ⟨f,hf,rfl⟩:=List.mem_map.1 hx;have hf1:=List.mem_range.1 (List.mem_filter.1 hf).1;have hf2:p.holds.getD f 0 ≠ -1:=by simpa using (List.mem_filter.1 hf).2
   rcases h.holds f hf1 with ⟨q,-⟩ | ⟨i,hi,q1,-⟩
   ·exact (hf2 q).elim
   ·rw [q1,List.mem_range];omega
  have:=hn.length_le_of_subset hs;simpa using this
 omega
theorem VRep.keepI {w w':World} {A:VAt} {m:Mem} {s:VSt} {b:Nat} {x:Value} (h:VRep w A m s) (hA:A.count + 2≤A.frames) (hm:Mod (fun k=>k = b) w w') (hb:Blk w b [x] 3) (hn:¬ A.S b):VRep w' A m s:=by
 obtain ⟨P,p,pc,J,bank,end_,ib,lv,xs,h⟩:=h.ex;have hsh:∀ U,3 ≠ U→Shun (fun k=>k = b) w U:=fun U hU k e cs' hb'=>hU (by rw [e] at hb';exact (hb.inj hb').2)
 have hj:∀ k,(k = A.jb ∨ P.S k ∨ A.M.S k)→¬ k = b:=by
  rintro k (e | e) ev
  ·rw [ev] at e;have hbj:=h.jr.bj;rw [← e] at hbj;exact absurd (hb.inj hbj).2 (by decide)
  ·have hJ:A.J k:=by rw [← h.of.J];exact e
   exact hn (ev ▸ .inr hJ)
 have hbv:¬ A.vb = b:=fun e=>hn (e ▸ .inl rfl)
 have hfr:Off (fun k=>k = b) P.fv:=by
  intro k hk e;have hk':k = b:=e;subst hk';have hl:=PInv.free_len h.jr.pg.inv;rw [h.of.count,h.of.frames] at hl;rcases h.jr.pg.rep.bf.2 with ⟨hv,-⟩ | ⟨b2,off,cap,cs,hv,hb2,h1,h2,h3,h4⟩
  ·rw [hv] at hk;cases hk
  ·rw [hv] at hk;have hk2:some b2 = some k:=hk
   cases hk2
   have:=(hb.inj hb2).1;rw [← this] at h3;simp only [List.length_cons,List.length_nil] at h3;omega
 exact ⟨⟨P,p,pc,J,bank,end_,ib,lv,xs,⟨h.jr.keep hm hj hfr,h.of,h.st,h.bk,h.bv.mod hm hbv,h.im.mod hm (fun e=>by
  rw [← e] at hb
  exact h.im.noCells hb) (hsh _ (by decide)),h.ls.mod hm (hsh _ (by decide)) (hsh _ (by decide)),h.xl,h.ok,h.idle⟩⟩⟩
end Go.Proofs.YtjanpegbemepgaaGreat
/-
 The PINs: a vault that has died, as the guesses leave it.
-/
namespace Go.Proofs.YtjanpegbemepgaaGreat
open Go.RowKit
open Jn Vn
attribute [local go_sem] Oper.semAt_some
structure PGone (w:World) (A:VAt) (m:Mem) (f:Items):Prop where
 ex:∃ P p,VStub w A m P p∧alive m p = false∧A.Of P p
 vm:VMem m A.count A.frames f
theorem PGone.of {w:World} {A:VAt} {m:Mem} {f:Items} (h:VDead w A m f):PGone w A m f:=by
 refine ⟨?_,h.vmem⟩;obtain ⟨P,p,pc,J,bank,end_,hP,hO,_⟩:=h.ex;obtain ⟨b,e,ib,act,lv,hbv⟩:=h.bv;refine ⟨P,p,⟨hbv.cell 0,⟨by rw [hO.pb];exact h.bj,hP.bp⟩,h.mem⟩,?_,hO⟩;unfold alive;rw [hO.cuts];rcases h.off with e | e
 ·rw [e];rfl
 ·have:(m.cuts == A.cuts) = false:=by simpa using e
  rw [this];simp
theorem PGone.fresh {w w':World} {A:VAt} {m:Mem} {f:Items} (h:PGone w A m f) (hm:Mod Nowhere w w'):PGone w' A m f:=by
 obtain ⟨⟨P,p,h1,h2,h3⟩,h4⟩:=h;exact ⟨⟨P,p,h1.mod hm,h2,h3⟩,h4⟩
theorem PGone.keep {w w':World} {A:VAt} {m:Mem} {f:Items} {b:Nat} {cs:List Value} {T:TypeId} (h:PGone w A m f) (hm:Mod (fun k=>k = b) w w') (hb:Blk w b cs T) (hT:T ≠ 150) (hn:¬ A.S b):PGone w' A m f:=by
 obtain ⟨⟨P,p,h1,h2,h3⟩,h4⟩:=h;have hvb:¬ A.vb = b:=fun e=>hn (e ▸ .inl rfl)
 have hjb:¬ A.jb = b:=fun e=>by
  have hbj:=h1.jb.bj;rw [e] at hbj;exact hT (hb.inj hbj).2
 have hpb:¬ P.pb = b:=fun e=>hn (by rw [← e,h3.pb];exact .inr (.inl (.inl rfl)))
 exact ⟨⟨P,p,⟨(hm.cell (p:=⟨A.vb,0,none⟩) (cell_lt' h1.cell) hvb).trans h1.cell,⟨h1.jb.bj.mod hm hjb,h1.jb.bp.mod hm hpb⟩,h1.mem.mod hm fun k hk e=>by
  have e:k = b:=e
  exact hn (e ▸ .inr (.inr hk))⟩,h2,h3⟩,h4⟩
theorem Shut.gone {w:World} {A:VAt} {m:Mem} {f:Items} (h:PGone w A m f):Shut w (ptr A.vb) 7 (fun id n=>if validB id n = true then 7 else 1):=by
 obtain ⟨P,p,hs,ha,-⟩:=h.ex;refine ⟨fun W hm=>?_,fun W hm id a n c hn=>?_,fun W hm=>?_,.inl rfl,fun id n=>?_⟩
 ·have hR:=vReady_ok (hs.mod hm);rw [ha] at hR;exact hR.mono fun e w' ⟨h1,k,h2⟩=>⟨h1,by rw [h2];exact (Mod.refl Nowhere W).drewN k⟩
 ·have hR:=vBegun_ok (hs.mod hm) id a n c hn;rw [ha] at hR;exact hR.mono fun e w' ⟨h1,k,h2⟩=>⟨by rw [h1];cases validB id n <;> rfl,by rw [h2];exact (Mod.refl Nowhere W).drewN k⟩
 ·have hR:=vAlive_ok (hs.mod hm);rw [ha] at hR;exact hR.mono fun e w' ⟨h1,k,h2⟩=>⟨h1,by rw [h2];exact (Mod.refl Nowhere W).drewN k⟩
 ·cases validB id n <;> simp
def NowPost (w:World) (A:VAt) (m:Mem) (s s':VSt) (er n:Nat) (ne:Int) (w':World):Prop :=
 (∃ m' k,ne = er∧VRep w' A m' s'∧k≤n∧Runs m m' k) ∨ (∃ m' f,ne = 7∧(f = s.f ∨ f = s'.f)∧PGone w' A m' f∧Stopped m m' n)
theorem NowPost.of {w w':World} {A:VAt} {m:Mem} {s s':VSt} {er n:Nat} {ne:Int} (h:VCall w A m s s' er n (.returned (errno ne)) w'):NowPost w A m s s' er n ne w':=by
 rcases h with ⟨m',k,a,b,c,d,-⟩ | ⟨m',f,a,b,c,d,-⟩
 ·exact .inl ⟨m',k,errno_inj a,b,c,d⟩
 ·exact .inr ⟨m',f,errno_inj a,b,PGone.of c,d⟩
end Go.Proofs.YtjanpegbemepgaaGreat
/-
 bytes.Equal, of any slices.
-/
namespace Go.Proofs.YtjanpegbemepgaaGreat
open Go.RowKit
open Jn Vn
attribute [local go_sem] Oper.semAt_some
theorem Src.string {w:World} {v:Value} {d:List Nat} (h:Src w v d):(convert 31 9 v).run Tryz.prog w = .ok (.string (strOfNums (d.map fun x:Nat=>(x:Int)))) w:=by
 obtain ⟨a,c,rfl,-,-,h3⟩:=h;refine Go.Lib.BytesIn.convert (P:=Tryz.prog) (xs:=d.map fun x:Nat=>(x:Int)) ?_ (by simp) c 31 5 9 Tryz.underlying31 Tryz.underlying5 Tryz.underlying9;intro h0;obtain ⟨b,off,e,hb,hc⟩:=h3 h0;refine ⟨b,off,e,fun i hi=>?_⟩;rw [hc i hi]
 congr 2
 rw [List.getD_eq_getElem?_getD,List.getD_eq_getElem?_getD,List.getElem?_map,List.getElem?_eq_getElem hi]
 rfl
theorem bytes_back {a:List Nat} (ha:Bytes a):((Lib.bytesOf (a.map fun x:Nat=>(x:Int))).map fun x=>x.toNat) = a:=by
 unfold Lib.bytesOf;rw [List.map_map,List.map_map]
 apply List.ext_getElem
 ·simp
 ·intro i h1 h2;have:=ha i;rw [List.getD_eq_getElem?_getD,List.getElem?_eq_getElem h2] at this;simp only [Option.getD_some] at this;simp only [List.getElem_map,Function.comp_apply,Int.toNat_natCast];rw [UInt8.toNat_ofNat'];omega
theorem strOf_eq {a b:List Nat} (ha:Bytes a) (hb:Bytes b):((strOfNums (a.map fun x:Nat=>(x:Int))).toList == (strOfNums (b.map fun x:Nat=>(x:Int))).toList) = decide (a = b):=by
 rw [Lib.strOfNums_toList,Lib.strOfNums_toList];by_cases e:a = b
 ·subst e;simp
 ·rw [decide_eq_false e,beq_eq_false_iff_ne];intro h;have:=congrArg (fun l=>l.map fun x:UInt8=>x.toNat) h;simp only [bytes_back ha,bytes_back hb] at this;exact e this
set_option maxHeartbeats 2000000 in
theorem bEqual_ok {w:World} {u v:Value} {g d:List Nat} (hu:Src w u g) (hv:Src w v d) (bg:Bytes g) (bd:Bytes d) :
  Calls Tryz.prog 85 #[u,v] w fun e w'=>e = .returned (.bool (decide (g = d)))∧Mod Nowhere w w':=by
 have h1:=hu.string;have h2:=hv.string;have h3:=strOf_eq bg bd;generalize strOfNums (g.map fun x:Nat=>(x:Int)) = s1 at *;generalize strOfNums (d.map fun x:Nat=>(x:Int)) = s2 at *;obtain ⟨xa,xc,rfl,-,-,-⟩:=hu;obtain ⟨ya,yc,rfl,-,-,-⟩:=hv;replace h3:=Lib.hid h3;go_enter Tryz.func85,Tryz.ntmps85;go_wp2;go_ret;exact ⟨ret_bool h3.out,Mod.refl _ _⟩
end Go.Proofs.YtjanpegbemepgaaGreat
/-
 The PINs: what a guess defers (a right value restores the counter).
-/
namespace Go.Proofs.YtjanpegbemepgaaGreat
open Go.RowKit
open Jn Vn
attribute [local go_sem] Oper.semAt_some
theorem NowPost.setE {w0 w w':World} {A:VAt} {m:Mem} {s s':VSt} {er n b:Nat} {ne:Int} {cs:List Value} (h:NowPost w0 A m s s' er n ne w) (hm:Mod (fun k=>k = b) w w') (hb:Blk w b cs 32) (hn:¬ A.S b):NowPost w0 A m s s' er n ne w':=by
 rcases h with ⟨m',k,a,hv,c,d⟩ | ⟨m',f,a,hf,c,d⟩
 ·exact .inl ⟨m',k,a,hv.keepB hm hb (by decide),c,d⟩
 ·exact .inr ⟨m',f,a,hf,c.keep hm hb (by decide) hn,d⟩
theorem NowPost.setI {w0 w w':World} {A:VAt} {m:Mem} {s s':VSt} {er n b:Nat} {ne:Int} {x:Value} (h:NowPost w0 A m s s' er n ne w) (hA:A.count + 2≤A.frames) (hm:Mod (fun k=>k = b) w w') (hb:Blk w b [x] 3) (hn:¬ A.S b):NowPost w0 A m s s' er n ne w':=by
 rcases h with ⟨m',k,a,hv,c,d⟩ | ⟨m',f,a,hf,c,d⟩
 ·exact .inl ⟨m',k,a,hv.keepI hA hm hb hn,c,d⟩
 ·exact .inr ⟨m',f,a,hf,c.keep hm hb (by decide) hn,d⟩
set_option maxHeartbeats 2000000 in
theorem pinG2_no {w:World} {u:FrameMode} {br bf bl be b8:Nat} (kr:w.cell? ⟨br,0,none⟩ = some (.bool false)) (lr:br < w.heap.size) :
  CallsD Tryz.prog 84 #[ptr br,ptr bf,ptr bl,ptr be,ptr b8] u w fun e u' w'=>u' = u∧(e = .returned (.tuple #[])∧Mod Nowhere w w'):=by
 go_enter_d Tryz.func84,Tryz.ntmps84
 go_wp2;refine bodyPost_ret (results_none rfl _ _ _) rfl ?_;exact ⟨rfl,Mod.refl _ _⟩
def GS (A:VAt) (be b8:Nat):Nat→Prop:=fun k=>A.S k ∨ k = be ∨ k = b8
set_option maxHeartbeats 8000000 in
theorem pinG2_yes {w:World} {u:FrameMode} {pb bo bu bp bd br bf bl be b8:Nat} {A:VAt} {m:Mem} {s:VSt} {id other lim:Nat} (hid:id≤8) (hl:lim≤15) (ho:other≤15) {ub:Bool} (hA:A.count + 2≤A.frames) (hp:PnAt w pb A.vb) (h:VRep w A m s) (hxn:s.l.length≤90000) (hrm:Room m (vcost A))
  (hk:NowBox w A bo bu bp bd pb other ub id) (kr:w.cell? ⟨br,0,none⟩ = some (.bool true)) (lr:br < w.heap.size) (kf:w.cell? ⟨bf,0,none⟩ = some (.func (.func 81) #[] #[ptr bo,ptr bu,ptr bp,ptr bd])) (lf:bf < w.heap.size) (kl:w.cell? ⟨bl,0,none⟩ = some (.int .i64 lim)) (ll:bl < w.heap.size)
  {x y:Int} (he:Blk w be [errno x] 32) (h8:Blk w b8 [.int .i64 y] 3) (ne:¬ A.S be) (n8:¬ A.S b8) :
  CallsD Tryz.prog 84 #[ptr br,ptr bf,ptr bl,ptr be,ptr b8] u w fun e u' w'=>u' = u∧(e = .returned (.tuple #[])∧∃ q:Int,NowPost w A m s (pNow A.Z s id ub other lim).1 (pNow A.Z s id ub other lim).2 (vcost A) q w'∧Blk w' be [errno q] 32∧Blk w' b8 [.int .i64 (if q = 0 then y else 0)] 3∧Mod (GS A be b8) w w'):=by
 have hN:=pinNow1_ok hid hl ho hp h hxn hrm hk;obtain ⟨r,hr⟩:∃ r,pNow A.Z s id ub other lim = r:=⟨_,rfl⟩;rw [hr] at hN ⊢;have hne8:be ≠ b8:=fun e=>by rw [e] at he;exact absurd (he.inj h8).2 (by decide)
 refine hid7 ?_ hN hr h hp hk he h8;clear hN hr h hp hk he h8;intro hN hr h hp hk he h8
 go_enter_d Tryz.func84,Tryz.ntmps84
 go_wp2_with fail;refine hN.out.mono ?_;rintro e w1 hc;obtain ⟨q,rfl⟩:=hc.errno;have hmS:=hc.modS;have hpost:=NowPost.of hc;have he1:=he.out.mod hmS ne;have h81:=h8.out.mod hmS n8;have c1:=he1.cell 0;have c8:=h81.cell 0;simp only [List.getElem?_cons_zero] at c1 c8;have f1:=he1.frozen;have f8:=h81.frozen;have l1:=he1.lt;have l8:=h81.lt;have m2:Mod (fun k=>k = be) w1 (w1.setCell ⟨be,0,none⟩ (errno q)):=(Mod.refl (fun k=>k = be) w1).setCell (p:=⟨be,0,none⟩) (fun _=>rfl) _;have he2:Blk (w1.setCell ⟨be,0,none⟩ (errno q)) be [errno q] 32:=he1.setCell 0 (errno q);have h82:=h81.mod m2 (fun e=>hne8 e.symm)
 have hp2:=hpost.setE m2 he1 ne;have mG:Mod (GS A be b8) w (w1.setCell ⟨be,0,none⟩ (errno q)):=(hmS.mono fun _ _ e=>.inl e).trans (m2.mono fun _ _ e=>.inr (.inl e));by_cases h0:q = 0
 ·subst h0;refine hid10 ?_ hc hmS hpost he1 h81 m2 he2 h82 hp2 mG;clear hc hmS hpost he1 h81 m2 he2 h82 hp2 mG;intro hc hmS hpost he1 h81 m2 he2 h82 hp2 mG;go_wp2;refine bodyPost_end (results_none rfl _ _ _) rfl ?_;exact ⟨rfl,0,hp2.out,he2.out,h82.out,mG.out⟩
 ·have hz:(q != 0) = true:=by simpa using h0
  have m3:Mod (fun k=>k = b8) (w1.setCell ⟨be,0,none⟩ (errno q)) ((w1.setCell ⟨be,0,none⟩ (errno q)).setCell ⟨b8,0,none⟩ (.int .i64 0)):=(Mod.refl (fun k=>k = b8) _).setCell (p:=⟨b8,0,none⟩) (fun _=>rfl) _;have h83:Blk ((w1.setCell ⟨be,0,none⟩ (errno q)).setCell ⟨b8,0,none⟩ (.int .i64 0)) b8 [.int .i64 0] 3:=h82.setCell 0 (.int .i64 0);have he3:=he2.mod m3 (fun e=>hne8 e);have hp3:=hp2.setI hA m3 h82 n8;have mG3:Mod (GS A be b8) w ((w1.setCell ⟨be,0,none⟩ (errno q)).setCell ⟨b8,0,none⟩ (.int .i64 0)):=mG.trans (m3.mono fun _ _ e=>.inr (.inr e));refine hid12 ?_ hc hmS hpost he1 h81 m2 he2 h82 hp2 mG m3 h83;clear hc hmS hpost he1 h81 m2 he2 h82 hp2 mG m3 h83;intro hc hmS hpost he1 h81 m2 he2 h82 hp2 mG m3 h83;refine hid3 ?_ he3 hp3 mG3;clear he3 hp3 mG3;intro he3 hp3 mG3
  go_wp2;refine bodyPost_end (results_none rfl _ _ _) rfl ?_;exact ⟨rfl,q,hp3.out,he3.out,by rw [if_neg h0];exact h83.out,mG3.out⟩
end Go.Proofs.YtjanpegbemepgaaGreat
