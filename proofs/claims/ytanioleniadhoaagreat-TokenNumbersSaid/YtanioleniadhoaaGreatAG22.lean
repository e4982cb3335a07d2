/-
  The order of the free frames: they are sorted by their wear.
-/
import Derived.Test.YtanioleniadhoaaGreatALaysB
import Derived.Test.YtanioleniadhoaaGreatAG06
set_option linter.unusedVariables false
set_option linter.unusedSimpArgs false
set_option maxHeartbeats 2000000
set_option maxRecDepth 100000
namespace Go.Proofs.YtanioleniadhoaaGreat
open Go.RowKit Go.Shelf Go.Sort
theorem sortWorld_mod {α:Type} [Inhabited α] (enc:α→Value) (w:World) (blk off m:Nat) (dk:Array α) (os:Array Obj):Mod (Only blk) w (sortWorld enc w blk off m dk os):=by
 refine ⟨rfl,rfl,rfl,?_,fun k hk hn=>?_⟩
 ·show w.heap.size≤(_ ++ os:Array Obj).size
  simp [putRow,mapBlock,Sort.ahead]
 ·show ((putRow enc (Sort.ahead w m) blk off dk).heap ++ os)[k]? = _
  have hk2:k < (putRow enc (Sort.ahead w m) blk off dk).heap.size:=by simpa [putRow,mapBlock,Sort.ahead] using hk
  rw [Array.getElem?_append,if_pos hk2]
  show (w.heap.modify blk _)[k]? = _
  rw [Array.getElem?_modify,if_neg (fun e=>hn (show k = blk from e.symm))]
theorem sortWorld_blk {α:Type} [Inhabited α] (enc:α→Value) {w:World} {blk:Nat} {cs:List Value} {T:TypeId} (hb:Blk w blk cs T) (m:Nat) (dk:Array α) (os:Array Obj) (hl:dk.size≤cs.length) :
  Blk (sortWorld enc w blk 0 m dk os) blk (dk.toList.map enc ++ cs.drop dk.size) T:=by
 have hlt:blk < w.heap.size:=hb.lt;unfold Blk
 show ((putRow enc (Sort.ahead w m) blk 0 dk).heap ++ os)[blk]? = _
 have hk2:blk < (putRow enc (Sort.ahead w m) blk 0 dk).heap.size:=by simpa [putRow,mapBlock,Sort.ahead] using hlt
 rw [Array.getElem?_append,if_pos hk2]
 show (w.heap.modify blk _)[blk]? = _
 have hb':w.heap[blk]? = some (.cells cs.toArray T (0,0)):=hb;rw [Array.getElem?_modify,if_pos rfl,hb']
 show some (Obj.cells (putCells enc 0 dk cs.toArray) T (0,0)) = _
 congr 2
 apply Array.ext
 ·simp [putCells];omega
 ·intro i h1 h2;simp only [putCells,Array.getElem_mapIdx,List.getElem_toArray,Nat.zero_add,Nat.sub_zero,Nat.zero_le,true_and];by_cases hi:i < dk.size
  ·rw [if_pos hi,List.getElem_append_left (by simpa using hi)];simp [getElem!_pos,hi]
  ·rw [if_neg hi,List.getElem_append_right (by simp;omega)];simp
   congr 1
   omega
theorem pWear_ok {w:World} {M:MemAt} {m:Mem} {P:PAt} {p:PSt} (hR:MemRep w M m) (hb:PBlk w M P p) (f:Nat) (hf:f≤65536) (ha:f * 20 + 19 < m.size) :
  Calls Tryz.prog 234 #[ptr P.pb,.int .i64 f] w fun e w'=>e = .returned (.int .i64 (m.wear.getD (f * 20 + 19) 0:Nat))∧w = w':=by
 have h0:=hb.f0;have hW:=Wear_ok hR (f * 20 + 19) ha;have e:((f * 20 + 19:Nat):Int) = (f:Int) * 20 + 19:=by omega
 rw [e] at hW;clear hR hb;replace hW:=Lib.hid hW;generalize m.wear.getD (f * 20 + 19) 0 = x at hW ⊢;go_enter Tryz.func234,Tryz.ntmps234
 go_wp2_with (go_at_call 277;refine hW.out.mono ?_;rintro e w1 ⟨rfl,rfl⟩)
 go_ret;exact ⟨rfl,rfl⟩
def fwear (m:Mem) (f:Nat):Nat:=m.wear.getD (f * 20 + 19) 0
theorem pCmp_ok {w:World} {M:MemAt} {m:Mem} {P:PAt} {p:PSt} {Bx:Nat} (hR:MemRep w M m) (hb:PBlk w M P p) (hx:w.cell? ⟨Bx,0,none⟩ = some (ptr P.pb)) (a b:Nat) (ha:a * 20 + 19 < m.size) (hb2:b * 20 + 19 < m.size) :
  Calls Tryz.prog 233 #[.int .i64 a,.int .i64 b,.pointer (some ⟨Bx,0,none⟩)] w fun e w'=>e = .returned (.int .i64 ((fwear m a:Int) - fwear m b))∧∃ q,w' = w.drewN q:=by
 have hle:=hR.ok.le;have hs:m.size≤65536:=hle;have hwl:∀ i,m.wear.getD i 0≤1099511627776:=fun i=>Nat.le_trans (hR.ok.wearLe i) hR.ok.writes40;have h1:=fun n=>quiet_world (pWear_ok (hR.drewN n) (hb.mod ((Mod.refl Nowhere w).drewN n) id) a (by omega) ha);have h2:=fun n=>quiet_world (pWear_ok (hR.drewN n) (hb.mod ((Mod.refl Nowhere w).drewN n) id) b (by omega) hb2);have l1:=hwl (a * 20 + 19);have l2:=hwl (b * 20 + 19);unfold fwear;generalize m.wear.getD (a * 20 + 19) 0 = x at h1 l1 ⊢;generalize m.wear.getD (b * 20 + 19) 0 = y at h2 l2 ⊢;refine hid2 ?_ h1 h2;clear h1 h2;intro h1 h2
 clear hR hb hwl hle;go_enter Tryz.func233,Tryz.ntmps233;go_wp2_with fail
 go_quiet (first | (go_at_call 234;first | with_reducible exact Calls.quiet_of_same (h1.out _) | with_reducible exact Calls.quiet_of_same (h2.out _)))
 go_wp2;go_ret;exact ⟨rfl,nq,rfl⟩
def encF (N:Nat) (x:Nat):Value:=.int .i64 ((x % N:Nat):Int)
def cfF (m:Mem) (N:Nat) (x y:Nat):Int:=(fwear m (x % N):Int) - fwear m (y % N)
theorem cfF_swo (m:Mem) (N:Nat):SWO (ltOf (cfF m N)):=by
 refine ⟨fun x=>?_,fun x y z h1 h2=>?_,fun x y z h1 h2=>?_⟩
 ·simp [ltOf,cfF]
 ·have h1:(fwear m (x % N):Int) - fwear m (y % N) < 0:=of_decide_eq_true h1;have h2:(fwear m (y % N):Int) - fwear m (z % N) < 0:=of_decide_eq_true h2;exact decide_eq_true (show (fwear m (x % N):Int) - fwear m (z % N) < 0 by omega)
 ·have h1:¬ (fwear m (x % N):Int) - fwear m (y % N) < 0:=of_decide_eq_false h1;have h2:¬ (fwear m (y % N):Int) - fwear m (z % N) < 0:=of_decide_eq_false h2;exact decide_eq_false (show ¬ (fwear m (x % N):Int) - fwear m (z % N) < 0 by omega)
theorem encF_ints (N:Nat) (l:List Nat) (h:∀ x,x ∈ l→x < N):l.map (encF N) = ints l:=by
 unfold ints
 apply List.map_congr_left
 intro x hx;unfold encF;rw [Nat.mod_eq_of_lt (h x hx)]
theorem sortFree_ok {w:World} {M:MemAt} {m:Mem} {P:PAt} {p:PSt} {Bx fb cap N:Nat} {cs:List Value} {l:List Nat} (hR:MemRep w M m) (hb:PBlk w M P p) (hx:w.cell? ⟨Bx,0,none⟩ = some (ptr P.pb)) (hBx:Bx < w.heap.size)
  (hN:N * 20≤m.size) (hN0:0 < N) (hc:Blk w fb cs 3) (ht:cs.take l.length = ints l) (hl:∀ x,x ∈ l→x < N) (hl2:l.length≤65536) (h1:¬ M.S fb) (h2:P.pb ≠ fb) (h3:Bx ≠ fb) :
  Calls Tryz.prog 232 #[.slice (some ⟨fb,0,none⟩) l.length cap,.func (.func 233) #[] #[.pointer (some ⟨Bx,0,none⟩)]] w fun e w' =>
   e = .returned (.tuple #[])∧∃ l',l'.Perm l∧Blk w' fb (ints l' ++ cs.drop l.length) 3∧Mod (Only fb) w w':=by
 have hcl:l.length≤cs.length:=by
  have e:(cs.take l.length).length = (ints l).length:=by rw [ht]
  simp [ints] at e;omega
 have hcmp:CmpLays1 Tryz.prog 233 #[.pointer (some ⟨Bx,0,none⟩)] (encF N) (cfF m N) fb 0 l.toArray.size w:=by
  refine CmpReads.lays fun k os dk _ x y=>?_;have hm:=sortWorld_mod (encF N) w fb 0 k dk os
  exact pCmp_ok (hR.mod hm (fun j hj e=>h1 (by have e:j = fb:=e;rw [← e];exact hj))) (hb.mod hm (fun e=>h2 e)) ((hm.cell (p:=⟨Bx,0,none⟩) hBx (fun e=>h3 e)).trans hx) (x % N) (y % N)
   (by have:=Nat.mod_lt x hN0;omega) (by have:=Nat.mod_lt y hN0;omega)
 have hH:Sort.Holds (encF N) w fb 0 l.toArray:=by
  intro j hj;have hj':j < l.length:=by simpa using hj
  refine ⟨?_,hc.frozen _⟩;rw [hc.cell,Nat.zero_add];have e1:cs[j]? = (cs.take l.length)[j]?:=by rw [List.getElem?_take,if_pos hj']
  rw [e1,ht];simp [ints,encF,getElem!_pos,hj',Nat.mod_eq_of_lt (hl _ (List.getElem_mem hj'))]
 have hS:=Any.slices_SortFunc Tryz.laysSF (encF N) (fun _=>rfl) (cfF m N) (cfF_swo m N) 233 #[.pointer (some ⟨Bx,0,none⟩)] fb 0 cap l.toArray w (enters_of Tryz.func233 (by kernel_rfl) rfl) hcmp hH hc.lt (by simp;omega);rw [show l.toArray.size = l.length by simp] at hS;refine Calls.mono hS ?_;rintro e w' ⟨rfl,d',n,os,⟨hp1,_,hp3⟩,_,rfl⟩;have hsz:d'.size = l.length:=by rw [hp1];simp
 have hperm:d'.toList.Perm l:=by
  have e1:d'.extract 0 l.length = d':=by rw [← hsz];simp
  have e2:l.toArray.extract 0 l.length = l.toArray:=by simp
  rw [e1,e2] at hp3;exact hp3
 refine ⟨rfl,d'.toList,hperm,?_,sortWorld_mod _ _ _ _ _ _ _⟩;have:=sortWorld_blk (encF N) hc n d' os (by omega);rw [encF_ints N d'.toList (fun x hx=>hl x (hperm.mem_iff.1 hx)),hsz] at this;exact this
end Go.Proofs.YtanioleniadhoaaGreat
/-
 The walk over order.
-/
namespace Go.Proofs.YtanioleniadhoaaGreat
open Go.RowKit
def freeK (hs:List Int) (k:Nat):List Nat:=(List.range k).filter fun f=>hs.getD f 0 == -1
theorem freeK_succ (hs:List Int) (k:Nat):freeK hs (k + 1) = freeK hs k ++ (if hs.getD k 0 = -1 then [k] else []):=by
 unfold freeK;rw [List.range_succ,List.filter_append]
 congr 1
 by_cases h:hs.getD k 0 = -1
 ·rw [if_pos h];simp only [List.filter_cons,List.filter_nil];rw [h];rfl
 ·rw [if_neg h];have:(hs.getD k 0 == -1) = false:=by simpa using h
  simp only [List.filter_cons,List.filter_nil,this]
  rfl
theorem freeK_le (hs:List Int) (k:Nat):(freeK hs k).length≤k:=by
 have:=List.length_filter_le (fun f=>hs.getD f 0 == -1) (List.range k);rw [List.length_range] at this;exact this
theorem freeK_lt (hs:List Int) (k:Nat):∀ x,x ∈ freeK hs k→x < k:=fun x hx=>List.mem_range.1 (List.mem_filter.1 hx).1
theorem cell_lt {w:World} {b o:Nat} {v:Value} (h:w.cell? ⟨b,o,none⟩ = some v):b < w.heap.size:=by
 by_cases hb:b < w.heap.size
 ·exact hb
 ·simp [World.cell?,Array.getElem?_eq_none (Nat.le_of_not_lt hb)] at h
def OrderPost (w:World) (M:MemAt) (P:PAt) (p:PSt) (N:Nat) (e:Ending) (w':World):Prop :=
 ∃ g cap l t,e = .returned (.tuple #[])∧w.heap.size≤g∧l.Perm (freeK p.holds N)∧t < N∧PBlk w' M { P with fv:=.slice (some ⟨g,0,none⟩) l.length cap } { p with turn:=t }∧Sl w' (.slice (some ⟨g,0,none⟩) l.length cap) 3 1 l.length (ints l)∧Mod (Only P.pb) w w'
theorem order_ok {w:World} {M:MemAt} {m:Mem} {P:PAt} {p:PSt} {vb N:Nat} {vers:List Nat} (hR:MemRep w M m) (hb:PBlk w M P p) (hfv:P.fv = .slice none 0 0) (hh:Blk w P.hb (zs p.holds) 3) (hv:Blk w vb (ints vers) 3)
  (hN:p.frames = N) (hl:p.holds.length = N) (hvl:vers.length = N) (hN1:0 < N) (hN2:N≤65536) (hfit:N * 20≤m.size) (hfree:freeK p.holds N ≠ []) (d1:P.pb ≠ P.hb) (d2:P.pb ≠ vb) (dM:¬ M.S P.pb) :
  Calls Tryz.prog 171 #[ptr P.pb,.slice (some ⟨vb,0,none⟩) N N] w (OrderPost w M P p N):=by
 obtain ⟨i0,hi0,hz0,hz1,hz2⟩:=info_parts info_i64;have hpl:=hb.lt;have hhl:=hh.lt;have hvlt:=hv.lt;have hMlt:=hR.lt;have hwB:(w.alloc (.cells #[ptr P.pb] 173)).cell? ⟨w.heap.size,0,none⟩ = some (ptr P.pb):=(Blk.new w [ptr P.pb] 173).cell 0;have hwBl:(w.alloc (.cells #[ptr P.pb] 173)).heap.size = w.heap.size + 1:=by simp
 have hmB:Mod Nowhere w (w.alloc (.cells #[ptr P.pb] 173)):=(Mod.refl _ w).alloc _;obtain ⟨fx,hbx⟩:=hb;have hb7:w.cell? ⟨P.pb,7,none⟩ = some (.slice (some ⟨P.hb,0,none⟩) p.frames p.frames):=hbx.cell 7;rw [hN] at hb7;have hbz:=hbx.frozen;have hbA:=hbx.mod hmB id;have h0:Blk (w.alloc (.cells #[ptr P.pb] 173)) P.pb (pCells M { P with fv:=.slice none 0 0 } p fx) 246:=hbA.conv (by rw [← hfv]);have hmSz:=hmB.size;refine hid11 ?_ hbA h0 hwB hmB hfree hfv hR hMlt hwBl hbx hN;clear hbA h0 hwB hmB hfree hfv hR hMlt hwBl hbx hN;intro hbA h0 hwB hmB hfree hfv hR hMlt hwBl hbx hN
 go_enter Tryz.func171,Tryz.ntmps171;go_wp2
 go_loopg [4,11] N (fun gg nw q wr=>∃ (k c:Nat) (v:Value),k≤N∧gg + k = N∧q = .int .i64 k∧nw = .int .i64 c∧c < N∧wr.ownsRow (w.heap.size + 1) 3 1 v (freeK p.holds k).length (ints (freeK p.holds k))∧Blk wr P.pb (pCells M { P with fv:=v } p fx) 246∧wr.cell? ⟨w.heap.size,0,none⟩ = some (ptr P.pb)∧Mod (Only P.pb) w wr)
 case atStart=>exact ⟨0,0,.slice none 0 0,by omega,by omega,rfl,rfl,hN1,World.ownsRow_nil _ _ _ _,h0.out,hwB.out,hmB.out.nowhere⟩
 case round =>
  obtain ⟨k,c,v,hk,hgg,rfl,rfl,hc,hown,hbr,hbox,hm⟩:=hrel;have hhr:=hh.mod hm (fun e=>d1 (show P.hb = P.pb from e).symm);have hvr:=hv.mod hm (fun e=>d2 (show vb = P.pb from e).symm);have hrs:=hm.size;have r7:wr.cell? ⟨P.pb,7,none⟩ = some (.slice (some ⟨P.hb,0,none⟩) p.frames p.frames):=hbr.cell 7;rw [hN.out] at r7;have r8:wr.cell? ⟨P.pb,8,none⟩ = some v:=hbr.cell 8;have rz:=hbr.frozen;have rl:=hbr.lt;have bl:=cell_lt hbox;have vl:=hvr.lt;by_cases hlt:k < N
  ·have rk:=zs_cell hhr (i:=k) (by omega)
   have vc:∀ i,i < N→wr.cell? ⟨vb,i,none⟩ = some (.int .i64 (vers.getD i 0:Nat)):=by
    intro i hi;rw [hvr.cell];simp [ints,List.getElem?_map,List.getElem?_eq_getElem (show i < vers.length by omega),gd0]
   have v1:=vc k hlt;have v2:=vc c hc;have hfs:=freeK_succ p.holds k;have hfl:=freeK_le p.holds k;generalize vers.getD k 0 = vk at v1;generalize vers.getD c 0 = vcc at v2;generalize hfk1:freeK p.holds (k + 1) = fk1 at hfs;generalize hfk:freeK p.holds k = fk at hfs hown hfl;refine hid2 ?_ hfk hfk1;clear hfk hfk1;intro hfk hfk1;clear vc;generalize hhk:p.holds.getD k 0 = hk1 at rk hfs;replace hhk:=Lib.hid hhk;have hk63:fk.length + 1≤maxLen:=by unfold maxLen;omega
   have hk47:(fk.length + 1) * 8≤140737488355328:=by omega
   have hbA:w.heap.size + 1≤((wr.alloc (.cells #[Value.int .i64 (k:Int)] 3)).drew).heap.size:=by simp;omega
   replace hfs:=Lib.hid hfs
   go_upto_block 1 with (fail)
   go_cut [4] (fun nw w1=>∃ (c':Nat) (v':Value),nw = .int .i64 c'∧c' < N∧w1.ownsRow (w.heap.size + 1) 3 1 v' fk1.length (ints fk1)∧Blk w1 P.pb (pCells M { P with fv:=v' } p fx) 246∧w1.cell? ⟨w.heap.size,0,none⟩ = some (ptr P.pb)∧Mod (Only P.pb) w w1)
   case first =>
    by_cases h1:hk1 = -1
    ·subst h1;by_cases hgt:vcc < vk
     ·have hg:decide ((vcc:Int) < vk) = true:=by simpa using hgt
      go_wp2
      go_region_law (refine step_append_lies _ rfl (.tmp 26) (.tmp 28) 109 rfl (w.heap.size + 1) 3 i0 (.int .i64 0) 1 8 Tryz.underlying109 hi0 hz0 hz1 hz2 rfl (by decide) v fk.length _ rfl (hown.alloc _).drew ⟨wr.heap.size,0,none⟩ 1 1 [.int .i64 (k:Int)] rfl rfl (cell_one_new _ _ _) (by simp [Value.oneCell']) (by decide) hk63 hk47 hbA _ rfl ?_;intro g cap w1 hown1 hgrow hat hlt1;have hm1:Mod (Above (w.heap.size + 1)) wr w1:=(((Mod.refl _ wr).alloc _).drew).app (hown.alloc _).drew hgrow;have hb1:=hbr.mod hm1 (fun e=>by have e:w.heap.size + 1≤P.pb:=e;omega);have q8:w1.cell? ⟨P.pb,8,none⟩ = some v:=hb1.cell 8;have qz:=hb1.frozen;have ql:=hb1.lt;have qb:w1.cell? ⟨w.heap.size,0,none⟩ = some (ptr P.pb):=(hm1.cell (p:=⟨w.heap.size,0,none⟩) bl (fun e=>by have e:w.heap.size + 1≤w.heap.size:=e;omega)).trans hbox;have qv1:w1.cell? ⟨vb,k,none⟩ = some (.int .i64 (vk:Int)):=(hm1.cell (p:=⟨vb,k,none⟩) vl (fun e=>by have e:w.heap.size + 1≤vb:=e;omega)).trans v1;have qv2:w1.cell? ⟨vb,c,none⟩ = some (.int .i64 (vcc:Int)):=(hm1.cell (p:=⟨vb,c,none⟩) vl (fun e=>by have e:w.heap.size + 1≤vb:=e;omega)).trans v2;clear hat hgrow)
      all_goals
       have hb2:=hb1.setCell 8 (.slice (some ⟨g,0,none⟩) (fk.length + 1) cap);have hbx2:(w1.setCell ⟨P.pb,8,none⟩ (.slice (some ⟨g,0,none⟩) (fk.length + 1) cap)).cell? ⟨w.heap.size,0,none⟩ = some (ptr P.pb):=(((Mod.refl (Only P.pb) w1).setCell (fun _=>show Only P.pb P.pb from rfl) _).cell (p:=⟨w.heap.size,0,none⟩) (cell_lt qb) (fun e=>by have e:w.heap.size = P.pb:=e;omega)).trans qb;have hm2:Mod (Only P.pb) w (w1.setCell ⟨P.pb,8,none⟩ (.slice (some ⟨g,0,none⟩) (fk.length + 1) cap)):=(hm.above hm1 (by omega)).setCell (fun _=>show Only P.pb P.pb from rfl) _;have ho2:(w1.setCell ⟨P.pb,8,none⟩ (.slice (some ⟨g,0,none⟩) (fk.length + 1) cap)).ownsRow (w.heap.size + 1) 3 1 (.slice (some ⟨g,0,none⟩) (fk.length + 1) cap) (fk.length + 1) (ints fk ++ [.int .i64 (k:Int)]):=owns_mod hown1 ((Mod.refl (Only P.pb) w1).setCell (fun _=>show Only P.pb P.pb from rfl) _) (fun j hj e=>by have e:j = P.pb:=e;omega);refine hid2 ?_ hb2 ho2;clear hb2 ho2;intro hb2 ho2
       go_wp2
       go_region
       all_goals
        go_wp2;go_meet
        case rel =>
         have hfs':fk1 = fk ++ [k]:=by simpa using hfs.out
         exact ⟨k,.slice (some ⟨g,0,none⟩) (fk.length + 1) cap,rfl,by omega,by rw [hfs',ints_snoc,List.length_append];exact ho2.out.drew,hb2.out.drew.conv rfl,hbx2,hm2.drew⟩
     ·have hg:decide ((vcc:Int) < vk) = false:=by simpa using hgt
      go_wp2
      go_region_law (refine step_append_lies _ rfl (.tmp 26) (.tmp 28) 109 rfl (w.heap.size + 1) 3 i0 (.int .i64 0) 1 8 Tryz.underlying109 hi0 hz0 hz1 hz2 rfl (by decide) v fk.length _ rfl (hown.alloc _).drew ⟨wr.heap.size,0,none⟩ 1 1 [.int .i64 (k:Int)] rfl rfl (cell_one_new _ _ _) (by simp [Value.oneCell']) (by decide) hk63 hk47 hbA _ rfl ?_;intro g cap w1 hown1 hgrow hat hlt1;have hm1:Mod (Above (w.heap.size + 1)) wr w1:=(((Mod.refl _ wr).alloc _).drew).app (hown.alloc _).drew hgrow;have hb1:=hbr.mod hm1 (fun e=>by have e:w.heap.size + 1≤P.pb:=e;omega);have q8:w1.cell? ⟨P.pb,8,none⟩ = some v:=hb1.cell 8;have qz:=hb1.frozen;have ql:=hb1.lt;have qb:w1.cell? ⟨w.heap.size,0,none⟩ = some (ptr P.pb):=(hm1.cell (p:=⟨w.heap.size,0,none⟩) bl (fun e=>by have e:w.heap.size + 1≤w.heap.size:=e;omega)).trans hbox;have qv1:w1.cell? ⟨vb,k,none⟩ = some (.int .i64 (vk:Int)):=(hm1.cell (p:=⟨vb,k,none⟩) vl (fun e=>by have e:w.heap.size + 1≤vb:=e;omega)).trans v1;have qv2:w1.cell? ⟨vb,c,none⟩ = some (.int .i64 (vcc:Int)):=(hm1.cell (p:=⟨vb,c,none⟩) vl (fun e=>by have e:w.heap.size + 1≤vb:=e;omega)).trans v2;clear hat hgrow)
      all_goals
       have hb2:=hb1.setCell 8 (.slice (some ⟨g,0,none⟩) (fk.length + 1) cap);have hbx2:(w1.setCell ⟨P.pb,8,none⟩ (.slice (some ⟨g,0,none⟩) (fk.length + 1) cap)).cell? ⟨w.heap.size,0,none⟩ = some (ptr P.pb):=(((Mod.refl (Only P.pb) w1).setCell (fun _=>show Only P.pb P.pb from rfl) _).cell (p:=⟨w.heap.size,0,none⟩) (cell_lt qb) (fun e=>by have e:w.heap.size = P.pb:=e;omega)).trans qb;have hm2:Mod (Only P.pb) w (w1.setCell ⟨P.pb,8,none⟩ (.slice (some ⟨g,0,none⟩) (fk.length + 1) cap)):=(hm.above hm1 (by omega)).setCell (fun _=>show Only P.pb P.pb from rfl) _;have ho2:(w1.setCell ⟨P.pb,8,none⟩ (.slice (some ⟨g,0,none⟩) (fk.length + 1) cap)).ownsRow (w.heap.size + 1) 3 1 (.slice (some ⟨g,0,none⟩) (fk.length + 1) cap) (fk.length + 1) (ints fk ++ [.int .i64 (k:Int)]):=owns_mod hown1 ((Mod.refl (Only P.pb) w1).setCell (fun _=>show Only P.pb P.pb from rfl) _) (fun j hj e=>by have e:j = P.pb:=e;omega);refine hid2 ?_ hb2 ho2;clear hb2 ho2;intro hb2 ho2
       go_wp2
       go_region
       all_goals
        go_wp2;go_meet
        case rel =>
         have hfs':fk1 = fk ++ [k]:=by simpa using hfs.out
         exact ⟨c,.slice (some ⟨g,0,none⟩) (fk.length + 1) cap,rfl,by omega,by rw [hfs',ints_snoc,List.length_append];exact ho2.out.drew,hb2.out.drew.conv rfl,hbx2,hm2.drew⟩
    ·have h1b:(hk1 == -1) = false:=by simpa using h1
     by_cases hgt:vcc < vk
     ·have hg:decide ((vcc:Int) < vk) = true:=by simpa using hgt
      go_wp2
      go_region
      all_goals
       go_wp2;go_meet
       case rel =>
        have hfs':fk1 = fk:=by simpa [h1] using hfs.out
        exact ⟨k,v,rfl,by omega,by rw [hfs'];exact hown.drew,hbr.drew,hbox,hm.drew⟩
     ·have hg:decide ((vcc:Int) < vk) = false:=by simpa using hgt
      go_wp2
      go_region
      all_goals
       go_wp2;go_meet
       case rel =>
        have hfs':fk1 = fk:=by simpa [h1] using hfs.out
        exact ⟨c,v,rfl,by omega,by rw [hfs'];exact hown.drew,hbr.drew,hbox,hm.drew⟩
   case rest =>
    obtain ⟨c',v',rfl,hc',hown',hb',hbox',hm'⟩:=hcut;go_wp2
    go_roundg (N - (k + 1))
    case measure=>omega
    case rel=>exact ⟨k + 1,c',v',by omega,by omega,by go_num,rfl,hc',by rw [hfk1.out];exact hown',hb',hbox',hm'⟩
  ·obtain rfl:k = N:=by omega
   have hpos:0 < (freeK p.holds k).length:=by
    cases hq:freeK p.holds k with
    | nil=>exact (hfree.out hq).elim
    | cons _ _=>simp
   obtain ⟨g,cap,cs,rfl,hg3,hb3,hcp3,hcp3',hcl3,hct3⟩:=owns_open hown hpos;rw [Nat.mul_one] at hct3;have hfle:=freeK_le p.holds k;have hS:=sortFree_ok (cap:=cap) (hR.out.mod hm (fun j hj e=>dM (by have e:j = P.pb:=e;rw [← e];exact hj))) (P:={ P with fv:=.slice (some ⟨g,0,none⟩) (freeK p.holds k).length cap }) ⟨fx,hbr⟩ hbox bl hfit hN1 hb3 hct3 (freeK_lt p.holds k) (by omega) (fun e=>by have:=hMlt.out g e;omega) (by show P.pb ≠ g;omega) (by omega);generalize hfk:freeK p.holds k = fk at hS hpos hfle;replace hS:=Lib.hid hS
   have hrem:Int.tmod ((c:Int) + 1) (k:Int) = (((c + 1) % k:Nat):Int):=by
    rw [Int.tmod_eq_emod_of_nonneg (by omega)];push_cast;rfl
   have hb0:((k:Int) == 0) = false:=by
    have:¬ ((k:Int) = 0):=by omega
    simpa using this
   have htl:(c + 1) % k < k:=Nat.mod_lt _ hN1;generalize hqq:((c + 1) % k:Nat) = q at hrem htl;clear hown;go_wp2_with fail;refine hS.out.mono ?_;rintro e w2 ⟨rfl,l',hperm,hb2,hm2⟩;have hbp2:=hbr.mod hm2 (fun e=>by have e:P.pb = g:=e;omega);have x3:w2.cell? ⟨P.pb,3,none⟩ = some (.int .i64 p.frames):=hbp2.cell 3;rw [hN.out] at x3;have x5:w2.cell? ⟨P.pb,5,none⟩ = some (.int .i64 p.turn):=hbp2.cell 5;have xz:=hbp2.frozen;have xl:=hbp2.lt;have xb:w2.cell? ⟨w.heap.size,0,none⟩ = some (ptr P.pb):=(hm2.cell (p:=⟨w.heap.size,0,none⟩) bl (fun e=>by have e:w.heap.size = g:=e;omega)).trans hbox;replace hqq:=Lib.hid hqq
   go_wp2
   go_region
   all_goals go_wp2
   go_end0
   have hlen:=hperm.length_eq;have hcp4:fk.length≤cap:=by rw [← hfk];exact hcp3
   have hm3:Mod (Only P.pb) w2 (w2.setCell ⟨P.pb,5,none⟩ (.int .i64 (q:Int))).drew:=((Mod.refl _ w2).setCell (fun _=>show Only P.pb P.pb from rfl) _).drew;have hb4:=hb2.mod hm3 (fun e=>by have e:g = P.pb:=e;omega);refine ⟨g,cap,l',q,rfl,by omega,by rw [hfk];exact hperm,htl,⟨fx,?_⟩,?_,?_⟩
   ·refine ((hbp2.setCell 5 _).drew).conv ?_;rw [hlen,← hfk];rfl
   ·refine ⟨by simp [ints],.inr ⟨g,0,cap,_,rfl,hb4,by omega,hcp3',?_,?_⟩⟩
    ·simp [ints];omega
    ·simp [ints]
   ·refine (hm.step hm2 (fun j hj e=>?_)).trans hm3;have e:j = g:=e;omega
end Go.Proofs.YtanioleniadhoaaGreat
