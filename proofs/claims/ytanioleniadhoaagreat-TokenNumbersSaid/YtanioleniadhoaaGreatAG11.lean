/-
  slices.Grow of nothing, and slices.Concat, of bytes.
-/
import Derived.Test.YtanioleniadhoaaGreatAG10
import Derived.Deep.RegionHeld3
import Derived.Deep.DrawnRows
set_option linter.unusedVariables false
set_option linter.unusedSimpArgs false
set_option maxHeartbeats 2000000
set_option maxRecDepth 100000
namespace Go.Proofs.YtanioleniadhoaaGreat
open Go.RowKit
theorem one_u8s (l:List Nat):∀ u ∈ u8s l,u.oneCell' = true:=by
 intro u hu;simp only [u8s,List.mem_map] at hu;obtain ⟨x,_,rfl⟩:=hu
 rfl
theorem run_append_empty {P:Program} (w:World) (t ty e:TypeId) (i:TypeInfo) (ht:P.underlying t = some (.slice e)) (hi:P.info? e = some i) (base xb:Option Addr) (n cap xc:Nat) (hn:n≤cap) :
  (Builtin.append_ #[t,t] ty #[.slice base n cap,.slice xb 0 xc]).run P w = .ok (.slice base n cap) w:=by
 cases base <;> cases xb <;> simp [Builtin.append_,run_underlying ht,sizeOf,typeInfo,hi,Builtin.lenOf,Builtin.firstCells,loadCells,loadCellsFrom,storeCells,hn]
theorem Grow_u8 {w:World} (n:Nat) (hn:n≤1099511627776) :
  Calls Tryz.prog 258 #[.slice none 0 0,.int .i64 n] w fun e w'=>∃ v,e = .returned v∧w'.ownsRow w.heap.size 5 1 v 0 []∧Mod Nowhere w w':=by
 obtain ⟨i0,hi0,hz0,hz1,hz2⟩:=info_parts info_u8;by_cases h0:n = 0
 ·subst h0;go_enter Tryz.func258,Tryz.ntmps258;go_wp2;go_ret;exact ⟨_,rfl,World.ownsRow_nil _ _ _ _,Mod.refl _ _⟩
 ·have hp:(0:Int) < n:=by omega
  have hrun:=Lib.run_append_nil_zeros (P:=Tryz.prog) w 22 3 22 5 i0 (.int .u8 0) .i64 .i64 Tryz.underlying22 Tryz.underlying3 hi0 hz0 n (by omega) (by omega) (by omega) (by rw [hz2];omega);have hc1:=grownCap_ge w n 0 5;have hc2:=grownCap_le_maxLen w n 0 5 (by unfold maxLen;omega)
  have hcells:∃ cs:List Value,(Builtin.zeroCells (Value.int .u8 0).cells n ++ Builtin.zeroCells (Value.int .u8 0).cells (grownCap w n 0 5 - n)) = cs.toArray∧cs.length = grownCap w n 0 5 :=
   ⟨_,(Array.toArray_toList (xs:=_)).symm,by simp [Builtin.zeroCells,Value.cells];omega⟩
  obtain ⟨cs,hcs,hcl⟩:=hcells;rw [hcs] at hrun;generalize grownCap w n 0 5 = cap at hrun hc1 hc2 hcl;go_enter Tryz.func258,Tryz.ntmps258
  go_wp2_with (at_builtin;refine Lib.wpList_append_run _ rfl _ _ _ _ rfl _ _ rfl rfl _ _ hrun ?_)
  go_ret;refine ⟨_,rfl,⟨rfl,.inr ⟨w.heap.size,cap,cs.toArray,rfl,Nat.le_refl _,(heap_alloc_new w _),by omega,hc2,by simp [hcl],by simp⟩⟩,((Mod.refl _ w).alloc _).drew⟩
theorem owns_form {w:World} {base:Nat} {e:TypeId} {size n:Nat} {v:Value} {xs:List Value} (h:w.ownsRow base e size v n xs):∃ b cap,v = .slice b n cap∧n≤cap:=by
 rcases h.2 with ⟨rfl,rfl⟩ | ⟨g,cap,cur,rfl,_,_,h1,_⟩
 ·exact ⟨none,0,rfl,Nat.le_refl _⟩
 ·exact ⟨_,cap,rfl,h1⟩
def cat (xs:List (Value × List Nat)):List Nat:=xs.flatMap (·.2)
theorem cat_take (xs:List (Value × List Nat)) (k:Nat) (h:k < xs.length):cat (xs.take (k + 1)) = cat (xs.take k) ++ xs[k].2:=by
 unfold cat;rw [List.take_succ_eq_append_getElem h,List.flatMap_append];simp
theorem cat_le (xs:List (Value × List Nat)) (k:Nat):(cat (xs.take k)).length≤(cat xs).length:=by
 have:cat xs = cat (xs.take k) ++ cat (xs.drop k):=by unfold cat;rw [← List.flatMap_append,List.take_append_drop]
 rw [this];simp
theorem Concat_u8 {w:World} {v:Value} {xs:List (Value × List Nat)} (h:Sl w v 22 1 xs.length (xs.map (·.1))) (hx:∀ x ∈ xs,Sl w x.1 5 1 x.2.length (u8s x.2)) (hxl:xs.length≤1000) (hn:(cat xs).length≤1099511627776) :
  Calls Tryz.prog 213 #[v] w fun e w'=>∃ v',e = .returned v'∧w'.ownsRow w.heap.size 5 1 v' (cat xs).length (u8s (cat xs))∧Mod Nowhere w w':=by
 obtain ⟨i0,hi0,hz0,hz1,hz2⟩:=info_parts info_u8;obtain ⟨a,cap,rfl,h1,h2,hcells⟩:=h.gen;refine hid2 ?_ h hx;clear h hx;intro h hx;go_enter Tryz.func213,Tryz.ntmps213;go_wp2
 go_loop [3,11] (fun s i=>∃ k:Nat,k≤xs.length∧i = .int .i64 k∧s = .int .i64 ((cat (xs.take k)).length:Nat)) (fun _ i=>xs.length - (intOf i).toNat)
 case atStart=>exact ⟨0,by omega,rfl,by simp [cat]⟩
 case round =>
  obtain ⟨k,hk,rfl,rfl⟩:=hrel;have hle:=cat_le xs k;by_cases hlt:k < xs.length
  ·obtain ⟨b,off,rfl,hbl,hc,hz⟩:=hcells (by omega);have hck:=hc k (by omega);have hle2:=cat_le xs (k + 1);have hct:=cat_take xs k hlt
   have e1:(xs.map (·.1)).getD k default = xs[k].1:=by simp [gd0,hlt]
   rw [e1] at hck;obtain ⟨xa,xc,e2,_,_⟩:=(hx.out xs[k] (List.getElem_mem hlt)).len;rw [e2] at hck;rw [hct] at hle2;rw [List.length_append] at hle2;have hlen:(cat (xs.take (k + 1))).length = (cat (xs.take k)).length + xs[k].2.length:=by rw [hct,List.length_append]
   refine hid2 ?_ hlen hct;clear hlen hct;intro hlen hct;generalize xs[k].2.length = q at *;generalize (cat (xs.take k)).length = s at *;refine hid2 ?_ e1 e2;clear e1 e2;intro e1 e2;clear hc;have hnn:¬ ((s:Int) + q < 0):=by omega
   go_wp2
   go_round
   case rel=>exact ⟨k + 1,by omega,by go_num,by rw [hlen.out];go_num⟩
   case measure=>simp [intOf];omega
  ·obtain rfl:k = xs.length:=by omega
   rw [List.take_length];have hG:=Grow_u8 (w:=w) (cat xs).length hn;replace hG:=Lib.hid hG;go_wp2_with fail;refine hG.out.mono ?_;rintro e w1 ⟨v0,rfl,hown0,hm0⟩;go_wp2
   go_loopg [6,27] xs.length (fun gg vv i wr=>∃ k:Nat,k≤xs.length∧gg + k = xs.length∧i = .int .i64 k∧wr.ownsRow w.heap.size 5 1 vv (cat (xs.take k)).length (u8s (cat (xs.take k)))∧Mod Nowhere w wr)
   case atStart=>exact ⟨0,by omega,by omega,rfl,by simpa [cat,u8s] using hown0,hm0⟩
   case round =>
    obtain ⟨k,hk,hgg,rfl,hown,hm⟩:=hrel;have hle:=cat_le xs k;by_cases hlt:k < xs.length
    ·have hsl:=h.out.mod hm (fun _ _=>id);obtain ⟨b,off,cap',e0,hbl,_,_,hc,hz⟩:=hsl.open (by omega);have hck:=hc k (by omega);have hct:=cat_take xs k hlt;have hle2:=cat_le xs (k + 1);rw [hct,List.length_append] at hle2
     have e1:(xs.map (·.1)).getD k default = xs[k].1:=by simp [gd0,hlt]
     rw [e1] at hck;have hxk:=(hx.out xs[k] (List.getElem_mem hlt)).mod hm (fun _ _=>id);obtain ⟨vb,vcap,rfl,hvc⟩:=owns_form hown
     obtain ⟨rfl,rfl⟩:a = some ⟨b,off,none⟩∧cap = cap':=by
      simp at e0;exact ⟨e0.1,e0.2⟩
     clear hc;by_cases hq:xs[k].2.length = 0
     ·obtain ⟨xa,xc,e2,_,_⟩:=hxk.len;rw [hq] at e2;rw [e2] at hck;have hnil:xs[k].2 = []:=List.eq_nil_of_length_eq_zero hq;rw [hnil,List.append_nil] at hct;have hrun:=run_append_empty (P:=Tryz.prog) wr 22 22 5 i0 Tryz.underlying22 hi0 vb xa (cat (xs.take k)).length vcap xc hvc;refine hid5 ?_ hct hown hm e1 e2;clear hct hown hm e1 e2;intro hct hown hm e1 e2;clear hxk hq hnil hle2 hle;generalize hs:(cat (xs.take k)).length = s at *;replace hs:=Lib.hid hs
      go_wp2_with (at_builtin;refine Lib.wpList_append_run _ rfl _ _ _ _ rfl _ _ rfl rfl _ _ hrun ?_)
      go_roundg (xs.length - (k + 1))
      case measure=>omega
      case rel=>exact ⟨k + 1,by omega,by omega,by go_num,by rw [hct.out,hs.out];exact hown.out,hm.out⟩
     ·obtain ⟨xb,xo,xc,e2,hxl2,_,_,hxc,_⟩:=hxk.open (by omega);rw [e2] at hck
      have hsrc:∀ (j:Nat) (u:Value),(u8s xs[k].2)[j]? = some u→wr.cell? ((⟨xb,xo,none⟩:Addr).add j) = some u:=by
       intro j u hj;have hjl:j < xs[k].2.length:=by have:=(List.getElem?_eq_some_iff.1 hj).1;simpa [u8s] using this
       rw [add_lit,hxc j (by omega),← hj,gd0,List.getElem?_eq_getElem (by simpa [u8s] using hjl)]
       rfl
      have hwl:=hm.size;have hnews:(u8s xs[k].2).length = xs[k].2.length * 1:=by simp [u8s]
      have h1c:=one_u8s xs[k].2;have hql:xs[k].2.length≤1099511627776:=by omega
      have happ:u8s (cat (xs.take (k + 1))) = u8s (cat (xs.take k)) ++ u8s xs[k].2:=by rw [hct,u8s_append]
      have hlen:(cat (xs.take (k + 1))).length = (cat (xs.take k)).length + xs[k].2.length:=by rw [hct,List.length_append]
      generalize hns:u8s xs[k].2 = news at *;generalize hqq:xs[k].2.length = q at *;generalize hcs:u8s (cat (xs.take k)) = cur at *;generalize hs:(cat (xs.take k)).length = s at *;refine hid12 ?_ hct hown hm e1 e2 happ hlen hns hqq hcs hs hnews;clear hct hown hm e1 e2 happ hlen hns hqq hcs hs hnews;intro hct hown hm e1 e2 happ hlen hns hqq hcs hs hnews;refine hid2 ?_ hsrc h1c;clear hsrc h1c;intro hsrc h1c;clear hxk hxc
      go_wp2_with (at_builtin;refine wpList_append_lies _ rfl _ _ 22 rfl w.heap.size 5 i0 (.int .u8 0) 1 1 Tryz.underlying22 hi0 hz0 hz1 hz2 rfl (by decide) _ s _ rfl hown.out ⟨xb,xo,none⟩ q xc news rfl hnews.out hsrc.out h1c.out (by omega) (by unfold maxLen;omega) (by omega) (by omega) _ rfl ?_;intro g2 cap2 w2 hown2 hgrow2 hat2 hlt2;have hM2:Mod Nowhere w w2:=hm.out.step ((Mod.refl (Above w.heap.size) wr).app hown.out hgrow2) (fun i hi e=>by have e:w.heap.size≤i:=e;omega);clear hgrow2 hat2)
      replace hown2:=Lib.hid hown2
      go_roundg (xs.length - (k + 1))
      case measure=>omega
      case rel=>exact ⟨k + 1,by omega,by omega,by go_num,by rw [happ.out,hlen.out];exact hown2.out,hM2⟩
    ·obtain rfl:k = xs.length:=by omega
     rw [List.take_length] at hown;replace hown:=Lib.hid hown;go_wp2;go_ret;exact ⟨_,rfl,hown.out,hm⟩
end Go.Proofs.YtanioleniadhoaaGreat
/-
 Changes in Go's memory: weight, within, and asking them one by one.
-/
namespace Go.Proofs.YtanioleniadhoaaGreat
open Go.RowKit
open Jn
theorem cell_lt' {w:World} {b o:Nat} {v:Value} (h:w.cell? ⟨b,o,none⟩ = some v):b < w.heap.size:=by
 by_cases hb:b < w.heap.size
 ·exact hb
 ·simp [World.cell?,Array.getElem?_eq_none (Nat.le_of_not_lt hb)] at h
abbrev Cx:=Value × Ch
def chCells (x:Cx):List Value:=[.int .i64 x.2.1,x.1]
def chsCells (xs:List Cx):List Value:=xs.flatMap chCells
structure ChSl (w:World) (v:Value) (xs:List Cx):Prop where
 sl:Sl w v 292 2 xs.length (chsCells xs)
 data:∀ x ∈ xs,Sl w x.1 5 1 x.2.2.length (u8s x.2.2)
theorem chsCells_get:∀ (xs:List Cx) (i:Nat) (h:i < xs.length),(chsCells xs).getD (i * 2) default = .int .i64 xs[i].2.1∧(chsCells xs).getD (i * 2 + 1) default = xs[i].1
 | x :: xs,0,_=>by simp [chsCells,chCells]
 | x :: xs,i + 1,h=>by
  have:=chsCells_get xs i (by simpa using h);have e:chsCells (x :: xs) = .int .i64 x.2.1 :: x.1 :: chsCells xs:=rfl;rw [e,show (i + 1) * 2 = i * 2 + 1 + 1 by omega,show i * 2 + 1 + 1 + 1 = (i * 2 + 1) + 1 + 1 by omega];simp only [List.getD_cons_succ,List.getElem_cons_succ];exact this
section
variable {w w' : World} {v : Value} {xs : List Cx} {S : Nat → Prop}
theorem ChSl.mod (h:ChSl w v xs) (hm:Mod S w w') (h1:Off S v) (h2:∀ x ∈ xs,Off S x.1):ChSl w' v xs:=⟨h.sl.mod hm h1,fun x hx=>(h.data x hx).mod hm (h2 x hx)⟩
theorem ChSl.fresh (h:ChSl w v xs) (hm:Mod Nowhere w w'):ChSl w' v xs:=h.mod hm (fun _ _=>id) (fun _ _ _ _=>id)
theorem ChSl.at_ (h:ChSl w v xs) {i:Nat} (hi:i < xs.length):∃ b off cap a c,v = .slice (some ⟨b,off,none⟩) xs.length cap∧b < w.heap.size∧xs.length≤cap∧cap≤maxLen∧w.cell? ⟨b,off + i * 2,none⟩ = some (.int .i64 xs[i].2.1)∧w.cell? ⟨b,off + i * 2 + 1,none⟩ = some xs[i].1∧xs[i].1 = .slice a xs[i].2.2.length c:=by
 obtain ⟨b,off,cap,rfl,hb,h1,h2,hc,_⟩:=h.sl.open (by omega);obtain ⟨e1,e2⟩:=chsCells_get xs i hi;obtain ⟨a,c,e3,_⟩:=(h.data xs[i] (List.getElem_mem hi)).len;have c1:=hc (i * 2) (by omega);have c2:=hc (i * 2 + 1) (by omega);rw [e1] at c1;rw [e2] at c2;exact ⟨b,off,cap,a,c,rfl,hb,h1,h2,c1,by rw [Nat.add_assoc];exact c2,e3⟩
end
theorem wsum_take (xs:List Ch) (k:Nat) (h:k < xs.length):wsum (xs.take (k + 1)) = wsum (xs.take k) + (8 + xs[k].2.length):=by
 rw [List.take_succ_eq_append_getElem h,wsum_snoc]
theorem wsum_le (xs:List Ch) (k:Nat):wsum (xs.take k)≤wsum xs:=by
 have:wsum xs = wsum (xs.take k) + wsum (xs.drop k):=by
  unfold wsum;rw [← List.sum_append,← List.map_append,List.take_append_drop]
 omega
def chs (xs:List Cx):List Ch:=xs.map (·.2)
theorem jWeight_ok {w:World} {v:Value} {xs:List Cx} (h:ChSl w v xs) (hw:wsum (chs xs)≤1099511627776) (hl:xs.length≤1099511627776) :
  Calls Tryz.prog 267 #[v] w fun e w'=>e = .returned (.int .i64 (wsum (chs xs):Nat))∧Mod Nowhere w w':=by
 obtain ⟨a,cap,rfl,h1,h2,_⟩:=h.sl.gen;replace h:=Lib.hid h;go_enter Tryz.func267,Tryz.ntmps267;go_wp2
 go_loopw [3,8] (fun s i wr=>∃ k:Nat,k≤xs.length∧i = .int .i64 k∧s = .int .i64 (wsum ((chs xs).take k):Nat)∧Mod Nowhere w wr) (fun _ i _=>xs.length - (intOf i).toNat)
 case atStart=>exact ⟨0,by omega,rfl,by simp [wsum],Mod.refl _ _⟩
 case round =>
  obtain ⟨k,hk,rfl,rfl,hm⟩:=hrel;by_cases hlt:k < xs.length
  ·have hkc:k < (chs xs).length:=by simpa [chs] using hlt
   obtain ⟨b,off,cap',xa,xc,e0,hb,_,_,c1,c2,e3⟩:=(h.out.fresh hm).at_ hlt;have hws:=wsum_take (chs xs) k hkc;have hle:=wsum_le (chs xs) (k + 1);have he:(chs xs)[k].2.length = xs[k].2.2.length:=by simp [chs]
   rw [he] at hws;rw [e3] at c2
   obtain ⟨rfl,rfl⟩:a = some ⟨b,off,none⟩∧cap = cap':=by
    simp at e0;exact ⟨e0.1,e0.2⟩
   rw [hws] at hle;replace hws:=Lib.hid hws;generalize xs[k].2.2.length = q at *;generalize wsum ((chs xs).take k) = s at *;generalize xs[k].2.1 = o at *;refine hid3 ?_ he e3 hm;clear he e3 hm;intro he e3 hm;go_wp2;go_roundw
   case rel=>exact ⟨k + 1,by omega,by go_num,by rw [hws.out];go_num,hm.out.alloc _⟩
   case measure=>simp [intOf];omega
  ·obtain rfl:k = xs.length:=by omega
   rw [List.take_of_length_le (by simp [chs])];replace hm:=Lib.hid hm;go_wp2;go_ret;exact ⟨rfl,hm.out⟩
def fits (C:Nat) (c:Ch):Bool:=decide (c.1≤(C - 32) * 48) && decide (c.2.length≤(C - 32) * 48 - c.1)
theorem JBlk.mod {w w':World} {jb:Nat} {M:MemAt} {P:PAt} {p:PSt} {S:Nat→Prop} (h:JBlk w jb M P p) (hm:Mod S w w') (h1:¬ S jb) (h2:¬ S P.pb):JBlk w' jb M P p:=⟨h.bj.mod hm h1,h.bp.mod hm h2⟩
theorem JBlk.fresh {w w':World} {jb:Nat} {M:MemAt} {P:PAt} {p:PSt} (h:JBlk w jb M P p) (hm:Mod Nowhere w w'):JBlk w' jb M P p:=h.mod hm id id
theorem jWithin_ok {w:World} {jb:Nat} {M:MemAt} {P:PAt} {p:PSt} (h:JBlk w jb M P p) (h32:32≤p.count) (h16:p.count≤65536) (x:Cx) {a:Option Addr} {c:Nat} (hx:x.1 = .slice a x.2.2.length c) (ho:x.2.1≤1099511627776) (hl:x.2.2.length≤1099511627776) :
  Calls Tryz.prog 242 #[ptr jb,.agg #[.int .i64 x.2.1,x.1]] w fun e w'=>e = .returned (.bool (fits p.count x.2))∧Mod Nowhere w w':=by
 have hmA:Mod Nowhere w (w.alloc (.cells #[.int .i64 x.2.1,x.1] 292)):=(Mod.refl _ w).alloc _;have hSz:=fun n=>quiet_world (jSize_ok ((h.fresh hmA).fresh ((Mod.refl Nowhere _).drewN n)) h32 h16);rw [hx] at hSz hmA ⊢;unfold fits;replace hx:=Lib.hid hx;clear h;generalize hS:(p.count - 32) * 48 = S at *;have hS2:S≤4000000:=by omega
 generalize x.2.2.length = q at *;generalize x.2.1 = o at *;refine hid3 ?_ hS hSz hmA;clear hS hSz hmA;intro hS hSz hmA;by_cases h1:o≤S
 ·have d1:decide ((o:Int)≤S) = true:=by simpa using h1
  by_cases h2:q≤S - o
  ·have d2:decide ((q:Int)≤(S:Int) - o) = true:=by simp;omega
   go_enter Tryz.func242,Tryz.ntmps242;go_wp2_with fail
   go_quiet ((go_at_call 160;exact Calls.quiet_of_same (hSz.out _)))
   go_wp2;go_ret;exact ⟨ret_bool (by simp [h1,h2]),hmA.out.drewN _⟩
  ·have d2:decide ((q:Int)≤(S:Int) - o) = false:=by simp;omega
   go_enter Tryz.func242,Tryz.ntmps242;go_wp2_with fail
   go_quiet ((go_at_call 160;exact Calls.quiet_of_same (hSz.out _)))
   go_wp2;go_ret;exact ⟨ret_bool (by simp [h1,h2]),hmA.out.drewN _⟩
 ·have d1:decide ((o:Int)≤S) = false:=by simp;omega
  go_enter Tryz.func242,Tryz.ntmps242;go_wp2_with fail
  go_quiet ((go_at_call 160;exact Calls.quiet_of_same (hSz.out _)))
  go_wp2;go_ret;exact ⟨ret_bool (by simp [h1]),hmA.out.drewN _⟩
theorem jNotWithinA_ok {w:World} {jb Bx:Nat} {M:MemAt} {P:PAt} {p:PSt} (h:JBlk w jb M P p) (hbx:w.cell? ⟨Bx,0,none⟩ = some (ptr jb)) (h32:32≤p.count) (h16:p.count≤65536) (x:Cx) {a:Option Addr} {c:Nat} (hx:x.1 = .slice a x.2.2.length c) (ho:x.2.1≤1099511627776) (hl:x.2.2.length≤1099511627776) :
  Calls Tryz.prog 266 #[.agg #[.int .i64 x.2.1,x.1],.pointer (some ⟨Bx,0,none⟩)] w fun e w'=>e = .returned (.bool (!fits p.count x.2))∧Mod Nowhere w w':=by
 have hmA:Mod Nowhere w (w.alloc (.cells #[.int .i64 x.2.1,x.1] 292)):=(Mod.refl _ w).alloc _;have hW:=jWithin_ok (h.fresh hmA) h32 h16 x hx ho hl;have hbl:=cell_lt' hbx;rw [hx] at hW hmA ⊢;replace hx:=Lib.hid hx;clear h;generalize fits p.count x.2 = f at *;generalize x.2.2.length = q at *;generalize x.2.1 = o at *;refine hid2 ?_ hW hmA;clear hW hmA;intro hW hmA;go_enter Tryz.func266,Tryz.ntmps266;go_wp2_with fail;refine hW.out.mono ?_;rintro e w1 ⟨rfl,hm1⟩
 cases f <;> (go_wp2;go_ret;exact ⟨rfl,hmA.out.trans hm1⟩)
theorem jNotWithinR_ok {w:World} {jb Bx:Nat} {M:MemAt} {P:PAt} {p:PSt} (h:JBlk w jb M P p) (hbx:w.cell? ⟨Bx,0,none⟩ = some (ptr jb)) (h32:32≤p.count) (h16:p.count≤65536) (x:Cx) {a:Option Addr} {c:Nat} (hx:x.1 = .slice a x.2.2.length c) (ho:x.2.1≤1099511627776) (hl:x.2.2.length≤1099511627776) :
  Calls Tryz.prog 241 #[.agg #[.int .i64 x.2.1,x.1],.pointer (some ⟨Bx,0,none⟩)] w fun e w'=>e = .returned (.bool (!fits p.count x.2))∧Mod Nowhere w w':=by
 have hmA:Mod Nowhere w (w.alloc (.cells #[.int .i64 x.2.1,x.1] 292)):=(Mod.refl _ w).alloc _;have hW:=jWithin_ok (h.fresh hmA) h32 h16 x hx ho hl;have hbl:=cell_lt' hbx;rw [hx] at hW hmA ⊢;replace hx:=Lib.hid hx;clear h;generalize fits p.count x.2 = f at *;generalize x.2.2.length = q at *;generalize x.2.1 = o at *;refine hid2 ?_ hW hmA;clear hW hmA;intro hW hmA;go_enter Tryz.func241,Tryz.ntmps241;go_wp2_with fail;refine hW.out.mono ?_;rintro e w1 ⟨rfl,hm1⟩
 cases f <;> (go_wp2;go_ret;exact ⟨rfl,hmA.out.trans hm1⟩)
theorem jSome_ok {w:World} (x:Cx) {a:Option Addr} {c:Nat} (hx:x.1 = .slice a x.2.2.length c) :
  Calls Tryz.prog 268 #[.agg #[.int .i64 x.2.1,x.1]] w fun e w'=>e = .returned (.bool (decide (0 < x.2.2.length)))∧Mod Nowhere w w':=by
 have hmA:Mod Nowhere w (w.alloc (.cells #[.int .i64 x.2.1,x.1] 292)):=(Mod.refl _ w).alloc _;rw [hx] at hmA ⊢;replace hx:=Lib.hid hx;generalize x.2.2.length = q at *;generalize x.2.1 = o at *;replace hmA:=Lib.hid hmA;go_enter Tryz.func268,Tryz.ntmps268;go_wp2;go_ret;exact ⟨ret_bool (by simp),hmA.out⟩
theorem IndexFunc_chg {w:World} {v:Value} {xs:List Cx} (h:ChSl w v xs) (hl:xs.length≤1099511627776) (g:FuncId) (cap:Array Value) (hent:∀ args w,(callFunc g args).run Tryz.prog w = .ok (.enter g args) w) (pd:Cx→Bool)
  (hcall:∀ x ∈ xs,∀ wr,Mod Nowhere w wr→Calls Tryz.prog g (#[.agg #[.int .i64 x.2.1,x.1]] ++ cap) wr fun e w'=>e = .returned (.bool (pd x))∧Mod Nowhere wr w') :
  Calls Tryz.prog 278 #[v,.func (.func g) #[] cap] w fun e w'=>∃ r:Int,e = .returned (.int .i64 r)∧decide (0≤r) = xs.any pd∧Mod Nowhere w w':=by
 obtain ⟨a,vc,rfl,h1,h2,_⟩:=h.sl.gen;refine hid2 ?_ h hcall;clear h hcall;intro h hcall;go_enter Tryz.func278,Tryz.ntmps278;go_wp2
 go_loopw [8] (fun i wr=>∃ k:Nat,k≤xs.length∧i = .int .i64 k∧(xs.take k).any pd = false∧Mod Nowhere w wr) (fun i _=>xs.length - (intOf i).toNat)
 case atStart=>exact ⟨0,by omega,rfl,rfl,Mod.refl _ _⟩
 case round =>
  obtain ⟨k,hk,rfl,hno,hm⟩:=hrel;replace hno:=Lib.hid hno;by_cases hlt:k < xs.length
  ·obtain ⟨b,off,cap',xa,xc,e0,hb,_,_,c1,c2,e3⟩:=(h.out.fresh hm).at_ hlt;have hC:=hcall.out xs[k] (List.getElem_mem hlt) wr hm;have htk:(xs.take (k + 1)).any pd = ((xs.take k).any pd || pd xs[k]):=by rw [List.take_succ_eq_append_getElem hlt,List.any_append];simp only [List.any_cons,List.any_nil,Bool.or_false]
   obtain ⟨rfl,rfl⟩:a = some ⟨b,off,none⟩∧vc = cap':=by
    simp at e0;exact ⟨e0.1,e0.2⟩
   have hany:pd xs[k] = true→xs.any pd = true:=fun hp=>List.any_eq_true.2 ⟨xs[k],List.getElem_mem hlt,hp⟩;rw [e3] at c2 hC;generalize xs[k].2.2.length = q at *;generalize xs[k].2.1 = o at *;refine hid4 ?_ e3 hC hm htk;clear e3 hC hm htk;intro e3 hC hm htk
   cases hp:pd xs[k]
   ·rw [hp] at hC;replace hp:=Lib.hid hp;go_wp2_with fail;refine hC.out.mono ?_;rintro e w1 ⟨rfl,hm1⟩;go_wp2;go_roundw
    case rel=>exact ⟨k + 1,by omega,by go_num,by rw [htk.out,hno.out,hp.out];rfl,hm.out.trans hm1⟩
    case measure=>simp [intOf];omega
   ·rw [hp] at hC;have hany2:=hany hp;replace hany2:=Lib.hid hany2;clear hany;replace hp:=Lib.hid hp;go_wp2_with fail;refine hC.out.mono ?_;rintro e w1 ⟨rfl,hm1⟩;go_wp2;go_ret;exact ⟨_,rfl,by rw [hany2.out];simp,hm.out.trans hm1⟩
  ·obtain rfl:k = xs.length:=by omega
   rw [List.take_length] at hno;replace hm:=Lib.hid hm;go_wp2;go_ret;exact ⟨_,rfl,by rw [hno.out];rfl,hm.out⟩
theorem ContainsFunc_chg {w:World} {v:Value} {xs:List Cx} (h:ChSl w v xs) (hl:xs.length≤1099511627776) (g:FuncId) (cap:Array Value) (hent:∀ args w,(callFunc g args).run Tryz.prog w = .ok (.enter g args) w) (pd:Cx→Bool)
  (hcall:∀ x ∈ xs,∀ wr,Mod Nowhere w wr→Calls Tryz.prog g (#[.agg #[.int .i64 x.2.1,x.1]] ++ cap) wr fun e w'=>e = .returned (.bool (pd x))∧Mod Nowhere wr w') :
  Calls Tryz.prog 240 #[v,.func (.func g) #[] cap] w fun e w'=>e = .returned (.bool (xs.any pd))∧Mod Nowhere w w':=by
 have hI:=IndexFunc_chg h hl g cap hent pd hcall;replace hI:=Lib.hid hI;clear hcall h hent;go_enter Tryz.func240,Tryz.ntmps240;go_wp2_with fail;refine hI.out.mono ?_;rintro e w1 ⟨r,rfl,hr,hm1⟩
 cases ha:xs.any pd
 ·rw [ha] at hr;go_wp2;go_ret;exact ⟨ret_bool ha.symm,hm1⟩
 ·rw [ha] at hr;go_wp2;go_ret;exact ⟨ret_bool ha.symm,hm1⟩
end Go.Proofs.YtanioleniadhoaaGreat
/-
 Changes written down as bytes, and read again.
-/
namespace Go.Proofs.YtanioleniadhoaaGreat
open Go.RowKit
open Jn
theorem drew_hp (w:World):w.drew.heap = w.heap:=rfl
theorem enc_take (xs:List Ch) (k:Nat) (h:k < xs.length):enc (xs.take (k + 1)) = enc (xs.take k) ++ encC xs[k]:=by
 rw [List.take_succ_eq_append_getElem h,enc_snoc]
theorem jEncode_ok {w:World} {v:Value} {xs:List Cx} (h:ChSl w v xs) (hl:xs.length≤1099511627776) (hw:wsum (chs xs)≤1099511627776) (ho:∀ x ∈ xs,x.2.1≤1099511627776) :
  Calls Tryz.prog 270 #[v] w fun e w'=>∃ v',e = .returned v'∧w'.ownsRow w.heap.size 5 1 v' (enc (chs xs)).length (u8s (enc (chs xs)))∧Mod Nowhere w w':=by
 obtain ⟨a,vc,rfl,h1,h2,_⟩:=h.sl.gen;refine hid2 ?_ h ho;clear h ho;intro h ho;go_enter Tryz.func270,Tryz.ntmps270;go_wp2
 go_loopg [3,8] xs.length (fun gg vv i wr=>∃ k:Nat,k≤xs.length∧gg + k = xs.length∧i = .int .i64 k∧wr.ownsRow w.heap.size 5 1 vv (enc ((chs xs).take k)).length (u8s (enc ((chs xs).take k)))∧Mod Nowhere w wr)
 case atStart=>exact ⟨0,by omega,by omega,rfl,by simpa [enc,u8s] using World.ownsRow_nil _ _ _ _,Mod.refl _ _⟩
 case round =>
  obtain ⟨k,hk,hgg,rfl,hown,hm⟩:=hrel;by_cases hlt:k < xs.length
  ·have hkc:k < (chs xs).length:=by simpa [chs] using hlt
   obtain ⟨b,off,cap',xa,xc,e0,hb,_,_,c1,c2,e3⟩:=(h.out.fresh hm).at_ hlt;have hck:(chs xs)[k] = xs[k].2:=by simp [chs]
   have het:=enc_take (chs xs) k hkc;have hle:=wsum_le (chs xs) (k + 1);have hws:=wsum_take (chs xs) k hkc;have hok:=ho.out xs[k] (List.getElem_mem hlt);have hdk:=((h.out.fresh hm).data xs[k] (List.getElem_mem hlt));have hel:=enc_len ((chs xs).take k);rw [hck] at het hws;rw [e3] at c2 hdk
   obtain ⟨rfl,rfl⟩:a = some ⟨b,off,none⟩∧vc = cap':=by
    simp at e0;exact ⟨e0.1,e0.2⟩
   obtain ⟨vb,vcap,rfl,hvc⟩:=owns_form hown;have hql:xs[k].2.2.length≤1099511627776:=by omega
   generalize hC:xs[k].2 = C at *;generalize hq:C.2.length = q at *;generalize hoo:C.1 = o at *;generalize hE:enc ((chs xs).take k) = E at *;generalize hEl:E.length = El at *;refine hid12 ?_ hdk hown hm het e3 hE hEl hC hq hoo hck hws;clear hdk hown hm het e3 hE hEl hC hq hoo hck hws;intro hdk hown hm het e3 hE hEl hC hq hoo hck hws;refine hid2 ?_ hle hel;clear hle hel;intro hle hel;have hB6:∀ W,Calls Tryz.prog 290 #[.int .i64 o,.int .i64 6] W fun e w'=>e = .returned (.slice (some ⟨W.heap.size,0,none⟩) 6 6)∧Blk w' W.heap.size (u8s (be 6 o)) 5∧Mod Nowhere W w':=fun W=>bytesOf_ok o 6 (by omega) (by omega) (by omega);have hB2:∀ W,Calls Tryz.prog 290 #[.int .i64 q,.int .i64 2] W fun e w'=>e = .returned (.slice (some ⟨W.heap.size,0,none⟩) 2 2)∧Blk w' W.heap.size (u8s (be 2 q)) 5∧Mod Nowhere W w':=fun W=>bytesOf_ok q 2 (by omega) (by omega) (by omega)
   have hCat:∀ eA eB:World,Blk eA (wr.heap.size + 1) (u8s (be 6 o)) 5→Mod Nowhere wr eA→Blk eB eA.heap.size (u8s (be 2 q)) 5→Mod Nowhere eA eB →
     Calls Tryz.prog 213 #[.slice (some ⟨eB.heap.size,0,none⟩) 4 4] (eB.alloc (.cells #[.slice vb El vcap,.slice (some ⟨wr.heap.size + 1,0,none⟩) 6 6,.slice (some ⟨eA.heap.size,0,none⟩) 2 2,.slice xa q xc] 22)) fun e w' =>
      ∃ v',e = .returned v'∧w'.ownsRow w.heap.size 5 1 v' (enc ((chs xs).take (k + 1))).length (u8s (enc ((chs xs).take (k + 1))))∧Mod Nowhere w w'∧Mod Nowhere eB w':=by
    intro eA eB b1 m1 b2 m2;have m12:=(m1.trans m2).alloc (.cells #[.slice vb El vcap,.slice (some ⟨wr.heap.size + 1,0,none⟩) 6 6,.slice (some ⟨eA.heap.size,0,none⟩) 2 2,.slice xa q xc] 22);have m2':=m2.alloc (.cells #[.slice vb El vcap,.slice (some ⟨wr.heap.size + 1,0,none⟩) 6 6,.slice (some ⟨eA.heap.size,0,none⟩) 2 2,.slice xa q xc] 22)
    have s1:Sl (eB.alloc (.cells #[.slice vb El vcap,.slice (some ⟨wr.heap.size + 1,0,none⟩) 6 6,.slice (some ⟨eA.heap.size,0,none⟩) 2 2,.slice xa q xc] 22)) (.slice vb El vcap) 5 1 E.length (u8s E):=by
     rw [hEl.out];exact (Sl.of_owns hown.out).mod m12 (fun _ _=>id)
    have s2:Sl (eB.alloc (.cells #[.slice vb El vcap,.slice (some ⟨wr.heap.size + 1,0,none⟩) 6 6,.slice (some ⟨eA.heap.size,0,none⟩) 2 2,.slice xa q xc] 22)) (.slice (some ⟨wr.heap.size + 1,0,none⟩) 6 6) 5 1 (be 6 o).length (u8s (be 6 o)):=by
     rw [be_len];exact ⟨by simp [u8s,be_len],.inr ⟨_,0,6,_,rfl,b1.mod m2' id,Nat.le_refl _,by unfold maxLen;omega,by simp [u8s,be_len],by simp [List.take_of_length_le,u8s,be_len]⟩⟩
    have s3:Sl (eB.alloc (.cells #[.slice vb El vcap,.slice (some ⟨wr.heap.size + 1,0,none⟩) 6 6,.slice (some ⟨eA.heap.size,0,none⟩) 2 2,.slice xa q xc] 22)) (.slice (some ⟨eA.heap.size,0,none⟩) 2 2) 5 1 (be 2 q).length (u8s (be 2 q)):=by
     rw [be_len];exact ⟨by simp [u8s,be_len],.inr ⟨_,0,2,_,rfl,b2.alloc _,Nat.le_refl _,by unfold maxLen;omega,by simp [u8s,be_len],by simp [List.take_of_length_le,u8s,be_len]⟩⟩
    have s4:Sl (eB.alloc (.cells #[.slice vb El vcap,.slice (some ⟨wr.heap.size + 1,0,none⟩) 6 6,.slice (some ⟨eA.heap.size,0,none⟩) 2 2,.slice xa q xc] 22)) (.slice xa q xc) 5 1 C.2.length (u8s C.2):=by
     rw [hq.out];exact hdk.out.mod m12 (fun _ _=>id)
    have hb4:Blk (eB.alloc (.cells #[.slice vb El vcap,.slice (some ⟨wr.heap.size + 1,0,none⟩) 6 6,.slice (some ⟨eA.heap.size,0,none⟩) 2 2,.slice xa q xc] 22)) eB.heap.size [.slice vb El vcap,.slice (some ⟨wr.heap.size + 1,0,none⟩) 6 6,.slice (some ⟨eA.heap.size,0,none⟩) 2 2,.slice xa q xc] 22:=Blk.new eB _ _
    have hcl:(cat [(Value.slice vb El vcap,E),(.slice (some ⟨wr.heap.size + 1,0,none⟩) 6 6,be 6 o),(.slice (some ⟨eA.heap.size,0,none⟩) 2 2,be 2 q),(.slice xa q xc,C.2)]) = enc ((chs xs).take (k + 1)):=by
     rw [het.out];simp [cat,encC,hoo.out,hq.out]
    have hlenk:(enc ((chs xs).take (k + 1))).length≤1099511627776:=by
     rw [enc_len];have:=hle.out;omega
    have:=Concat_u8 (w:=eB.alloc (.cells #[.slice vb El vcap,.slice (some ⟨wr.heap.size + 1,0,none⟩) 6 6,.slice (some ⟨eA.heap.size,0,none⟩) 2 2,.slice xa q xc] 22)) (v:=.slice (some ⟨eB.heap.size,0,none⟩) 4 4)
     (xs:=[(Value.slice vb El vcap,E),(.slice (some ⟨wr.heap.size + 1,0,none⟩) 6 6,be 6 o),(.slice (some ⟨eA.heap.size,0,none⟩) 2 2,be 2 q),(.slice xa q xc,C.2)])
     ⟨rfl,.inr ⟨eB.heap.size,0,4,_,rfl,hb4,Nat.le_refl _,by unfold maxLen;decide,Nat.le_refl _,rfl⟩⟩
     (by
      intro x hx;simp only [List.mem_cons,List.not_mem_nil,or_false] at hx;rcases hx with rfl | rfl | rfl | rfl
      ·exact s1
      ·exact s2
      ·exact s3
      ·exact s4) (by show 4≤1000;decide) (by rw [hcl];exact hlenk)
    rw [hcl] at this;refine this.mono ?_;rintro e w' ⟨v',rfl,ho',hm'⟩;have hsz:=hm.out.size;have hsz2:=m1.size;have hsz3:=m2.size;refine ⟨v',rfl,?_,(hm.out.trans m12).trans hm',((Mod.refl _ eB).alloc _).trans hm'⟩;exact ⟨ho'.1,ho'.2.imp id (fun ⟨g,cp,cur,h1,h2,h3⟩=>⟨g,cp,cur,h1,by simp at h2;omega,h3⟩)⟩
   refine hid3 ?_ hCat hB6 hB2;clear hCat hB6 hB2;intro hCat hB6 hB2;go_wp2_with fail
   go_region_held3 (fun w'=>w'.cell? ⟨wr.heap.size,0,none⟩ = some (.int .i64 o)∧w'.cell? ⟨wr.heap.size,1,none⟩ = some (.slice xa q xc)) (simp [*,World.cell?_alloc_some,World.cell?_setCell_far,World.cell?_setCell_other])
    (first | (go_at_call 290;(with_reducible refine (hB6.out _).mono ?_);rintro e eA ⟨rfl,hbA,hmA⟩;have k1:=hmA.cell (p:=⟨wr.heap.size,0,none⟩) (by simp) id;have k2:=hmA.cell (p:=⟨wr.heap.size,1,none⟩) (by simp) id;have hsA:wr.heap.size < eA.heap.size:=(by have:=hmA.size;simp at this;omega);have hmA2:Mod Nowhere wr eA:=Mod.trans (((Mod.refl _ wr).alloc _).drew) hmA;(simp only [World.size_alloc,drew_hp] at hbA);replace hbA:=Lib.hid hbA;replace hmA:=Lib.hid hmA;replace hmA2:=Lib.hid hmA2) | (go_at_call 290;(with_reducible refine (hB2.out _).mono ?_);rintro e eB ⟨rfl,hbB,hmB⟩;have k1:=hmB.cell (p:=⟨wr.heap.size,0,none⟩) (by assumption) id;have k2:=hmB.cell (p:=⟨wr.heap.size,1,none⟩) (by assumption) id;have hsB:wr.heap.size < eB.heap.size:=(by have:=hmB.size;omega);replace hbB:=Lib.hid hbB;replace hmB:=Lib.hid hmB) | (go_at_call 213;refine (hCat.out eA eB hbA.out hmA2.out hbB.out hmB.out).mono ?_;rintro e w5 ⟨v5,rfl,hown5,hm5,hm6⟩;have k1:=hm6.cell (p:=⟨wr.heap.size,0,none⟩) (by assumption) id;have k2:=hm6.cell (p:=⟨wr.heap.size,1,none⟩) (by assumption) id;replace hm6:=Lib.hid hm6;replace hown5:=Lib.hid hown5;replace hm5:=Lib.hid hm5))
   go_wp2
   go_roundg (xs.length - (k + 1))
   case measure=>omega
   case rel=>exact ⟨k + 1,by omega,by omega,by go_num,hown5.out,hm5.out⟩
  ·obtain rfl:k = xs.length:=by omega
   rw [List.take_of_length_le (by simp [chs])] at hown;replace hown:=Lib.hid hown;go_wp2;go_ret;exact ⟨_,rfl,hown.out,hm⟩
end Go.Proofs.YtanioleniadhoaaGreat
/-
 Changes read out of their bytes.
-/
namespace Go.Proofs.YtanioleniadhoaaGreat
open Go.RowKit
open Jn
theorem Sl.from_ {P:Program} {w:World} {t T:TypeId} {z:Value} {bytes:Nat} (ht:P.underlying t = some (.slice T)) (hi:(P.info? T).map (fun i=>(i.zero,i.size,i.bytes)) = some (some z,1,bytes)) {b off n cap:Nat} {xs:List Value}
  (h:Sl w (.slice (some ⟨b,off,none⟩) n cap) T 1 n xs) (j:Nat) (hj:j≤n) :
  ∃ o',(∀ W,(Instr.slice t (.slice (some ⟨b,off,none⟩) n cap) (some (.int .i64 j)) none none).run P W = .ok (.slice (some ⟨b,o',none⟩) (n - j) (cap - j)) W)∧Sl w (.slice (some ⟨b,o',none⟩) (n - j) (cap - j)) T 1 (n - j) (xs.drop j):=by
 have hl:=h.1;rcases h.2 with ⟨e,_⟩ | ⟨b',off',cap',cs,e,hb,h1,h2,h3,h4⟩
 ·simp at e
 ·cases e
  by_cases hc:j < cap
  ·refine ⟨off + j,fun W=>run_sub ht hi b off n cap j hc hj W,by simp [hl],.inr ⟨b,off + j,cap - j,cs,rfl,hb,by omega,by omega,by omega,?_⟩⟩;rw [← h4,List.drop_take,List.drop_drop]
   congr 1;omega
  ·have hcj:cap = j:=by omega
   have hnj:n = j:=by omega
   subst hcj;refine ⟨off,fun W=>?_,by simp [hl,hnj],.inr ⟨b,off,cap - cap,cs,rfl,hb,by omega,by omega,by omega,?_⟩⟩
   ·obtain ⟨i0,hi0,hz0,hz1,hz2⟩:=info_parts hi;subst hnj;simp [Instr.slice,Instr.sliceBounds,Instr.sliceBound,run_underlying ht,asIntOf,sizeOf,typeInfo,hi0,hz1,add_lit]
   ·have:n - cap = 0:=by omega
    rw [this,Nat.zero_mul,List.take_zero];exact (List.drop_eq_nil_of_le (by omega)).symm
theorem Sl.upto {w:World} {T:TypeId} {b off n cap:Nat} {xs:List Value} (h:Sl w (.slice (some ⟨b,off,none⟩) n cap) T 1 n xs) (j c:Nat) (hj:j≤n) (hc:j≤c) (hcc:c≤cap):Sl w (.slice (some ⟨b,off,none⟩) j c) T 1 j (xs.take j):=by
 have hl:=h.1;rcases h.2 with ⟨e,_⟩ | ⟨b',off',cap',cs,e,hb,h1,h2,h3,h4⟩
 ·simp at e
 ·cases e
  refine ⟨by simp [hl];omega,.inr ⟨b,off,c,cs,rfl,hb,by omega,by omega,by omega,?_⟩⟩;rw [← h4,List.take_take]
  congr 1;omega
theorem Sl.mid {w:World} {T:TypeId} {b off n cap:Nat} {xs:List Value} (h:Sl w (.slice (some ⟨b,off,none⟩) n cap) T 1 n xs) (i j:Nat) (hij:i≤j) (hj:j≤n):Sl w (.slice (some ⟨b,off + i,none⟩) (j - i) (cap - i)) T 1 (j - i) ((xs.drop i).take (j - i)):=by
 have hl:=h.1;rcases h.2 with ⟨e,_⟩ | ⟨b',off',cap',cs,e,hb,h1,h2,h3,h4⟩
 ·simp at e
 ·cases e
  refine ⟨by simp [hl];omega,.inr ⟨b,off + i,cap - i,cs,rfl,hb,by omega,by omega,by omega,?_⟩⟩;rw [← h4,List.drop_take,List.drop_drop,List.take_take]
  congr 1;omega
theorem u8s_take (l:List Nat) (k:Nat):(u8s l).take k = u8s (l.take k):=by simp [u8s]
theorem u8s_drop (l:List Nat) (k:Nat):(u8s l).drop k = u8s (l.drop k):=by simp [u8s]
theorem run_pre3 {P:Program} {t e:TypeId} {z:Value} {bytes:Nat} (ht:P.underlying t = some (.slice e)) (hi:(P.info? e).map (fun i=>(i.zero,i.size,i.bytes)) = some (some z,1,bytes)) (b off n cap j:Nat) (hj:j≤cap) (W:World) :
  (Instr.slice t (.slice (some ⟨b,off,none⟩) n cap) none (some (.int .i64 j)) (some (.int .i64 j))).run P W = .ok (.slice (some ⟨b,off,none⟩) j j) W:=by
 obtain ⟨i0,hi0,hz0,hz1,hz2⟩:=info_parts hi;simp [Instr.slice,Instr.sliceBounds,Instr.sliceBound,run_underlying ht,asIntOf,sizeOf,typeInfo,hi0,hz1,add_lit,show ¬ cap < j by omega]
 all_goals (try (cases j <;> simp))
theorem info_chg:(Tryz.prog.info? 292).map (fun i=>(i.zero,i.size,i.bytes)) = some (some (.agg #[.int .i64 0,.slice none 0 0]),2,32):=by kernel_rfl
theorem chsCells_append (xs ys:List Cx):chsCells (xs ++ ys) = chsCells xs ++ chsCells ys:=by simp [chsCells]
def DecPost (w:World) (vb:Value) (L:List Ch) (e:Ending) (w':World):Prop :=
 ∃ v xs,e = .returned v∧chs xs = L∧ChSl w' v xs∧(∀ k,v.ownBlock = some k→w.heap.size≤k)∧(∀ x ∈ xs,∀ k,x.1.ownBlock = some k→vb.ownBlock = some k)∧Mod Nowhere w w'
theorem jDecode_ok {w:World} {vb:Value} {L:List Ch} (h:Sl w vb 5 1 (enc L).length (u8s (enc L))) (hb:∀ c ∈ L,Bytes c.2) (hpos:0 < (enc L).length) (hle:(enc L).length≤1488) (ho:∀ c ∈ L,c.1 < 281474976710656) :
  Calls Tryz.prog 239 #[vb] w (DecPost w vb L):=by
 obtain ⟨i0,hi0,hz0,hz1,hz2⟩:=info_parts info_chg;obtain ⟨bb,bo,bcap,rfl,hbl,hnc,hcm,_,_⟩:=h.open hpos;refine hid3 ?_ h hb ho;clear h hb ho;intro h hb ho;unfold DecPost;go_enter Tryz.func239,Tryz.ntmps239;go_wp2
 go_loopg [0,3] (enc L).length (fun gg tb vv wr=>∃ (rest:List Ch) (xs:List Cx) (o c:Nat),gg = (enc rest).length∧tb = .slice (some ⟨bb,o,none⟩) (enc rest).length c∧L = chs xs ++ rest∧(enc rest).length≤c∧c≤maxLen ∧
  Sl w (.slice (some ⟨bb,o,none⟩) (enc rest).length c) 5 1 (enc rest).length (u8s (enc rest))∧wr.ownsRow w.heap.size 292 2 vv xs.length (chsCells xs)∧(∀ x ∈ xs,Sl w x.1 5 1 x.2.2.length (u8s x.2.2)∧∀ k,x.1.ownBlock = some k→bb = k)∧Mod Nowhere w wr)
 case atStart=>exact ⟨L,[],bo,bcap,rfl,rfl,rfl,hnc,hcm,h.out,World.ownsRow_nil _ _ _ _,(fun x hx=>(List.not_mem_nil hx).elim),Mod.refl _ _⟩
 case round =>
  obtain ⟨rest,xs,o,c,hgg,rfl,hL,hnc2,hcm2,hsl,hown,hxs,hm⟩:=hrel
  cases rest with
  | nil =>
   rw [List.append_nil] at hL;have e0:(enc ([]:List Ch)).length = 0:=rfl;rw [e0];clear hsl hgg hnc2;refine hid2 ?_ hL hown;clear hL hown;intro hL hown;go_wp2;go_ret;refine ⟨_,xs,rfl,hL.out.symm,⟨Sl.of_owns hown.out,fun x hx=>((hxs x hx).1.mod hm (fun _ _=>id))⟩,owns_fresh hown.out,fun x hx k hk=>?_,hm⟩;rw [(hxs x hx).2 k hk];rfl
  | cons ch rest =>
   have hchL:ch ∈ L:=by rw [hL];simp
   have hbch:=hb.out ch hchL;have hoch:=ho.out ch hchL;have hne:(enc (ch :: rest)).length = 8 + ch.2.length + (enc rest).length:=by rw [enc_cons,List.length_append,encC_len]
   have hnL:(enc (ch :: rest)).length≤(enc L).length:=by rw [hL];simp [enc]
   obtain ⟨he6,he2,he8⟩:=enc_head ch (enc rest);rw [← enc_cons] at he6 he2 he8;have S0:=hsl.mod hm (fun _ _=>id);have S6:=S0.upto 6 c (by omega) (by omega) (Nat.le_refl _);have S2:=S0.mid 6 8 (by omega) (by omega);obtain ⟨o8,hr8,T8⟩:=hsl.from_ (t:=22) Tryz.underlying22 info_u8 8 (by omega);rw [u8s_take,he6] at S6;rw [u8s_drop,u8s_take,he2] at S2;rw [u8s_drop,he8] at T8;have hbe6:(be 6 ch.1).length = 6:=be_len 6 ch.1;have hbe2:(be 2 ch.2.length).length = 2:=be_len 2 ch.2.length;have hq:ch.2.length < 65536:=by omega
   have hnum6:num (be 6 ch.1) = ch.1:=num_be_lt (by omega);have hnum2:num (be 2 ch.2.length) = ch.2.length:=num_be_lt (by omega);have hN6:=fun n=>quiet_world (number_ok (w:=wr.drewN n) (v:=.slice (some ⟨bb,o,none⟩) 6 c) (l:=be 6 ch.1) (by rw [hbe6];exact S6.mod ((Mod.refl Nowhere wr).drewN n) (fun _ _=>id)) (be_bytes _ _) (by omega) (by rw [hnum6];omega));have hN2:=fun n=>quiet_world (number_ok (w:=wr.drewN n) (v:=.slice (some ⟨bb,o + 6,none⟩) 2 (c - 6)) (l:=be 2 ch.2.length) (by rw [hbe2];exact S2.mod ((Mod.refl Nowhere wr).drewN n) (fun _ _=>id)) (be_bytes _ _) (by omega) (by rw [hnum2];omega));rw [hnum6] at hN6
   rw [hnum2] at hN2;rw [hne] at hr8 T8 hnc2 hnL hgg ⊢;have hn8:8 + ch.2.length + (enc rest).length - 8 = ch.2.length + (enc rest).length:=by omega
   rw [hn8] at hr8 T8;obtain ⟨c8,hc8⟩:∃ c8,c - 8 = c8:=⟨_,rfl⟩;rw [hc8] at hr8 T8;have hp3:=fun W=>run_pre3 (P:=Tryz.prog) (t:=22) Tryz.underlying22 info_u8 bb o8 (ch.2.length + (enc rest).length) c8 ch.2.length (by omega) W;have D3:=T8.upto ch.2.length ch.2.length (by omega) (Nat.le_refl _) (by omega);rw [u8s_take,List.take_left' rfl] at D3;obtain ⟨o9,hr9,T9⟩:=T8.from_ (t:=22) Tryz.underlying22 info_u8 ch.2.length (by omega);rw [u8s_drop,List.drop_left' rfl] at T9;have hn9:ch.2.length + (enc rest).length - ch.2.length = (enc rest).length:=by omega
   rw [hn9] at hr9 T9;obtain ⟨vb,vcap,rfl,hvc⟩:=owns_form hown
   have hxl:xs.length≤1488:=by
    have h1:wsum (chs xs)≤(enc L).length:=by rw [hL,enc_len];simp [wsum]
    have h2:(chs xs).length≤wsum (chs xs):=by
     generalize chs xs = ys
     induction ys with
     | nil=>simp
     | cons y ys ih=>rw [wsum_cons,List.length_cons];omega
    have h3:(chs xs).length = xs.length:=by simp [chs]
    omega
   have hr8':=hr8;rw [show ((8:Nat):Int) = 8 from rfl] at hr8;generalize hEr:(enc rest).length = r at *;generalize hql:ch.2.length = q at *;generalize hch1:ch.1 = o1 at *;refine hid12 ?_ hEr hql hch1 hN6 hN2 hL hown hxs hm T9 D3 hc8;clear hEr hql hch1 hN6 hN2 hL hown hxs hm T9 D3 hc8;intro hEr hql hch1 hN6 hN2 hL hown hxs hm T9 D3 hc8;refine hid2 ?_ hgg hsl;clear hgg hsl;intro hgg hsl;clear hr8' hne he6 he2 he8 S0 S6 S2 T8 hbe6 hbe2 hnum6 hnum2 hn8 hn9;have hmin:(q:Int)≤((q + r:Nat):Int):=by omega
   have hge:(8:Int)≤((8 + q + r:Nat):Int):=by omega
   go_wp2_with fail
   go_quiet (first | (go_at_call 175;with_reducible exact Calls.quiet_of_same (hN6.out _)) | (go_at_call 175;with_reducible exact Calls.quiet_of_same (hN2.out _)))
   have hsz:=hm.out.size;have hownA:((wr.drewN nq).alloc (.cells #[.int .i64 o1,.slice (some ⟨bb,o8,none⟩) q q] 292)).ownsRow w.heap.size 292 2 (.slice vb xs.length vcap) xs.length (chsCells xs):=(show (wr.drewN nq).ownsRow w.heap.size 292 2 (.slice vb xs.length vcap) xs.length (chsCells xs) from hown.out).alloc _;replace hownA:=Lib.hid hownA
   go_wp2_with (at_builtin;refine wpList_append_lies _ rfl _ _ 293 rfl w.heap.size 292 i0 (.agg #[.int .i64 0,.slice none 0 0]) 2 32 Tryz.underlying293 hi0 hz0 hz1 hz2 rfl (by decide) _ xs.length _ rfl hownA.out ⟨wr.heap.size,0,none⟩ 1 1 [.int .i64 (o1:Int),.slice (some ⟨bb,o8,none⟩) q q] rfl rfl (cells_new (wr.drewN nq) _ _) (by simp [Value.oneCell']) (by decide) (by unfold maxLen;omega) (by omega) (by simp;omega) _ rfl ?_;intro g cap w2 hown2 hgrow2 hat2 hlt2;have hM2:Mod Nowhere w w2:=((hm.out.drewN nq).alloc _).step ((Mod.refl (Above w.heap.size) _).app hownA.out hgrow2) (fun i hi e=>by have e:w.heap.size≤i:=e;omega);clear hgrow2 hat2;replace hown2:=Lib.hid hown2;replace hM2:=Lib.hid hM2)
   go_roundg r
   case measure=>rw [hgg.out];omega
   case rel =>
    refine ⟨rest,xs ++ [(.slice (some ⟨bb,o8,none⟩) q q,ch)],o9,c8 - q,by rw [hEr.out],by rw [hEr.out],?_,by rw [hEr.out];have:=hc8.out;omega,by have:=hc8.out;omega,by rw [hEr.out];exact T9.out,?_,?_,hM2.out⟩
    ·rw [hL.out];simp [chs]
    ·rw [List.length_append,chsCells_append]
     have e:chsCells [((.slice (some ⟨bb,o8,none⟩) q q:Value),ch)] = [.int .i64 (o1:Int),.slice (some ⟨bb,o8,none⟩) q q]:=by
      show [Value.int .i64 ((ch.1:Nat):Int),_] = _
      rw [hch1.out]
     rw [e];exact hown2.out
    ·intro x hx;rcases List.mem_append.1 hx with hx | hx
     ·exact hxs.out x hx
     ·have e:x = (.slice (some ⟨bb,o8,none⟩) q q,ch):=by simpa using hx
      subst e;refine ⟨?_,fun k hk=>by simpa [Value.ownBlock] using hk⟩
      show Sl w _ _ 1 ch.2.length _
      rw [hql.out];exact D3.out
end Go.Proofs.YtanioleniadhoaaGreat
/-
 Maps from numbers to whatever values, as functions.
-/
namespace Go.Proofs.YtanioleniadhoaaGreat
open Go.RowKit
open Go.Maps (int_keyed keyOf_int_mk)
def tokR (v:Value):Option (DataW Value × List MemPlace):=some (.held v,[])
def ik (k:Nat):Lit:=.int .i64 (k:Int)
theorem ik_wf {k:Nat} (h:k < 9223372036854775808):(ik k).wf = true:=by
 unfold ik Lit.wf;simp [IntKind.min,IntKind.max,IntKind.signed,IntKind.bits];omega
theorem ik_ne {a b:Nat} (h:a ≠ b):ik a ≠ ik b:=fun e=>by unfold ik at e;simp at e;omega
theorem ik_key (k:Nat):WideAt.IsKeyLit (ik k):=trivial
structure IMap (w:World) (b n:Nat) (f:Nat→Option Value):Prop where
 ex:∃ D:DataW Value,w.ownsMap Tryz.prog 3 tokR b n D∧∀ k,Maps.has D (ik k) = (f k).isSome∧∀ v,f k = some v→∀ z,D.atKey (ik k) z = .held v
theorem ikeyed:Maps.Keyed Tryz.prog 3:=int_keyed Tryz.underlying3
theorem IMap.lt {w:World} {b n:Nat} {f:Nat→Option Value} (h:IMap w b n f):b < w.heap.size:=h.ex.elim fun _ ⟨h,_⟩=>h.lt
theorem IMap.mod {w w':World} {b n:Nat} {f:Nat→Option Value} {S:Nat→Prop} (h:IMap w b n f) (hm:Mod S w w') (hb:¬ S b):IMap w' b n f:=by
 obtain ⟨D,⟨es,clock,h1,h2⟩,h3⟩:=h.ex;exact ⟨D,⟨es,clock,(hm.block b (Array.getElem?_eq_some_iff.1 h1).1 hb).trans h1,h2⟩,h3⟩
theorem IMap.mono {w:World} {b n n':Nat} {f:Nat→Option Value} (h:IMap w b n f) (hn:n≤n'):IMap w b n' f:=by
 obtain ⟨D,h1,h2⟩:=h.ex;exact ⟨D,h1.mono hn,h2⟩
theorem IMap.congr {w:World} {b n:Nat} {f g:Nat→Option Value} (h:IMap w b n f) (e:∀ k,f k = g k):IMap w b n g:=by
 obtain ⟨D,h1,h2⟩:=h.ex;exact ⟨D,h1,fun k=>by rw [← e k];exact h2 k⟩
theorem IMap.made (w:World):IMap (w.alloc (.map #[] 0)) w.heap.size 0 (fun _=>none) :=
 ⟨.map [],World.ownsMap_made _ _ _ _,fun k=>⟨rfl,fun v h=>by cases h⟩⟩
theorem IMap.look_ok {w:World} {b n:Nat} {f:Nat→Option Value} (h:IMap w b n f) {t e:TypeId} (ht:Tryz.prog.underlying t = some (.map 3 e)) {z:Value} (hz:(zeroValue e).run Tryz.prog w = .ok z w) {k:Nat} (hk:k < 9223372036854775808) :
  (Instr.lookup t (.map (some b)) (.int .i64 k) true).run Tryz.prog w = .ok (.tuple #[(f k).getD z,.bool (f k).isSome]) w:=by
 obtain ⟨D,h1,h2⟩:=h.ex;obtain ⟨v,ps,hrun,hv⟩:=h1.look_ok ikeyed ht hz (zd:=.held z) (zp:=[]) rfl (keyOf_int_mk Tryz.underlying3 (ik_wf hk));obtain ⟨h3,h4⟩:=h2 k;rw [hrun];have h3':Maps.has D (.int .i64 (k:Int)) = (f k).isSome:=h3;have hv':tokR v = some (D.atKey (ik k) (.held z),ps):=hv;rw [h3']
 cases hf:f k with
 | none =>
  rw [hf] at h3;rw [Maps.atKey_of_not_has h3] at hv';simp only [tokR,Option.some.injEq,Prod.mk.injEq,DataW.held.injEq] at hv';rw [hv'.1];rfl
 | some u =>
  rw [h4 u hf] at hv';simp only [tokR,Option.some.injEq,Prod.mk.injEq,DataW.held.injEq] at hv';rw [hv'.1];rfl
theorem IMap.look {w:World} {b n:Nat} {f:Nat→Option Value} (h:IMap w b n f) {t e:TypeId} (ht:Tryz.prog.underlying t = some (.map 3 e)) {z:Value} (hz:(zeroValue e).run Tryz.prog w = .ok z w) {k:Nat} (hk:k < 9223372036854775808) :
  (Instr.lookup t (.map (some b)) (.int .i64 k) false).run Tryz.prog w = .ok ((f k).getD z) w:=by
 obtain ⟨D,h1,h2⟩:=h.ex;obtain ⟨v,ps,hrun,hv⟩:=h1.lookup ikeyed ht hz (zd:=.held z) (zp:=[]) rfl (keyOf_int_mk Tryz.underlying3 (ik_wf hk));obtain ⟨h3,h4⟩:=h2 k;rw [hrun];have hv':tokR v = some (D.atKey (ik k) (.held z),ps):=hv
 cases hf:f k with
 | none =>
  rw [hf] at h3;rw [Maps.atKey_of_not_has h3] at hv';simp only [tokR,Option.some.injEq,Prod.mk.injEq,DataW.held.injEq] at hv';rw [hv'.1];rfl
 | some u =>
  rw [h4 u hf] at hv';simp only [tokR,Option.some.injEq,Prod.mk.injEq,DataW.held.injEq] at hv';rw [hv'.1];rfl
theorem mod_turned {w w':World} {b:Nat} (h:w.mapTurned w' b):Mod (fun k=>k = b) w w':=by
 obtain ⟨es,clock,es',clock',hb,rfl⟩:=h;exact ⟨rfl,rfl,rfl,by simp [ChangeMaps.setBlock],fun k _ hn=>ChangeMaps.heap_setBlock_other hb _ hn⟩
theorem wpList_imap_put {w:World} {ops:Array Oper} {rest:List Oper} {o:Oper} {a:Act} {Q:Exit→Act→World→Prop} (hg:o.guard = none) (m x v:Operand) (t:TypeId) (hop:o.op = Op.mapUpdate t m x v) (e:TypeId) (ht:Tryz.prog.underlying t = some (.map 3 e))
  (b n k:Nat) (f:Nat→Option Value) (u:Value) (hm:a.eval m = .map (some b)) (h:IMap w b n f) (hn:n < maxLen) (hx:a.eval x = .int .i64 k) (hv:a.eval v = u) (hk:k < 9223372036854775808)
  (hK:∀ w',IMap w' b (n + 1) (fun j=>if j = k then some u else f j)→Mod (fun j=>j = b) w w'→wpList Tryz.prog ops Q rest (a.put o.dst undef) w'):wpList Tryz.prog ops Q (o :: rest) a w:=by
 obtain ⟨D,h1,h2⟩:=h.ex;have hkey:keyOf Tryz.prog 3 (.int .i64 (k:Int)) = some (ik k):=keyOf_int_mk Tryz.underlying3 (ik_wf hk);refine wpList_mapUpdate_in w hg m x v t hop 3 e ikeyed ht tokR b n D hm h1 hn (.int .i64 (k:Int)) u (ik k) hx hv hkey (.held u) [] rfl ?_;intro w' h3 h4;have hD:Maps.IsMap D:=by obtain ⟨es,clock,_,_,_,hD⟩:=h1;exact ⟨_,hD⟩
 refine hK w' ⟨_,h3,fun j=>?_⟩ (mod_turned h4);by_cases e:j = k
 ·subst e;rw [if_pos rfl];exact ⟨by rw [Maps.has_put_same hD (ik_key _)];rfl,fun v' hv' z=>by cases hv';exact Maps.atKey_put_same hD (ik_key _) _ _⟩
 ·rw [if_neg e];obtain ⟨h5,h6⟩:=h2 j;exact ⟨by rw [Maps.has_put_other (ik_ne e)];exact h5,fun v' hv' z=>by rw [Maps.atKey_put_other (ik_ne e)];exact h6 v' hv' z⟩
end Go.Proofs.YtanioleniadhoaaGreat
