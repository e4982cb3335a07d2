/-
  Numbers of four bytes, put and read again, on both sides; joining of the reference.
-/
import Derived.Test.YtanioleniadhoaaGreatAG29
import Derived.Test.YtanioleniadhoaaGreatAK22
set_option linter.unusedVariables false
set_option linter.unusedSimpArgs false
set_option maxHeartbeats 4000000
set_option maxRecDepth 100000
namespace Go.Proofs.YtanioleniadhoaaGreat
open Go.RowKit
open Jn
attribute [local go_sem] Oper.semAt_some
theorem be_by4 (n:Nat):be 4 n = Cy.by4 n:=by
 show [] ++ [n / 256 / 256 / 256 % 256] ++ [n / 256 / 256 % 256] ++ [n / 256 % 256] ++ [n % 256] = _
 rw [Nat.div_div_eq_div_mul n 256 256,Nat.div_div_eq_div_mul n (256 * 256) 256]
 rfl
theorem made4 (W:World):(Instr.makeSlice 22 (.int .i64 4) (.int .i64 4)).run Tryz.prog W = .ok (.slice (some ⟨W.heap.size,0,none⟩) 4 4) (W.alloc (.cells (u8s [0,0,0,0]).toArray 5)):=by
 have:=run_make_full (P:=Tryz.prog) 22 5 (.int .u8 0) 1 Tryz.underlying22 info_u8 rfl 4 (by omega) (by omega) W;simpa [List.replicate,u8s] using this
theorem num_num4 {l:List Nat} (h:l.length = 4):num l = Cy.num4 l 0:=by
 match l,h with
 | [a,b,c,d],_ =>
  show (((0 * 256 + a) * 256 + b) * 256 + c) * 256 + d = a * 16777216 + b * 65536 + c * 256 + d
  omega
theorem num4_take (l:List Nat) (h:4≤l.length):Cy.num4 (l.take 4) 0 = Cy.num4 l 0:=by
 match l,h with
 | a :: b :: c :: d :: l,_=>rfl
theorem oPut_ok (w:World) {n:Nat} (hn:n < 4294967296) :
  Calls Tryz.prog 89 #[.int .i64 (n:Int),.int .i64 4] w fun e w'=>e = .returned (.tuple #[.slice (some ⟨w.heap.size,0,none⟩) 4 4,errno 0])∧Blk w' w.heap.size (u8s (Cy.by4 n)) 5∧Mod Nowhere w w':=by
 have hmk:=made4 w;have hb0:=Blk.new w (u8s [0,0,0,0]) 5;have hm0:Mod Nowhere w (w.alloc (.cells (u8s [0,0,0,0]).toArray 5)):=(Mod.refl _ w).alloc _;have hbp:u8s [0,0,0,0] = u8s (bePart 4 n 0):=by rw [bePart_zero];rfl
 rw [hbp] at hmk hb0 hm0;generalize hZ:(u8s (bePart 4 n 0)).toArray = Z at hmk hb0 hm0;have hq1:(n:Int) / 4294967296 = 0:=by omega
 have hq2:(n:Int) / 2 ^ 32 = 0:=by omega
 clear hbp;refine hid2 ?_ hZ hb0;clear hZ hb0;intro hZ hb0;go_enter Tryz.func89,Tryz.ntmps89;go_wp2
 go_loopw [31] (fun i wr=>∃ k:Nat,k≤4∧i = .int .i64 k∧Blk wr w.heap.size (u8s (bePart 4 n k)) 5∧Mod Nowhere w wr) (fun i _=>4 - (intOf i).toNat)
 case atStart=>exact ⟨0,by omega,rfl,hb0.out,hm0⟩
 case round =>
  obtain ⟨k,hk,rfl,hbk,hmk2⟩:=hrel;by_cases hlt:k < 4
  ·have hz:=hbk.frozen;have hl:=hbk.lt;have hlen:=bePart_len 4 n k
   have hc:wr.cell? ⟨w.heap.size,3 - k,none⟩ = some (.int .u8 ((bePart 4 n k).getD (3 - k) 0:Nat)):=by
    rw [hbk.cell];simp [u8s,gd0,List.getElem?_map,List.getElem?_eq_getElem (show 3 - k < (bePart 4 n k).length by omega)]
   generalize (bePart 4 n k).getD (3 - k) 0 = old at hc;have hs:=bePart_succ 4 n k hlt;rw [show 4 - 1 - k = 3 - k by omega] at hs;have hix:(3:Int) - (k:Int) = ((3 - k:Nat):Int):=by omega
   have hi3:3 - k < 4:=by omega
   generalize hj:3 - k = j at *;refine hid4 ?_ hs hbk hmk2 hj;clear hs hbk hmk2 hj;intro hs hbk hmk2 hj;go_wp2;go_roundw
   case rel =>
    refine ⟨k + 1,by omega,by go_num,((hbk.out.setCell j _).conv ?_),hmk2.out.setCell (p:=⟨w.heap.size,_,none⟩) (fun h=>by have h:w.heap.size < w.heap.size:=h;omega) _⟩
    have e1:(n:Int) / 2 ^ (8 * k) % 256 = ((n / 256 ^ k % 256:Nat):Int):=by
     rw [show (256:Nat) ^ k = 2 ^ (8 * k) by rw [Nat.pow_mul]];simp
    rw [e1,← hs.out];simp [u8s,List.map_set]
   case measure=>simp [intOf];omega
  ·obtain rfl:k = 4:=by omega
   rw [bePart_all,be_by4] at hbk;replace hbk:=Lib.hid hbk;go_wp2
   go_ret2
   exact ⟨rfl,hbk.out,hmk2⟩
theorem oGet_ok {w:World} {v:Value} {l:List Nat} (h:Src w v l) (hb:Bytes l) (hl:l.length≤6) :
  Calls Tryz.prog 93 #[v] w fun e w'=>e = .returned (.tuple #[.int .i64 (num l:Nat),errno 0])∧w = w':=by
 have hn:num l < 36028797018963968:=by
  have:=num_lt l hb;have h2:256 ^ l.length≤256 ^ 6:=Nat.pow_le_pow_right (by decide) hl;omega
 obtain ⟨a,cap,rfl,h1,h2,h3⟩:=h;refine hid2 ?_ hb h3;clear hb h3;intro hb h3;go_enter Tryz.func93,Tryz.ntmps93;go_wp2
 go_loop [4,12] (fun n i=>∃ k:Nat,k≤l.length∧i = .int .i64 k∧n = .int .i64 (num (l.take k):Nat)) (fun _ i=>l.length - (intOf i).toNat)
 case atStart=>exact ⟨0,by omega,rfl,by simp [num]⟩
 case round =>
  obtain ⟨k,hk,rfl,rfl⟩:=hrel;have hle:=num_take l k;by_cases hlt:k < l.length
  ·obtain ⟨b,off,rfl,hbl,hc⟩:=h3.out (by omega);have hck:=hc k (by omega);have hx:=hb.out k;have hs:=num_take_succ l k hlt;have hw:=num_word (num (l.take k)) (l.getD k 0) (by omega) hx;generalize l.getD k 0 = x at *;generalize num (l.take k) = n0 at *;clear hc;replace hs:=Lib.hid hs;go_wp2
   go_round
   case rel=>exact ⟨k + 1,by omega,by go_num,by rw [hs.out];go_num⟩
   case measure=>simp [intOf];omega
  ·obtain rfl:k = l.length:=by omega
   rw [List.take_length];go_wp2
   go_ret2
   exact ⟨rfl,rfl⟩
theorem rGet01_ok {w:World} {v:Value} {l:List Nat} (h:Src w v l) (hb:Bytes l) (hl:l.length≤6) :
  Calls Tryz.prog 95 #[v] w fun e w'=>e = .returned (.tuple #[.int .i64 (num l:Nat),errno 0])∧w = w':=by
 have hn:num l < 36028797018963968:=by
  have:=num_lt l hb;have h2:256 ^ l.length≤256 ^ 6:=Nat.pow_le_pow_right (by decide) hl;omega
 have hn8:((l.length:Int) == 8) = false:=by simp;omega
 obtain ⟨a,cap,rfl,h1,h2,h3⟩:=h;refine hid2 ?_ hb h3;clear hb h3;intro hb h3;go_enter Tryz.func95,Tryz.ntmps95;go_wp2
 go_loop [4,5] (fun n i=>∃ k:Nat,k≤l.length∧i = .int .i64 k∧n = .int .i64 (num (l.take k):Nat)) (fun _ i=>l.length - (intOf i).toNat)
 case atStart=>exact ⟨0,by omega,rfl,by simp [num]⟩
 case round =>
  obtain ⟨k,hk,rfl,rfl⟩:=hrel;have hle:=num_take l k;by_cases hlt:k < l.length
  ·obtain ⟨b,off,rfl,hbl,hc⟩:=h3.out (by omega);have hck:=hc k (by omega);have hx:=hb.out k;have hs:=num_take_succ l k hlt;generalize l.getD k 0 = x at *;generalize num (l.take k) = n0 at *;clear hc;replace hs:=Lib.hid hs;go_wp2
   go_round
   case rel=>exact ⟨k + 1,by omega,by go_num,by rw [hs.out];go_num⟩
   case measure=>simp [intOf];omega
  ·obtain rfl:k = l.length:=by omega
   rw [List.take_length];go_wp2
   go_ret2
   exact ⟨rfl,rfl⟩
theorem rPut01_ok (w:World) {n:Nat} (hn:n < 4294967296) :
  Calls Tryz.prog 91 #[.int .i64 (n:Int),.int .i64 4] w fun e w'=>e = .returned (.tuple #[.slice (some ⟨w.heap.size,0,none⟩) 4 4,errno 0])∧Blk w' w.heap.size (u8s (Cy.by4 n)) 5∧Mod Nowhere w w':=by
 have hmk:=made4 w;have hb0:=Blk.new w (u8s [0,0,0,0]) 5;have hm0:Mod Nowhere w (w.alloc (.cells (u8s [0,0,0,0]).toArray 5)):=(Mod.refl _ w).alloc _;have hbp:u8s [0,0,0,0] = u8s (bePart 4 n 0):=by rw [bePart_zero];rfl
 rw [hbp] at hmk hb0 hm0;generalize hZ:(u8s (bePart 4 n 0)).toArray = Z at hmk hb0 hm0;clear hbp;refine hid2 ?_ hZ hb0;clear hZ hb0;intro hZ hb0;go_enter Tryz.func91,Tryz.ntmps91;go_wp2
 go_loopw [0,7] (fun x i wr=>∃ k:Nat,k≤4∧i = .int .i64 (3 - (k:Int))∧x = .int .i64 ((n / 256 ^ k:Nat):Int)∧Blk wr w.heap.size (u8s (bePart 4 n k)) 5∧Mod Nowhere w wr) (fun _ i _=>(intOf i + 1).toNat)
 case atStart=>exact ⟨0,by omega,rfl,by simp,hb0.out,hm0⟩
 case round =>
  obtain ⟨k,hk,rfl,rfl,hbk,hmk2⟩:=hrel;by_cases hlt:k < 4
  ·have hz:=hbk.frozen;have hl:=hbk.lt;have hlen:=bePart_len 4 n k
   have hc:wr.cell? ⟨w.heap.size,3 - k,none⟩ = some (.int .u8 ((bePart 4 n k).getD (3 - k) 0:Nat)):=by
    rw [hbk.cell];simp [u8s,gd0,List.getElem?_map,List.getElem?_eq_getElem (show 3 - k < (bePart 4 n k).length by omega)]
   generalize (bePart 4 n k).getD (3 - k) 0 = old at hc;have hs:=bePart_succ 4 n k hlt;rw [show 4 - 1 - k = 3 - k by omega] at hs;have hix:(3:Int) - (k:Int) = ((3 - k:Nat):Int):=by omega
   have hi3:3 - k < 4:=by omega
   have hd:=Nat.div_div_eq_div_mul n (256 ^ k) 256;rw [← Nat.pow_succ] at hd;have hnk:n / 256 ^ k≤n:=Nat.div_le_self _ _;have hj2:(3:Int) - ((k + 1:Nat):Int) = ((3 - k:Nat):Int) - 1:=by omega
   generalize hj:3 - k = j at *;generalize n / 256 ^ k = y at *;have ht1:(y:Int).tmod 256 = ((y % 256:Nat):Int):=by rw [Int.tmod_eq_emod_of_nonneg (by omega)];omega
   have ht2:(y:Int).tdiv 256 = ((y / 256:Nat):Int):=by rw [Int.tdiv_eq_ediv_of_nonneg (by omega)];omega
   have hy:y % 256 < 256:=Nat.mod_lt _ (by decide);have hyn:y / 256 < 4294967296:=by omega
   generalize y % 256 = z at *;generalize hy2:y / 256 = y2 at *;rw [hix];have hge:(0:Int)≤(j:Int):=by omega
   refine hid7 ?_ hs hbk hmk2 hj hd hy2 hix;clear hs hbk hmk2 hj hd hy2 hix;intro hs hbk hmk2 hj hd hy2 hix;go_wp2;go_roundw
   case rel =>
    refine ⟨k + 1,by omega,by rw [hj2],by rw [← hd.out] <;> go_num,((hbk.out.setCell j _).conv ?_),hmk2.out.setCell (p:=⟨w.heap.size,_,none⟩) (fun h=>by have h:w.heap.size < w.heap.size:=h;omega) _⟩;rw [← hs.out];simp [u8s,List.map_set]
   case measure=>simp [intOf]
  ·obtain rfl:k = 4:=by omega
   rw [bePart_all,be_by4] at hbk;have h0:n / 256 ^ 4 = 0:=by omega
   rw [h0];replace hbk:=Lib.hid hbk;go_wp2
   go_ret2
   exact ⟨rfl,hbk.out,hmk2⟩
theorem rJoin_ok {w:World} {v:Value} {xs:List (Value × List Nat)} (h:Sl w v 22 1 xs.length (xs.map (·.1))) (hx:∀ x ∈ xs,Src w x.1 x.2) (hxl:xs.length≤1000) (hn:(cat xs).length≤1099511627776) :
  Calls Tryz.prog 92 #[v] w fun e w'=>∃ v',e = .returned v'∧w'.ownsRow w.heap.size 5 1 v' (cat xs).length (u8s (cat xs))∧Mod Nowhere w w':=by
 obtain ⟨i0,hi0,hz0,hz1,hz2⟩:=info_parts info_u8;obtain ⟨a,cap,rfl,h1,h2,hcells⟩:=h.gen;refine hid2 ?_ h hx;clear h hx;intro h hx;clear hcells;go_enter Tryz.func92,Tryz.ntmps92;go_wp2
 go_loopg [3,4] xs.length (fun gg vv i wr=>∃ k:Nat,k≤xs.length∧gg + k = xs.length∧i = .int .i64 k∧wr.ownsRow w.heap.size 5 1 vv (cat (xs.take k)).length (u8s (cat (xs.take k)))∧Mod Nowhere w wr)
 case atStart=>exact ⟨0,by omega,by omega,rfl,World.ownsRow_nil _ _ _ _,Mod.refl _ _⟩
 case round =>
  obtain ⟨k,hk,hgg,rfl,hown,hm⟩:=hrel;have hle:=cat_le xs k;by_cases hlt:k < xs.length
  ·have hsl:=h.out.mod hm (fun _ _=>id);obtain ⟨b,off,cap',e0,hbl,_,_,hc,hz⟩:=hsl.open (by omega);have hck:=hc k (by omega);have hct:=cat_take xs k hlt;have hle2:=cat_le xs (k + 1);rw [hct,List.length_append] at hle2
   have e1:(xs.map (·.1)).getD k default = xs[k].1:=by simp [gd0,hlt]
   rw [e1] at hck;have hxk:=(hx.out xs[k] (List.getElem_mem hlt)).fresh hm;obtain ⟨vb,vcap,rfl,hvc⟩:=owns_form hown
   obtain ⟨rfl,rfl⟩:a = some ⟨b,off,none⟩∧cap = cap':=by
    simp at e0;exact ⟨e0.1,e0.2⟩
   clear hc;obtain ⟨va,vc,w2,hrun,ho2,hm2⟩:=append_to rfl hown hxk (by omega) hm.size 22;obtain ⟨xa,xc,e2,_,_,_⟩:=hxk;rw [e2] at hck hrun;rw [← hct] at ho2;have hM2:Mod Nowhere w w2:=hm.step hm2 (fun i hi e=>by have e:w.heap.size≤i:=e;omega);have hlen:(cat (xs.take (k + 1))).length = (cat (xs.take k)).length + xs[k].2.length:=by rw [hct,List.length_append]
   rw [← hlen] at ho2 hrun;clear hown hm hm2 hsl hct hlen;generalize hs2:(cat (xs.take (k + 1))).length = s2 at *;generalize (cat (xs.take k)).length = s at *;generalize xs[k].2.length = q at *;refine hid5 ?_ ho2 hM2 e1 e2 hs2;clear ho2 hM2 e1 e2 hs2;intro ho2 hM2 e1 e2 hs2
   go_wp2_with (at_builtin;refine Lib.wpList_append_run _ rfl _ _ _ _ rfl _ _ rfl rfl _ _ hrun ?_)
   go_roundg (xs.length - (k + 1))
   case measure=>omega
   case rel=>exact ⟨k + 1,by omega,by omega,by go_num,by rw [hs2.out];exact ho2.out,hM2.out⟩
  ·obtain rfl:k = xs.length:=by omega
   rw [List.take_length] at hown;replace hown:=Lib.hid hown;go_wp2;go_ret;exact ⟨_,rfl,hown.out,hm⟩
end Go.Proofs.YtanioleniadhoaaGreat
namespace Go.Proofs.YtanioleniadhoaaGreat
open Go.RowKit
open Jn Vn Rg Tk
attribute [local go_sem] Oper.semAt_some
structure NC (W0 W:World) (A:VAt) (m:Mem) (s:VSt) (n k last seen:Nat):Prop where
 vl:Vl W A m s n
 st:NSt s last seen
 xb:XB 2 1 4 A.Z
 co:vcost A≤63924
 ct:A.count = 64∧A.frames = 76
 cu:m.cuts≤k
 nw:∀ i,A.S i→W0.heap.size≤i
 md:Mod Nowhere W0 W
structure NGone (W0 W:World) (M:MemAt) (m:Mem) (n k a b:Nat):Prop where
 rep:MemRep W M m
 ex:∃ f,VMem m 64 76 f∧(f = nIt a ∨ f = nIt b)
 clean:m.Clean
 good:m.Good
 c240:240≤m.size
 cC:m.size / 24 = 64
 cN:m.size / 20 = 76
 room:m.writes + n≤m.endu
 cu:m.cuts≤k
 nw:∀ i,M.S i→W0.heap.size≤i
 md:Mod Nowhere W0 W
section
variable {W0 W W' : World} {A : VAt} {M : MemAt} {m : Mem} {s s' : VSt} {n n' k last seen l2 s2 a b : Nat} {e : Ending}
theorem NC.fresh (h:NC W0 W A m s n k last seen) (hm:Mod Nowhere W W'):NC W0 W' A m s n k last seen:={ h with vl:=h.vl.fresh hm,md:=h.md.trans hm }
theorem NGone.fresh (h:NGone W0 W M m n k a b) (hm:Mod Nowhere W W'):NGone W0 W' M m n k a b:={ h with rep:=h.rep.mod hm (fun _ _=>id),md:=h.md.trans hm }
theorem NC.less (h:NC W0 W A m s n k last seen) (hk:n'≤n):NC W0 W A m s n' k last seen:={ h with vl:=h.vl.less hk }
theorem NC.step (h:NC W0 W A m s n k last seen) (hm:Mod A.S W W'):Mod Nowhere W0 W':=h.md.step hm fun i hi e=>by have:=h.nw i e;omega
theorem NC.call (h:NC W0 W A m s (n + 63924) k last seen) {er c:Nat} (hc0:c≤vcost A) (hc:VCall W A m s s' er c e W') (hs:NSt s' l2 s2) (hl:s'.l.length≤1000) (hk:k < k + 1) :
  (e = .returned (errno er)∧∃ m',NC W0 W' A m' s' n k l2 s2∧m'.pending = m.pending) ∨ (e = .returned (errno 7)∧m.pending = true∧∃ m',NGone W0 W' A.M m' n (k + 1) last l2∧m'.off = true):=by
 have hst:=fun hm=>h.step (W':=W') hm;have hco:=h.co;have h1:Vl W A m s ((n + (63924 - c)) + c):=h.vl.less (by omega);rcases hc.vl h1 hl with ⟨m',p1,p2,p3,p4,p5,p6⟩ | ⟨m',f,p1,p2,p3,p4,p5⟩
 ·exact .inl ⟨p1,m',⟨p2.less (by omega),hs,h.xb,h.co,h.ct,by rw [p4];exact h.cu,h.nw,hst p6⟩,p3⟩
 ·refine .inr ⟨p1,p4.pend,m',⟨p3.mem,⟨f,by rw [← h.ct.1,← h.ct.2];exact p3.vmem,?_⟩,p4.clean h.vl.clean,p4.good,by rw [p4.size];exact h.vl.c240,by rw [p4.size,h.vl.cC,h.ct.1],by rw [p4.size,h.vl.cN,h.ct.2],?_,by have:=h.cu;rw [p4.cuts];omega,fun i hi=>h.nw i (.inr (.inr hi)),hst p5⟩,p4.off⟩
  ·rcases p2 with rfl | rfl
   ·exact .inl h.st.f
   ·exact .inr hs.f
  ·have g1:=h.vl.room.endu;have g2:=p4.hi;rw [p4.endu];omega
theorem NC.sure (h:NC W0 W A m s (n + 63924) k last seen) {er c:Nat} (hc0:c≤vcost A) (hc:VCall W A m s s' er c e W') (hs:NSt s' l2 s2) (hl:s'.l.length≤1000) (hp:m.pending = false) :
  e = .returned (errno er)∧∃ m',NC W0 W' A m' s' n k l2 s2∧m'.pending = false:=by
 rcases h.call hc0 hc hs hl (Nat.lt_succ_self _) with ⟨a,m',b,c⟩ | ⟨-,a,-⟩
 ·exact ⟨a,m',b,c.trans hp⟩
 ·rw [hp] at a;cases a
theorem VCall.md {er c:Nat} (hc:VCall W A m s s' er c e W'):Mod A.S W W':=by rcases hc with ⟨_,_,_,_,_,_,g⟩ | ⟨_,_,_,_,_,_,g⟩ <;> exact g
theorem NC.begin (h:NC W0 W A m s (n + 63924) k last last) (ha:s.act = false) (hp:m.pending = false) :
  Calls Tryz.prog 34 #[ptr A.vb] W fun e w'=>e = .returned (errno 0)∧(∃ m',NC W0 w' A m' ⟨s.f,true,[]⟩ n k last last∧m'.pending = false)∧Mod A.S W w':=by
 have h2:=vBegin_ok h.vl.rep;rw [vBegin_x,if_neg (by rw [ha];decide)] at h2;refine h2.mono fun e w' hc=>?_
 have hs:NSt (⟨s.f,true,[]⟩:VSt) last last:=by
  rw [h.st.f];exact NSt.begun last
 obtain ⟨q1,q2⟩:=h.sure (Nat.zero_le _) hc hs (Nat.zero_le _) hp;exact ⟨q1,q2,hc.md⟩
def NOut (W0:World) (A:VAt) (m:Mem) (s':VSt) (n k a l2 s2:Nat) (er:Nat) (w':World):Prop :=
 (er = 0∧∃ m',NC W0 w' A m' s' n k l2 s2∧m'.pending = m.pending) ∨ (er = 7∧m.pending = true∧∃ m',NGone W0 w' A.M m' n (k + 1) a l2∧m'.off = true)
theorem NC.abort (h:NC W0 W A m s (n + 63924) k last seen) (ha:s.act = true) :
  Calls Tryz.prog 37 #[ptr A.vb] W fun e w'=>∃ er:Nat,e = .returned (errno er)∧NOut W0 A m (xIdle (nIt last)) n k last last last er w'∧Mod A.S W w':=by
 have h2:=vAbort_ok h.vl.rep;rw [vAbort_x,if_pos ha,h.st.f] at h2;refine h2.mono fun e w' hc=>?_;rcases h.call (Nat.zero_le _) hc (NSt.idle last) (Nat.zero_le _) (Nat.lt_succ_self _) with ⟨q1,q2⟩ | ⟨q1,q2⟩
 ·exact ⟨0,q1,.inl ⟨rfl,q2⟩,hc.md⟩
 ·exact ⟨7,q1,.inr ⟨rfl,q2⟩,hc.md⟩
theorem NC.commit (h:NC W0 W A m s (n + 63924) k last seen) (ha:s.act = true) :
  Calls Tryz.prog 38 #[ptr A.vb] W fun e w'=>∃ er:Nat,e = .returned (errno er)∧NOut W0 A m (xIdle (nIt seen)) n k last seen seen er w'∧Mod A.S W w':=by
 have hco:=h.co;have h2:=vCommit_ok h.vl.rep (by have:=h.vl.len;omega) (h.vl.room.mono (by omega));rw [vCommit_x h.st.x h.xb,if_pos ha,h.st.v] at h2;refine h2.mono fun e w' hc=>?_;rcases h.call (Nat.le_refl _) hc (NSt.idle seen) (Nat.zero_le _) (Nat.lt_succ_self _) with ⟨q1,q2⟩ | ⟨q1,q2⟩
 ·exact ⟨0,q1,.inl ⟨rfl,q2⟩,hc.md⟩
 ·exact ⟨7,q1,.inr ⟨rfl,q2⟩,hc.md⟩
theorem NC.cut (h:NC W0 W A m s n k last seen) {c:Nat} (hn:c < 9223372036854775808):Calls Tryz.prog 35 #[ptr A.M.mb,.int .i64 c] W fun e w'=>e = .returned (errno 0)∧(∃ m',NC W0 w' A m' s n k last seen)∧Mod A.S W w':=by
 refine (Cut_ok h.vl.rep.mem.1 h.vl.rep.mem.2.1 c hn).mono fun e w' hp=>?_;obtain ⟨rfl,hr,hm⟩:=hp;have hmS:Mod A.S W w':=hm.mono fun _ _ e=>.inr (.inr e);have hv:=h.vl;exact ⟨rfl,⟨m.cut c,{ h with vl:=⟨hv.rep.replan hm hr rfl rfl rfl rfl,hv.len,⟨hv.room.endu,hv.room.cuts⟩,hv.cost,hv.clean.of rfl,hv.c240,hv.cC,hv.cN,hv.c33⟩,cu:=h.cu,md:=h.step hmS }⟩,hmS⟩
theorem NC.power (h:NC W0 W A m s n k last seen):Calls Tryz.prog 39 #[ptr A.M.mb] W fun e w'=>e = .returned (.bool true)∧W = w':=by
 have:=Power_ok h.vl.rep.mem.1;rw [h.vl.rep.mem.2.1] at this;exact this
theorem NGone.power (h:NGone W0 W M m n k a b) (ho:m.off = true):Calls Tryz.prog 39 #[ptr M.mb] W fun e w'=>e = .returned (.bool false)∧W = w':=by
 have:=Power_ok h.rep;rw [ho] at this;exact this
theorem NC.restore (h:NC W0 W A m s n k last seen):Calls Tryz.prog 40 #[ptr A.M.mb] W fun e w'=>e = .returned (.tuple #[])∧(∃ m',NC W0 w' A m' s n k last seen∧m'.pending = false)∧Mod A.S W w':=by
 refine (Restore_ok h.vl.rep.mem.1).mono fun e w' hp=>?_;obtain ⟨rfl,hr,hm⟩:=hp;have hmS:Mod A.S W w':=hm.mono fun _ _ e=>.inr (.inr e);have hv:=h.vl;exact ⟨rfl,⟨m.restore,{ h with vl:=⟨hv.rep.replan hm hr rfl rfl rfl hv.rep.mem.2.1.symm,hv.len,⟨hv.room.endu,hv.room.cuts⟩,hv.cost,hv.clean.of rfl,hv.c240,hv.cC,hv.cN,hv.c33⟩,cu:=h.cu,md:=h.step hmS },rfl⟩,hmS⟩
theorem NGone.restore (h:NGone W0 W M m n k a b):Calls Tryz.prog 40 #[ptr M.mb] W fun e w'=>e = .returned (.tuple #[])∧(∃ m',NGone W0 w' M m' n k a b∧m'.off = false∧m'.pending = false)∧Mod M.S W w':=by
 refine (Restore_ok h.rep).mono fun e w' hp=>?_;obtain ⟨rfl,hr,hm⟩:=hp;obtain ⟨f,a1,a2⟩:=h.ex;exact ⟨rfl,⟨m.restore,{ h with rep:=hr,ex:=⟨f,a1.of rfl rfl,a2⟩,clean:=h.clean.of rfl,good:=h.good.of rfl,md:=h.md.step hm fun i hi e=>by have:=h.nw i e;omega },rfl,rfl⟩,hm⟩
theorem NGone.mount (h:NGone W0 W M m (n + 62580) k a b) (ho:m.off = false) (hp:m.pending = false) (hk:k≤1000) :
  Calls Tryz.prog 41 #[ptr M.mb] W fun e w'=>∃ A m' j,e = .returned (.tuple #[ptr A.vb,errno 0])∧A.M = M∧(j = a ∨ j = b)∧NC W0 w' A m' (xIdle (nIt j)) n k j j∧m'.pending = false∧Mod M.S W w':=by
 obtain ⟨f,a1,a2⟩:=h.ex;have hcu:=h.cu;have hro:=h.room;refine (vMount_ok h.rep ho h.clean h.good h.c240 h.cC h.cN (by decide) a1 ⟨Nat.le_trans (Nat.add_le_add_left (Nat.le_add_left _ _) _) hro,Nat.lt_of_le_of_lt (Nat.le_trans hcu hk) (by decide)⟩).mono fun e w' hq=>?_;rcases hq with ⟨A,m2,k2,rfl,p1,p2,p3,p4,hv,p5,p6,p7,hm⟩ | ⟨m2,-,-,hs,-,-⟩
 ·obtain ⟨j,rfl,hj⟩:∃ j,f = nIt j∧(j = a ∨ j = b):=by
   rcases a2 with rfl | rfl
   ·exact ⟨a,rfl,.inl rfl⟩
   ·exact ⟨b,rfl,.inr rfl⟩
  have hZ:A.Z = 1536:=by unfold VAt.Z;rw [p2]
  have hco:vcost A≤63924:=by unfold vcost;rw [hZ];decide
  have hro2:m.writes + k2 + n≤m.endu:=by
   refine Nat.le_trans ?_ hro;rw [Nat.add_comm n 62580,← Nat.add_assoc];exact Nat.add_le_add_right (Nat.add_le_add_left p5 _) _
  refine ⟨A,m2,j,rfl,p1,hj,⟨⟨hv,Nat.zero_le _,⟨by rw [p6.writes,p6.endu];exact hro2,by rw [p6.cuts];exact Nat.lt_of_le_of_lt (Nat.le_trans hcu hk) (by decide)⟩,Nat.le_trans hco (by decide),p6.clean h.clean,by rw [p6.size];exact h.c240,by rw [p6.size,h.cC,p2],by rw [p6.size,h.cN,p3],by rw [p2];decide⟩,NSt.idle j,by rw [hZ];exact ⟨by decide,by decide,by decide,by decide,by decide⟩,hco,⟨p2,p3⟩,by rw [p6.cuts];exact hcu,fun i hi=>?_,h.md.step hm fun i hi e=>by have:=h.nw i e;omega⟩,p6.pend.trans hp,hm⟩;rcases p7 i hi with q | q
  ·exact h.nw i q
  ·have:=h.md.size;omega
 ·have:=hs.pend;rw [hp] at this
  cases this
end
theorem VNew.vl64 {w w':World} {v:Ending} (h:VNew 1536 1073741824 w v w'):∃ A m,v = .returned (.tuple #[ptr A.M.mb,ptr A.vb,errno 0])∧NC w w' A m (xIdle (nIt 0)) 1000000000 0 0 0∧m.pending = false:=by
 obtain ⟨A,m,k,a,b,c,d,e,f,g,i,j⟩:=h;have hz:m.size = 1536:=g.size.trans (Mem.new_size _ _);have hZ:A.Z = 1536:=by unfold VAt.Z;rw [b]
 have hco:vcost A≤63924:=by unfold vcost;rw [hZ];decide
 rw [← nIt_zero] at e;refine ⟨A,m,a,⟨⟨e,Nat.zero_le _,⟨by rw [g.writes,g.endu];show 0 + k + 1000000000≤1073741824;omega,by rw [g.cuts];show 0 < 1099511627776;decide⟩,by omega,g.clean (Mem.new_clean _ _),by rw [hz];decide,by rw [hz,b],by rw [hz,c],by rw [b];decide⟩,NSt.idle 0,by rw [hZ];exact ⟨by decide,by decide,by decide,by decide,by decide⟩,hco,⟨b,c⟩,by rw [g.cuts];exact Nat.le_refl 0,i,j⟩,g.pend⟩
section
variable {W0 W W' : World} {A : VAt} {m : Mem} {s : VSt} {n k last seen : Nat}
theorem NC.get (h:NC W0 W A m s n k last seen):Calls Tryz.prog 99 #[ptr A.vb,.int .i64 2] W (GetPost W (nIt seen 2)):=by
 have h1:=vGet_rep h.vl.rep (by have:=h.vl.len;omega) 2 (by omega) (by omega)
 have h2:at_ (sets s.f s.l) 2 = nIt seen 2:=by
  have:sets s.f s.l = nIt seen:=h.st.v;rw [this]
  rfl
 rw [h2] at h1;exact h1
theorem NC.put (h:NC W0 W A m s (n + 63924) k last seen) (hl:s.l.length≤999) {v:Value} (hv:Src W v (Cy.by4 (seen + 1))) :
  Calls Tryz.prog 100 #[ptr A.vb,.int .i64 2,v] W fun e w'=>∃ er:Nat,e = .returned (errno er)∧NOut W0 A m (xApp s (nRec seen)) n k last (if s.act = true then last else seen + 1) (seen + 1) er w'∧Mod A.S W w':=by
 have hco:=h.co;have h1:=vPutS_ok h.vl.rep (by omega) 2 hv (bytes_mem.2 (Cy.by4_lt _)) (by rw [by_len];decide) (h.vl.room.mono (by omega));have h2:vPut A.Z s 2 (Cy.by4 (seen + 1)) = (xApp s (nRec seen),0):=h.st.put h.xb;rw [h2] at h1;refine h1.mono fun e w' hc=>?_;have hx:=xApp_len s (nRec seen);rcases h.call (Nat.le_refl _) hc h.st.next (Nat.le_trans hx (by omega)) (Nat.lt_succ_self _) with ⟨q1,q2⟩ | ⟨q1,q2⟩
 ·exact ⟨0,q1,.inl ⟨rfl,q2⟩,hc.md⟩
 ·exact ⟨7,q1,.inr ⟨rfl,q2⟩,hc.md⟩
def NxPost (W0 W:World) (A:VAt) (m:Mem) (s:VSt) (n k last seen:Nat) (e:Ending) (w':World):Prop :=
 ∃ er x:Nat,e = .returned (.tuple #[.int .i64 (x:Int),errno (er:Nat)])∧NOut W0 A m (xApp s (nRec seen)) n k last (if s.act = true then last else seen + 1) (seen + 1) er w'∧(er = 0→x = seen + 1)∧Mod A.S W w'
theorem NxPost.alive {e:Ending} (h:NOut W0 A m (xApp s (nRec seen)) n k last (if s.act = true then last else seen + 1) (seen + 1) 0 W') (hm:Mod A.S W W') (he:e = .returned (.tuple #[.int .i64 ((seen:Int) + 1),.int .i64 0])):NxPost W0 W A m s n k last seen e W':=⟨0,seen + 1,by rw [he];rfl,h,fun _=>rfl,hm⟩
theorem NxPost.dead {e:Ending} (h:NOut W0 A m (xApp s (nRec seen)) n k last (if s.act = true then last else seen + 1) (seen + 1) 7 W') (hm:Mod A.S W W') (he:e = .returned (.tuple #[.int .i64 0,.int .i64 7])):NxPost W0 W A m s n k last seen e W':=⟨7,0,by rw [he];rfl,h,(fun e=>by cases e),hm⟩
theorem tNext_ok (h:NC W0 W A m s (n + 63924) k last seen) (hl:s.l.length≤999) (hj:seen < 100000):Calls Tryz.prog 36 #[ptr A.vb] W (NxPost W0 W A m s n k last seen):=by
 have hA:=vAlive_rep h.vl.rep;have hG:=fun w (hm:Mod Nowhere W w)=>(h.fresh hm).get;have hP:=fun w (hm:Mod Nowhere W w) v hv=>(h.fresh hm).put hl (v:=v) hv;have hO:=fun w=>oPut_ok w (n:=seen + 1) (by omega);have hcast:((seen + 1:Nat):Int) = (seen:Int) + 1:=by omega
 simp only [hcast] at hO;have hs4:∀ w w':World,Blk w w'.heap.size (u8s (Cy.by4 (seen + 1))) 5→Src w (.slice (some ⟨w'.heap.size,0,none⟩) 4 4) (Cy.by4 (seen + 1)):=fun w w' hb=>(DSl.src (d:=Cy.by4 (seen + 1)) (sl_whole (sz:=1) (n:=4) hb rfl (by decide)));have hal:∀ w w' ,Mod Nowhere W w→NOut W0 A m (xApp s (nRec seen)) n k last (if s.act = true then last else seen + 1) (seen + 1) 0 w'→Mod A.S w w'→NxPost W0 W A m s n k last seen (.returned (.tuple #[.int .i64 ((seen:Int) + 1),.int .i64 0])) w':=fun w w' hm h1 h2=>NxPost.alive h1 (hm.nowhere.trans h2) rfl;have hde:∀ w w' ,Mod Nowhere W w→NOut W0 A m (xApp s (nRec seen)) n k last (if s.act = true then last else seen + 1) (seen + 1) 7 w'→Mod A.S w w'→NxPost W0 W A m s n k last seen (.returned (.tuple #[.int .i64 0,.int .i64 7])) w':=fun w w' hm h1 h2=>NxPost.dead h1 (hm.nowhere.trans h2) rfl
 have h07:∀ a er w',NOut W0 A m (xApp s (nRec seen)) n k last a (seen + 1) er w'→er = 0 ∨ er = 7:=fun a er w' h=>h.imp (·.1) (·.1)
 generalize NxPost W0 W A m s n k last seen = Q at *;rw [nIt_at] at hG;generalize Cy.by4 (seen + 1) = B4 at *;by_cases h0:seen = 0
 ·subst h0;simp only [if_true] at hG;simp only [show (((0:Nat):Int) + 1) = 1 from rfl] at hO hal;clear hcast h;refine hid8 ?_ hA hG hP hO hs4 hal hde h07;clear hA hG hP hO hs4 hal hde h07;intro hA hG hP hO hs4 hal hde h07;go_enter Tryz.func36,Tryz.ntmps36;go_wp2_with fail;refine hA.out.mono ?_;rintro e w1 ⟨rfl,hm1⟩;replace hm1:=Lib.hid hm1;go_wp2_with fail;refine (hG.out w1 hm1.out).mono ?_;rintro e w2 ⟨v,rfl,hown,hm2⟩;have hm02:=hm1.out.trans hm2;obtain ⟨va,vc,rfl,-⟩:=owns_form hown;rw [show ((none:Option (List Nat)).getD []).length = 0 from rfl] at hown ⊢;refine hid3 ?_ hown hm2 hm02;clear hown hm2 hm02;intro hown hm2 hm02
  go_wp2_with fail;refine (hO.out w2).mono ?_;rintro e w3 ⟨rfl,hb3,hm3⟩;have hm03:=hm02.out.trans hm3;have hP3:=hP.out w3 hm03 _ (hs4.out _ _ hb3);refine hid4 ?_ hb3 hm3 hm03 hP3;clear hb3 hm3 hm03 hP3;intro hb3 hm3 hm03 hP3;clear hO hG hP;go_wp2_with fail;refine hP3.out.mono ?_;rintro e w4 ⟨er,rfl,ho,hm4⟩;rcases h07.out _ _ _ ho with rfl | rfl
  ·have hf:=hal.out _ _ hm03.out ho hm4;refine hid3 ?_ hf ho hm4;clear hf ho hm4;intro hf ho hm4;go_wp2
   all_goals exact hf.out
  ·have hf:=hde.out _ _ hm03.out ho hm4;refine hid3 ?_ hf ho hm4;clear hf ho hm4;intro hf ho hm4;go_wp2
   all_goals exact hf.out
 ·simp only [if_neg h0] at hG;have hGet:=fun w v (hv:Src w v (Cy.by4 seen))=>oGet_ok hv (bytes_mem.2 (Cy.by4_lt _)) (by rw [by_len];decide);rw [num_num4 (by_len _),num_by (by omega)] at hGet
  have hb4:∀ (w w':World) v,w'.ownsRow w.heap.size 5 1 v ((some (Cy.by4 seen)).getD []).length (u8s ((some (Cy.by4 seen)).getD []))→∃ a c,v = .slice a 4 c∧Src w' v (Cy.by4 seen):=fun w w' v ho=>by
   obtain ⟨a,c,rfl,-⟩:=owns_form ho;exact ⟨a,c,rfl,(DSl.own ho rfl).src⟩
  have g1:¬ (seen:Int) < 1:=by omega
  have g2:¬ (2147483647:Int) < (seen:Int):=by omega
  have g3:((seen:Int) == 2147483647) = false:=by simp;omega
  generalize Cy.by4 seen = B0 at *;clear hcast h;refine hid10 ?_ hA hG hP hO hs4 hal hde h07 hGet hb4;clear hA hG hP hO hs4 hal hde h07 hGet hb4;intro hA hG hP hO hs4 hal hde h07 hGet hb4;go_enter Tryz.func36,Tryz.ntmps36;go_wp2_with fail;refine hA.out.mono ?_;rintro e w1 ⟨rfl,hm1⟩;replace hm1:=Lib.hid hm1;go_wp2_with fail;refine (hG.out w1 hm1.out).mono ?_;rintro e w2 ⟨v,rfl,hown,hm2⟩;have hm02:=hm1.out.trans hm2;obtain ⟨va,vc,rfl,hsv⟩:=hb4.out _ _ _ hown;clear hown;refine hid3 ?_ hsv hm2 hm02;clear hsv hm2 hm02;intro hsv hm2 hm02;go_wp2_with fail;refine (hGet.out w2 _ hsv.out).mono ?_;rintro e w3 ⟨rfl,rfl⟩
  go_wp2_with fail;refine (hO.out w2).mono ?_;rintro e w3 ⟨rfl,hb3,hm3⟩;have hm03:=hm02.out.trans hm3;have hP3:=hP.out w3 hm03 _ (hs4.out _ _ hb3);refine hid4 ?_ hb3 hm3 hm03 hP3;clear hb3 hm3 hm03 hP3;intro hb3 hm3 hm03 hP3;clear hO hG hP;go_wp2_with fail;refine hP3.out.mono ?_;rintro e w4 ⟨er,rfl,ho,hm4⟩;rcases h07.out _ _ _ ho with rfl | rfl
  ·have hf:=hal.out _ _ hm03.out ho hm4;refine hid3 ?_ hf ho hm4;clear hf ho hm4;intro hf ho hm4;go_wp2
   all_goals exact hf.out
  ·have hf:=hde.out _ _ hm03.out ho hm4;refine hid3 ?_ hf ho hm4;clear hf ho hm4;intro hf ho hm4;go_wp2
   all_goals exact hf.out
theorem tNextNil_ok (W:World):Calls Tryz.prog 36 #[.pointer none] W fun e w'=>e = .returned (.tuple #[.int .i64 0,errno 31])∧w' = W:=by
 go_enter Tryz.func36,Tryz.ntmps36;go_wp2
 go_ret2
 exact ⟨rfl,rfl⟩
end
end Go.Proofs.YtanioleniadhoaaGreat
