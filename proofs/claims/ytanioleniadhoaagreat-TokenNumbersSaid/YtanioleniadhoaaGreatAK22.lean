/-
  Data objects in Go's memory: flat lists of them, with primitive tags.
-/
import Derived.Test.YtanioleniadhoaaGreatAK21
set_option linter.unusedVariables false
set_option linter.unusedSimpArgs false
set_option maxHeartbeats 4000000
set_option maxRecDepth 100000
namespace Go.Proofs.YtanioleniadhoaaGreat
open Go.RowKit
open Jn Tk
attribute [local go_sem] Oper.semAt_some
namespace Tk
abbrev Ox:=Value × (Nat × List Nat)
def oC (x:Ox):List Value:=[.int .i64 (x.2.1:Nat),x.1,.slice none 0 0]
def oCs (xs:List Ox):List Value:=xs.flatMap oC
def objsV:Nat→List (Value × List Nat)→List Ox
 | _,[]=>[]
 | t,v :: r=>if v.2 = [] then objsV (t + 1) r else (v.1,(t,v.2)) :: objsV (t + 1) r
def one1 (t:Nat) (v:Value × List Nat):List Ox:=if v.2 = [] then [] else [(v.1,(t,v.2))]
theorem objsV_snoc:∀ (t:Nat) (l:List (Value × List Nat)) (v:Value × List Nat),objsV t (l ++ [v]) = objsV t l ++ one1 (t + l.length) v
 | t,[],v=>by
  show objsV t [v] = one1 t v
  unfold one1 objsV
  split <;> rfl
 | t,x :: l,v=>by
  have ih:=objsV_snoc (t + 1) l v
  show objsV t (x :: (l ++ [v])) = _
  unfold objsV;rw [ih,List.length_cons,show t + 1 + l.length = t + (l.length + 1) by omega]
  split <;> rfl
theorem objsV_map:∀ (t:Nat) (l:List (Value × List Nat)),(objsV t l).map (·.2) = objsF t (l.map (·.2))
 | _,[]=>rfl
 | t,v :: r=>by
  have ih:=objsV_map (t + 1) r;unfold objsV;rw [List.map_cons];unfold objsF;by_cases h:v.2 = []
  ·rw [if_pos h,if_pos h,ih]
  ·rw [if_neg h,if_neg h,List.map_cons,ih]
theorem objsV_mem:∀ (t:Nat) (l:List (Value × List Nat)),∀ x ∈ objsV t l,t≤x.2.1∧x.2.1 < t + l.length∧(x.1,x.2.2) ∈ l
 | _,[]=>fun x hx=>by cases hx
 | t,v :: r=>fun x hx=>by
  unfold objsV at hx;rw [List.length_cons]
  split at hx
  ·obtain ⟨a,b,c⟩:=objsV_mem (t + 1) r x hx;exact ⟨by omega,by omega,List.mem_cons_of_mem _ c⟩
  ·rcases List.mem_cons.1 hx with rfl | hx
   ·exact ⟨Nat.le_refl _,by show t < _;omega,List.mem_cons_self ..⟩
   ·obtain ⟨a,b,c⟩:=objsV_mem (t + 1) r x hx;exact ⟨by omega,by omega,List.mem_cons_of_mem _ c⟩
theorem oC_len (x:Ox):(oC x).length = 3:=rfl
theorem oCs_append (xs ys:List Ox):oCs (xs ++ ys) = oCs xs ++ oCs ys:=by simp [oCs]
theorem oCs_len (xs:List Ox):(oCs xs).length = xs.length * 3:=by
 induction xs with
 | nil=>rfl
 | cons x xs ih=>show (oC x ++ oCs xs).length = _;rw [List.length_append,ih,oC_len,List.length_cons];omega
theorem oCs_get:∀ (xs:List Ox) (i:Nat) (h:i < xs.length) (j:Nat),j < 3→(oCs xs).getD (i * 3 + j) default = (oC xs[i]).getD j default
 | x :: xs,0,_,j,hj=>by
  rw [Nat.zero_mul,Nat.zero_add]
  show (oC x ++ oCs xs).getD j default = _
  rw [gd0,List.getElem?_append_left (by rw [oC_len];exact hj),← gd0]
  rfl
 | x :: xs,i + 1,h,j,hj=>by
  have ih:=oCs_get xs i (by simpa using h) j hj
  show (oC x ++ oCs xs).getD ((i + 1) * 3 + j) default = _
  rw [gd0,List.getElem?_append_right (by rw [oC_len];omega),← gd0,oC_len,show (i + 1) * 3 + j - 3 = i * 3 + j by omega];exact ih
theorem encL_snoc (l:List (Nat × List Nat)) (x:Nat × List Nat):encL (l ++ [x]) = encL l ++ encO x:=by
 unfold encL;rw [List.flatMap_append];simp
end Tk
structure TSl (w:World) (v:Value) (xs:List Ox):Prop where
 sl:Sl w v 140 3 xs.length (oCs xs)
 data:∀ x ∈ xs,Src w x.1 x.2.2
 bytes:∀ x ∈ xs,Bytes x.2.2
 tag:∀ x ∈ xs,128≤x.2.1∧x.2.1 < 136
 len:∀ x ∈ xs,x.2.2.length≤255
 few:xs.length≤8
theorem TSl.fresh {w w':World} {v:Value} {xs:List Ox} (h:TSl w v xs) (hm:Mod Nowhere w w'):TSl w' v xs:={ h with sl:=h.sl.mod hm (fun _ _ e=>e),data:=fun x hx=>(h.data x hx).fresh hm }
theorem TSl.at_ {w:World} {v:Value} {xs:List Ox} (h:TSl w v xs) {k:Nat} (hk:k < xs.length):∃ b off cap a c,v = .slice (some ⟨b,off,none⟩) xs.length cap∧xs.length≤cap∧cap≤maxLen∧xs[k].1 = .slice a xs[k].2.2.length c∧∀ X,Mod Nowhere w X →
  b < X.heap.size∧X.cell? ⟨b,off + k * 3,none⟩ = some (.int .i64 (xs[k].2.1:Nat))∧X.cell? ⟨b,off + k * 3 + 1,none⟩ = some (.slice a xs[k].2.2.length c)∧X.cell? ⟨b,off + k * 3 + 2,none⟩ = some (.slice none 0 0):=by
 obtain ⟨b,off,cap,rfl,hb,g1,g2,hc,-⟩:=h.sl.open (by omega);obtain ⟨a,c,e1,-⟩:=h.data xs[k] (List.getElem_mem hk);refine ⟨b,off,cap,a,c,rfl,g1,g2,e1,fun X hm=>?_⟩
 have cc:∀ j,j < 3→X.cell? ⟨b,off + k * 3 + j,none⟩ = some ((oC xs[k]).getD j default):=fun j hj=>by
  rw [Nat.add_assoc,hm.cell (p:=⟨b,off + (k * 3 + j),none⟩) hb id,hc (k * 3 + j) (by omega),oCs_get xs k hk j hj]
 have hkc:oC xs[k] = [.int .i64 (xs[k].2.1:Nat),.slice a xs[k].2.2.length c,.slice none 0 0]:=by unfold oC;rw [e1]
 rw [hkc] at cc;exact ⟨Nat.lt_of_lt_of_le hb hm.size,cc 0 (by omega),cc 1 (by omega),cc 2 (by omega)⟩
theorem DSl.own {w:World} {base n:Nat} {v:Value} {d:List Nat} (h:w.ownsRow base 5 1 v n (u8s d)) (hn:d.length = n):DSl w v d:=by
 unfold DSl;rw [hn];exact Sl.of_owns h
theorem info_tlv:(Tryz.prog.info? 140).map (fun i=>(i.zero,i.size,i.bytes)) = some (some (.agg #[.int .i64 0,.slice none 0 0,.slice none 0 0]),3,56):=by kernel_rfl
theorem one_oC {a:Option Addr} {n c:Nat} (t:Nat):∀ u ∈ ([.int .i64 (t:Nat),.slice a n c,.slice none 0 0]:List Value),u.oneCell' = true:=by
 intro u hu;simp only [List.mem_cons,List.not_mem_nil,or_false] at hu;rcases hu with rfl | rfl | rfl <;> rfl
end Go.Proofs.YtanioleniadhoaaGreat
namespace Go.Proofs.YtanioleniadhoaaGreat
open Go.RowKit
open Jn Tk
attribute [local go_sem] Oper.semAt_some
theorem and_31 {t j:Nat} (h:t = 128 + j) (hj:j < 8):bits .and .i64 (t:Int) 31 = (j:Int)∧bits .and .i64 (t:Int) 32 = 0:=by
 have h1:=i64_and t 31 (by omega) (by omega);have h2:=i64_and t 32 (by omega) (by omega);subst h
 have g1:(128 + j) &&& 31 = j:=by
  rcases (show j = 0 ∨ j = 1 ∨ j = 2 ∨ j = 3 ∨ j = 4 ∨ j = 5 ∨ j = 6 ∨ j = 7 by omega) with rfl | rfl | rfl | rfl | rfl | rfl | rfl | rfl <;> rfl
 have g2:(128 + j) &&& 32 = 0:=by
  rcases (show j = 0 ∨ j = 1 ∨ j = 2 ∨ j = 3 ∨ j = 4 ∨ j = 5 ∨ j = 6 ∨ j = 7 by omega) with rfl | rfl | rfl | rfl | rfl | rfl | rfl | rfl <;> rfl
 rw [g1] at h1;rw [g2] at h2;exact ⟨h1,h2⟩
section
variable (w : World) {t : Nat} (h1 : 128 ≤ t) (h2 : t < 136)
include h1 h2
theorem lValid_ok:Calls Tryz.prog 209 #[.int .i64 (t:Int)] w fun e w'=>e = .returned (.bool true)∧w' = w:=by
 obtain ⟨j,hj⟩:∃ j,t = 128 + j:=⟨t - 128,by omega⟩;obtain ⟨g1,-⟩:=and_31 hj (by omega);have g2:((j:Int) != 31) = true:=by simp;omega
 replace hj:=Lib.hid hj;go_enter Tryz.func209,Tryz.ntmps209;go_wp2;go_ret;exact ⟨by first | rfl | simp [*],rfl⟩
theorem lCons_ok:Calls Tryz.prog 210 #[.int .i64 (t:Int)] w fun e w'=>e = .returned (.bool false)∧w' = w:=by
 have hV:=lValid_ok w h1 h2;obtain ⟨j,hj⟩:∃ j,t = 128 + j:=⟨t - 128,by omega⟩;obtain ⟨-,g1⟩:=and_31 hj (by omega);refine hid2 ?_ hj hV;clear hj hV;intro hj hV;go_enter Tryz.func210,Tryz.ntmps210;go_wp2_with fail;refine (hV.out).mono ?_;rintro e w1 ⟨rfl,rfl⟩;go_wp2;go_ret;exact ⟨by first | rfl | simp [*],rfl⟩
theorem lTag_ok:Calls Tryz.prog 211 #[.int .i64 (t:Int)] w fun e w'=>e = .returned (.slice (some ⟨w.heap.size,0,none⟩) 1 1)∧DSl w' (.slice (some ⟨w.heap.size,0,none⟩) 1 1) [t]∧Mod Nowhere w w':=by
 have hb:DSl (w.alloc (.cells (u8s [t]).toArray 5)) (.slice (some ⟨w.heap.size,0,none⟩) 1 1) [t]:=sl_whole (sz:=1) (n:=1) (Blk.new w (u8s [t]) 5) rfl (by decide);have hm:Mod Nowhere w (w.alloc (.cells (u8s [t]).toArray 5)):=(Mod.refl _ w).alloc _;have hu8:(u8s [t]).toArray = #[.int .u8 (t:Int)]:=rfl;rw [hu8] at hb hm;have hw8:(t:Int) % 256 = t:=by omega
 refine hid2 ?_ hb hm;clear hb hm;intro hb hm;go_enter Tryz.func211,Tryz.ntmps211;go_wp2;go_ret;exact ⟨rfl,hb.out,hm.out⟩
end
theorem u8_mod {n:Nat} (h:n < 256):(n:Int) % 256 = n:=by omega
theorem lLen_ok (w:World) {n:Nat} (hn:n < 256):Calls Tryz.prog 212 #[.int .i64 (n:Int)] w fun e w'=>e = .returned (.slice (some ⟨w.heap.size,0,none⟩) (lenB n).length (lenB n).length)∧DSl w' (.slice (some ⟨w.heap.size,0,none⟩) (lenB n).length (lenB n).length) (lenB n)∧Mod Nowhere w w':=by
 have hw8:=u8_mod hn;unfold lenB;by_cases h1:n < 128
 ·rw [if_pos h1];have hb:DSl (w.alloc (.cells (u8s [n]).toArray 5)) (.slice (some ⟨w.heap.size,0,none⟩) 1 1) [n]:=sl_whole (sz:=1) (n:=1) (Blk.new w (u8s [n]) 5) rfl (by decide);have hm:Mod Nowhere w (w.alloc (.cells (u8s [n]).toArray 5)):=(Mod.refl _ w).alloc _;have hu8:(u8s [n]).toArray = #[.int .u8 (n:Int)]:=rfl;rw [hu8] at hb hm;have g1:(n:Int) < 128:=by omega
  refine hid2 ?_ hb hm;clear hb hm;intro hb hm;go_enter Tryz.func212,Tryz.ntmps212;go_wp2;go_ret;exact ⟨rfl,hb.out,hm.out⟩
 ·rw [if_neg h1,if_pos hn];have hb:DSl (w.alloc (.cells (u8s [129,n]).toArray 5)) (.slice (some ⟨w.heap.size,0,none⟩) 2 2) [129,n]:=sl_whole (sz:=1) (n:=2) (Blk.new w (u8s [129,n]) 5) rfl (by decide);have hm:Mod Nowhere w (w.alloc (.cells (u8s [129,n]).toArray 5)):=(Mod.refl _ w).alloc _;have hu8:(u8s [129,n]).toArray = #[.int .u8 129,.int .u8 (n:Int)]:=rfl;rw [hu8] at hb hm;have g1:¬ (n:Int) < 128:=by omega
  have g2:(n:Int) < 256:=by omega
  refine hid2 ?_ hb hm;clear hb hm;intro hb hm;go_enter Tryz.func212,Tryz.ntmps212;go_wp2;go_ret;exact ⟨rfl,hb.out,hm.out⟩
theorem lPred_ok {w:World} {b:Nat} (hb:w.cell? ⟨b,0,none⟩ = some (.int .i64 1)) {t:Nat} (h1:128≤t) (h2:t < 136) (a:Option Addr) (n c:Nat) :
  Calls Tryz.prog 208 #[.agg #[.int .i64 (t:Int),.slice a n c,.slice none 0 0],ptr b] w fun e w'=>e = .returned (.bool false)∧Mod Nowhere w w':=by
 have hV:=fun W=>lValid_ok W h1 h2;have hC:=fun W=>lCons_ok W h1 h2;have hlt:=cell_lt' hb;have hm:Mod Nowhere w (w.alloc (.cells #[.int .i64 (t:Int),.slice a n c,.slice none 0 0] 140)):=(Mod.refl _ w).alloc _;refine hid3 ?_ hV hC hm;clear hV hC hm;intro hV hC hm;go_enter Tryz.func208,Tryz.ntmps208;go_wp2_with fail;refine (hV.out _).mono ?_;rintro e w1 ⟨rfl,rfl⟩;go_wp2_with fail;refine (hC.out _).mono ?_;rintro e w1 ⟨rfl,rfl⟩;go_wp2;go_ret;exact ⟨rfl,hm.out⟩
theorem IndexFunc_tlv {w:World} {v:Value} {xs:List Ox} (h:TSl w v xs) (g:FuncId) (cap:Array Value) (hent:∀ args w,(callFunc g args).run Tryz.prog w = .ok (.enter g args) w)
  (hcall:∀ x ∈ xs,∀ a c,∀ wr,Mod Nowhere w wr→Calls Tryz.prog g (#[.agg #[.int .i64 (x.2.1:Nat),.slice a x.2.2.length c,.slice none 0 0]] ++ cap) wr fun e w'=>e = .returned (.bool false)∧Mod Nowhere wr w') :
  Calls Tryz.prog 257 #[v,.func (.func g) #[] cap] w fun e w'=>e = .returned (.int .i64 (-1))∧Mod Nowhere w w':=by
 obtain ⟨a,vc,rfl,h1,h2,_⟩:=h.sl.gen;have hfew:=h.few;refine hid2 ?_ h hcall;clear h hcall;intro h hcall;go_enter Tryz.func257,Tryz.ntmps257;go_wp2
 go_loopw [8] (fun i wr=>∃ k:Nat,k≤xs.length∧i = .int .i64 k∧Mod Nowhere w wr) (fun i _=>xs.length - (intOf i).toNat)
 case atStart=>exact ⟨0,by omega,rfl,Mod.refl _ _⟩
 case round =>
  obtain ⟨k,hk,rfl,hm⟩:=hrel;by_cases hlt:k < xs.length
  ·obtain ⟨b,off,cap',xa,xc,e0,_,_,e3,hX⟩:=h.out.at_ hlt;obtain ⟨hb,c1,c2,c3⟩:=hX wr hm;have hC:=hcall.out xs[k] (List.getElem_mem hlt) xa xc wr hm
   obtain ⟨rfl,rfl⟩:a = some ⟨b,off,none⟩∧vc = cap':=by
    simp at e0;exact ⟨e0.1,e0.2⟩
   clear hX;generalize xs[k].2.2.length = q at *;generalize xs[k].2.1 = o at *;refine hid3 ?_ e3 hC hm;clear e3 hC hm;intro e3 hC hm;go_wp2_with fail;refine hC.out.mono ?_;rintro e w1 ⟨rfl,hm1⟩;go_wp2;go_roundw
   case rel=>exact ⟨k + 1,by omega,by go_num,hm.out.trans hm1⟩
   case measure=>simp [intOf];omega
  ·obtain rfl:k = xs.length:=by omega
   replace hm:=Lib.hid hm;go_wp2;go_ret;exact ⟨rfl,hm.out⟩
theorem lvalid_ok {w:World} {v:Value} {xs:List Ox} (h:TSl w v xs):Calls Tryz.prog 149 #[v,.int .i64 1] w fun e w'=>e = .returned (.bool true)∧Mod Nowhere w w':=by
 have hm0:Mod Nowhere w (w.alloc (.cells #[.int .i64 1] 3)):=(Mod.refl _ w).alloc _;have hb0:=Blk.new w [.int .i64 1] 3;have hI:=IndexFunc_tlv (h.fresh hm0) 208 #[ptr w.heap.size] (enters_of Tryz.func208 (by kernel_rfl) rfl) (fun x hx a c wr hmr=>lPred_ok ((hb0.mod hmr id).cell 0) (h.tag x hx).1 (h.tag x hx).2 a _ c)
 have hC:Calls Tryz.prog 207 #[v,.func (.func 208) #[] #[ptr w.heap.size]] (w.alloc (.cells #[.int .i64 1] 3)) fun e w'=>e = .returned (.bool false)∧Mod Nowhere (w.alloc (.cells #[.int .i64 1] 3)) w':=by
  obtain ⟨a,vc,rfl,h1,h2,_⟩:=h.sl.gen;generalize w.alloc (.cells #[.int .i64 1] 3) = W0 at *;clear h hb0 hm0;replace hI:=Lib.hid hI;go_enter Tryz.func207,Tryz.ntmps207;go_wp2_with fail;refine hI.out.mono ?_;rintro e w1 ⟨rfl,hm1⟩;replace hm1:=Lib.hid hm1;go_wp2;go_ret;exact ⟨rfl,hm1.out⟩
 obtain ⟨a,vc,rfl,h1,h2,_⟩:=h.sl.gen;have x0:=hb0.cell 0;have xl:=hb0.lt;simp only [gz0] at x0;have hmf:∀ (fn:Fn) (first cap:Array Value) (w:World),(Instr.makeFunc fn first cap).run Tryz.prog w = .ok (.func fn first cap) w:=fun _ _ _ _=>rfl;clear h hI hb0;refine hid2 ?_ hC hm0;clear hC hm0;intro hC hm0;go_enter Tryz.func149,Tryz.ntmps149;go_wp2_with fail;refine hC.out.mono ?_;rintro e w1 ⟨rfl,hm1⟩;have hm:=hm0.out.trans hm1;clear x0 xl;refine hid2 ?_ hm hm1;clear hm hm1;intro hm hm1;go_wp2;go_ret;exact ⟨rfl,hm.out⟩
def encN (xs:List Ox):Nat:=(encL (xs.map (·.2))).length
theorem encN_le {xs:List Ox} (h:∀ x ∈ xs,x.2.2.length≤255) (hf:xs.length≤8):encN xs≤2072:=by
 have h1:=encL_len (xs.map (·.2)) 255 fun x hx=>by
  obtain ⟨y,hy,rfl⟩:=List.mem_map.1 hx;exact h y hy
 rw [List.length_map] at h1;have:=Nat.mul_le_mul_right (4 + 255) hf;unfold encN;omega
theorem enc_take1 {xs:List Ox} {k:Nat} (h:k < xs.length):encL ((xs.take (k + 1)).map (·.2)) = encL ((xs.take k).map (·.2)) ++ encO xs[k].2:=by
 rw [List.take_succ_eq_append_getElem h,List.map_append,List.map_cons,List.map_nil,encL_snoc]
theorem encO_len (x:Nat × List Nat):(encO x).length = 1 + (lenB x.2.length).length + x.2.length:=by
 unfold encO;rw [List.length_cons,List.length_append];omega
theorem take_le8 {xs:List Ox} (h:∀ x ∈ xs,x.2.2.length≤255) (hf:xs.length≤8) (k:Nat):encN (xs.take k)≤2072 :=
 encN_le (fun x hx=>h x (List.mem_of_mem_take hx)) (by rw [List.length_take];omega)
theorem lsize0_ok (w:World):Calls Tryz.prog 150 #[.slice none 0 0] w fun e w'=>e = .returned (.int .i64 0)∧w' = w:=by
 go_enter Tryz.func150,Tryz.ntmps150;go_wp2
 go_loopw [3,9] (fun s i wr=>s = .int .i64 0∧i = .int .i64 0∧wr = w) (fun _ _ _=>0)
 case atStart=>exact ⟨rfl,rfl,rfl⟩
 case round =>
  obtain ⟨rfl,rfl,rfl⟩:=hrel;go_wp2;go_ret;exact ⟨rfl,rfl⟩
theorem lsize_ok {w:World} {v:Value} {xs:List Ox} (h:TSl w v xs):Calls Tryz.prog 150 #[v] w fun e w'=>e = .returned (.int .i64 (encN xs:Nat))∧Mod Nowhere w w':=by
 obtain ⟨a,vc,rfl,h1,h2,_⟩:=h.sl.gen;have hfew:=h.few;have hS0:=fun W=>lsize0_ok W;have hT:=fun W t h1 h2=>lTag_ok W (t:=t) h1 h2;have hL:=fun W n hn=>lLen_ok W (n:=n) hn;have htk:=take_le8 h.len h.few;refine hid5 ?_ h hS0 hT hL htk;clear h hS0 hT hL htk;intro h hS0 hT hL htk;go_enter Tryz.func150,Tryz.ntmps150;go_wp2
 go_loopw [3,9] (fun s i wr=>∃ k:Nat,k≤xs.length∧i = .int .i64 k∧s = .int .i64 (encN (xs.take k):Nat)∧Mod Nowhere w wr) (fun _ i _=>xs.length - (intOf i).toNat)
 case atStart=>exact ⟨0,by omega,rfl,rfl,Mod.refl _ _⟩
 case round =>
  obtain ⟨k,hk,rfl,rfl,hm⟩:=hrel;by_cases hlt:k < xs.length
  ·obtain ⟨b,off,cap',xa,xc,e0,_,_,e3,hX⟩:=h.out.at_ hlt;obtain ⟨hb,c1,c2,c3⟩:=hX wr hm;have hl:=h.out.len xs[k] (List.getElem_mem hlt);obtain ⟨t1,t2⟩:=h.out.tag xs[k] (List.getElem_mem hlt)
   obtain ⟨rfl,rfl⟩:a = some ⟨b,off,none⟩∧vc = cap':=by
    simp at e0;exact ⟨e0.1,e0.2⟩
   have hs:encN (xs.take (k + 1)) = encN (xs.take k) + (1 + (lenB xs[k].2.2.length).length + xs[k].2.2.length):=by
    unfold encN;rw [enc_take1 hlt,List.length_append,encO_len]
   have hk1:=htk.out (k + 1);rw [hs] at hk1;have hll:=lenB_le xs[k].2.2.length;clear hX;generalize encN (xs.take k) = s at *;generalize xs[k].2.2.length = q at *;generalize xs[k].2.1 = o at *;have hTo:=fun W=>hT.out W o t1 t2;have hLo:=fun W=>hL.out W q (by omega)
   have hbx:∀ W,Mod Nowhere (wr.alloc (.cells #[.int .i64 (o:Int),.slice xa q xc,.slice none 0 0] 140)) W→W.cell? ⟨wr.heap.size,0,none⟩ = some (.int .i64 (o:Int))∧W.cell? ⟨wr.heap.size,1,none⟩ = some (.slice xa q xc)∧W.cell? ⟨wr.heap.size,2,none⟩ = some (.slice none 0 0)∧wr.heap.size < W.heap.size:=fun W hW=>by
    have hb':=(Blk.new wr [.int .i64 (o:Int),.slice xa q xc,.slice none 0 0] 140).mod hW id;exact ⟨hb'.cell 0,hb'.cell 1,hb'.cell 2,hb'.lt⟩
   have hma:Mod Nowhere w (wr.alloc (.cells #[.int .i64 (o:Int),.slice xa q xc,.slice none 0 0] 140)):=hm.alloc _;obtain ⟨z0,z1,z2,zl⟩:=hbx _ (Mod.refl _ _);generalize (lenB q).length = lb at *;have hwq:=i64_back q (by omega);refine hid7 ?_ e3 hm hs hTo hLo hbx hma;clear e3 hm hs hTo hLo hbx hma;intro e3 hm hs hTo hLo hbx hma;clear hT hL htk;go_wp2_with fail;refine wp_region_vals (fun i=>match i with | 0=>some (.pointer (some ⟨wr.heap.size,1,none⟩)) | 1=>some (.slice xa q xc) | 2=>some (.int .i64 (q:Int)) | 3=>some (.pointer (some ⟨wr.heap.size,2,none⟩)) | 4=>some (.slice none 0 0) | 5=>some (.int .i64 0) | 6=>some (.int .i64 (q:Int)) | 7=>some (.int .i64 (q:Int)) | _=>none) (fun i=>match i with | 1=>[0] | 2=>[1] | 4=>[3] | 5=>[4] | 6=>[2,5] | 7=>[6,5,0,1,2,3,4] | _=>[]) 8 (fun _ _ _=>True) ?A_5_0 (by first | assumption | kernel_rfl) (by kernel_rfl) (by kernel_rfl) (by kernel_rfl) (by rfl) ?hA_5_0 ?hS_5_0 ?hE_5_0
   case hA_5_0=>intro xs;simp [putAll,List.range,List.range.loop,Act.put] <;> rfl
   case hS_5_0 =>
    refine ⟨?_,?q1_5_0,?_,?_,?q4_5_0,?q5_5_0,?_,?_,trivial⟩
    case q1_5_0 =>
     intro yv w' hR hF K hK;clear hF;obtain ⟨y0,y1,y2,yl⟩:=hbx.out w' ((Mod.refl Nowhere _).drew.trans hR)
     go_simp
     exact hK _ _ (fun _ _=>rfl) (Mod.refl _ _)
    case q4_5_0 =>
     intro yv w' hR hF K hK;clear hF;obtain ⟨y0,y1,y2,yl⟩:=hbx.out w' ((Mod.refl Nowhere _).drew.trans hR)
     go_simp
     exact hK _ _ (fun _ _=>rfl) (Mod.refl _ _)
    case q5_5_0 =>
     intro yv w' hR hF K hK;clear hF
     go_simp
     go_at_call 150
     refine (hS0.out _).mono ?_;rintro e w9 ⟨rfl,rfl⟩;exact hK _ _ (fun _ _=>rfl) (Mod.refl _ _)
    all_goals
     intro yv w' hR hF K hK;clear hF
     go_simp
     exact hK _ _ (fun _ _=>by first | trivial | exact rfl | simp [*,known]) (Mod.refl _ _)
   case hE_5_0 =>
    intro yv w' hR hF;clear hF;simp only [mixN,Option.getD_some,Option.getD_none,Nat.reduceLT,if_true];have hmr:=(Mod.refl Nowhere (wr.alloc (.cells #[.int .i64 (o:Int),.slice xa q xc,.slice none 0 0] 140))).drew.trans hR;obtain ⟨y0,y1,y2,yl⟩:=hbx.out w' hmr;have hmw:=hma.out.trans hmr;clear z0 z1 z2 zl hR;refine hid2 ?_ hmr hmw;clear hmr hmw;intro hmr hmw;go_wp2_with fail;refine (hTo.out _).mono ?_;rintro e w3 ⟨rfl,-,hm3⟩;replace hm3:=Lib.hid hm3;go_wp2_with fail;refine (hLo.out _).mono ?_;rintro e w4 ⟨rfl,-,hm4⟩;have hmF:=(hmw.out.trans hm3.out).trans hm4;have g4:¬ (4096:Int) < (s:Int) + (1 + (lb:Int) + (q:Int)):=by omega
    refine hid2 ?_ hm4 hmF;clear hm4 hmF;intro hm4 hmF;go_wp2;go_roundw
    case rel=>exact ⟨k + 1,by omega,by go_num,by rw [hs.out];go_num,hmF.out⟩
    case measure=>simp [intOf];omega
  ·obtain rfl:k = xs.length:=by omega
   rw [List.take_length];replace hm:=Lib.hid hm;go_wp2;go_ret;exact ⟨rfl,hm.out⟩
theorem Concat_src {w:World} {v:Value} {xs:List (Value × List Nat)} (h:Sl w v 22 1 xs.length (xs.map (·.1))) (hx:∀ x ∈ xs,Src w x.1 x.2) (hxl:xs.length≤1000) (hn:(cat xs).length≤1099511627776) :
  Calls Tryz.prog 213 #[v] w fun e w'=>∃ v',e = .returned v'∧w'.ownsRow w.heap.size 5 1 v' (cat xs).length (u8s (cat xs))∧Mod Nowhere w w':=by
 obtain ⟨i0,hi0,hz0,hz1,hz2⟩:=info_parts info_u8;obtain ⟨a,cap,rfl,h1,h2,hcells⟩:=h.gen;refine hid2 ?_ h hx;clear h hx;intro h hx;go_enter Tryz.func213,Tryz.ntmps213;go_wp2
 go_loop [3,11] (fun s i=>∃ k:Nat,k≤xs.length∧i = .int .i64 k∧s = .int .i64 ((cat (xs.take k)).length:Nat)) (fun _ i=>xs.length - (intOf i).toNat)
 case atStart=>exact ⟨0,by omega,rfl,by simp [cat]⟩
 case round =>
  obtain ⟨k,hk,rfl,rfl⟩:=hrel;have hle:=cat_le xs k;by_cases hlt:k < xs.length
  ·obtain ⟨b,off,rfl,hbl,hc,hz⟩:=hcells (by omega);have hck:=hc k (by omega);have hle2:=cat_le xs (k + 1);have hct:=cat_take xs k hlt
   have e1:(xs.map (·.1)).getD k default = xs[k].1:=by simp [gd0,hlt]
   rw [e1] at hck;obtain ⟨xa,xc,e2,_,_⟩:=hx.out xs[k] (List.getElem_mem hlt);rw [e2] at hck;rw [hct] at hle2;rw [List.length_append] at hle2;have hlen:(cat (xs.take (k + 1))).length = (cat (xs.take k)).length + xs[k].2.length:=by rw [hct,List.length_append]
   refine hid2 ?_ hlen hct;clear hlen hct;intro hlen hct;generalize xs[k].2.length = q at *;generalize (cat (xs.take k)).length = s at *;refine hid2 ?_ e1 e2;clear e1 e2;intro e1 e2;clear hc;have hnn:¬ ((s:Int) + q < 0):=by omega
   go_wp2
   go_round
   case rel=>exact ⟨k + 1,by omega,by go_num,by rw [hlen.out];go_num⟩
   case measure=>simp [intOf];omega
  ·obtain rfl:k = xs.length:=by omega
   rw [List.take_length];have hG:=Grow_u8 (w:=w) (cat xs).length hn;replace hG:=Lib.hid hG;go_wp2_with fail;refine hG.out.mono ?_;rintro e w1 ⟨v0,rfl,hown0,hm0⟩;go_wp2
   go_loopg [6,27] xs.length (fun gg vv i wr=>∃ k:Nat,k≤xs.length∧gg + k = xs.length∧i = .int .i64 k∧wr.ownsRow w.heap.size 5 1 vv (cat (xs.take k)).length (u8s (cat (xs.take k)))∧Mod Nowhere w wr)
   case atStart=>exact ⟨0,by omega,by omega,rfl,by simpa [cat,u8s] using hown0,hm0⟩
   case round =>
    obtain ⟨k,hk,hgg,rfl,hown,hm⟩:=hrel;have hle:=cat_le xs k;by_cases hlt:k < xs.length
    ·have hsl:=h.out.mod hm (fun _ _=>id);obtain ⟨b,off,cap',e0,hbl,_,_,hc,hz⟩:=hsl.open (by omega);have hck:=hc k (by omega);have hct:=cat_take xs k hlt;have hle2:=cat_le xs (k + 1);rw [hct,List.length_append] at hle2
     have e1:(xs.map (·.1)).getD k default = xs[k].1:=by simp [gd0,hlt]
     rw [e1] at hck;have hxk:=(hx.out xs[k] (List.getElem_mem hlt)).fresh hm;obtain ⟨vb,vcap,rfl,hvc⟩:=owns_form hown
     obtain ⟨rfl,rfl⟩:a = some ⟨b,off,none⟩∧cap = cap':=by
      simp at e0;exact ⟨e0.1,e0.2⟩
     clear hc;obtain ⟨va,vc,w2,hrun,ho2,hm2⟩:=append_to rfl hown hxk (by omega) hm.size 22;obtain ⟨xa,xc,e2,_,_,_⟩:=hxk;rw [e2] at hck hrun;rw [← hct] at ho2;have hM2:Mod Nowhere w w2:=hm.step hm2 (fun i hi e=>by have e:w.heap.size≤i:=e;omega);have hlen:(cat (xs.take (k + 1))).length = (cat (xs.take k)).length + xs[k].2.length:=by rw [hct,List.length_append]
     rw [← hlen] at ho2 hrun;clear hown hm hm2 hsl hct hlen;generalize hs2:(cat (xs.take (k + 1))).length = s2 at *;generalize (cat (xs.take k)).length = s at *;generalize xs[k].2.length = q at *;refine hid5 ?_ ho2 hM2 e1 e2 hs2;clear ho2 hM2 e1 e2 hs2;intro ho2 hM2 e1 e2 hs2
     go_wp2_with (at_builtin;refine Lib.wpList_append_run _ rfl _ _ _ _ rfl _ _ rfl rfl _ _ hrun ?_)
     go_roundg (xs.length - (k + 1))
     case measure=>omega
     case rel=>exact ⟨k + 1,by omega,by omega,by go_num,by rw [hs2.out];exact ho2.out,hM2.out⟩
    ·obtain rfl:k = xs.length:=by omega
     rw [List.take_length] at hown;replace hown:=Lib.hid hown;go_wp2;go_ret;exact ⟨_,rfl,hown.out,hm⟩
theorem concat4 {W:World} {v1 v2 v3 v4:Value} {d1 d2 d3 d4:List Nat} (h1:Src W v1 d1) (h2:Src W v2 d2) (h3:Src W v3 d3) (h4:Src W v4 d4) (hl:(d1 ++ d2 ++ d3 ++ d4).length≤100000) :
  Calls Tryz.prog 213 #[.slice (some ⟨W.heap.size,0,none⟩) 4 4] (W.alloc (.cells #[v1,v2,v3,v4] 22)) fun e w'=>∃ a c,e = .returned (.slice a (d1 ++ d2 ++ d3 ++ d4).length c)∧DSl w' (.slice a (d1 ++ d2 ++ d3 ++ d4).length c) (d1 ++ d2 ++ d3 ++ d4)∧Mod Nowhere W w':=by
 have hma:Mod Nowhere W (W.alloc (.cells #[v1,v2,v3,v4] 22)):=(Mod.refl _ W).alloc _;have hb:=Blk.new W [v1,v2,v3,v4] 22;have hc:cat [(v1,d1),(v2,d2),(v3,d3),(v4,d4)] = d1 ++ d2 ++ d3 ++ d4:=by simp [cat]
 have:=Concat_src (xs:=[(v1,d1),(v2,d2),(v3,d3),(v4,d4)]) (sl_whole (sz:=1) (n:=4) hb rfl (by decide)) (by
  intro x hx;simp only [List.mem_cons,List.not_mem_nil,or_false] at hx;rcases hx with rfl | rfl | rfl | rfl
  ·exact h1.fresh hma
  ·exact h2.fresh hma
  ·exact h3.fresh hma
  ·exact h4.fresh hma) (show 4≤1000 by decide) (by rw [hc];omega)
 rw [hc] at this;refine this.mono ?_;rintro e w' ⟨v',rfl,ho,hm⟩;obtain ⟨a,c,rfl,-⟩:=owns_form ho;exact ⟨a,c,rfl,DSl.own ho rfl,hma.trans hm⟩
theorem lenc_ok {w:World} {v:Value} {xs:List Ox} (h:TSl w v xs):Calls Tryz.prog 151 #[v] w fun e w'=>∃ r,e = .returned r∧DSl w' r (encL (xs.map (·.2)))∧Mod Nowhere w w':=by
 obtain ⟨a,vc,rfl,h1,h2,_⟩:=h.sl.gen;have hfew:=h.few;have hT:=fun W t h1 h2=>lTag_ok W (t:=t) h1 h2;have hC:=fun W t h1 h2=>lCons_ok W (t:=t) h1 h2;have hL:=fun W n hn=>lLen_ok W (n:=n) hn;have htk:=take_le8 h.len h.few;unfold encN at htk;refine hid5 ?_ h hT hC hL htk;clear h hT hC hL htk;intro h hT hC hL htk;go_enter Tryz.func151,Tryz.ntmps151;go_wp2
 go_loopw [3,9] (fun s i wr=>∃ k:Nat,k≤xs.length∧i = .int .i64 k∧(∃ va vc,s = .slice va (encL ((xs.take k).map (·.2))).length vc)∧DSl wr s (encL ((xs.take k).map (·.2)))∧Mod Nowhere w wr) (fun _ i _=>xs.length - (intOf i).toNat)
 case atStart=>exact ⟨0,by omega,rfl,⟨_,_,rfl⟩,Sl.nil _ _ _,Mod.refl _ _⟩
 case round =>
  obtain ⟨k,hk,rfl,⟨va,vcc,rfl⟩,hd,hm⟩:=hrel;by_cases hlt:k < xs.length
  ·obtain ⟨b,off,cap',xa,xc,e0,_,_,e3,hX⟩:=h.out.at_ hlt;obtain ⟨hb,c1,c2,c3⟩:=hX wr hm;have hl:=h.out.len xs[k] (List.getElem_mem hlt);have hv:=(h.out.data xs[k] (List.getElem_mem hlt)).fresh hm;rw [e3] at hv;obtain ⟨t1,t2⟩:=h.out.tag xs[k] (List.getElem_mem hlt)
   obtain ⟨rfl,rfl⟩:a = some ⟨b,off,none⟩∧vc = cap':=by
    simp at e0;exact ⟨e0.1,e0.2⟩
   have hs:encL ((xs.take (k + 1)).map (·.2)) = encL ((xs.take k).map (·.2)) ++ [xs[k].2.1] ++ lenB xs[k].2.2.length ++ xs[k].2.2:=by
    rw [enc_take1 hlt];unfold encO;simp
   have hk1:=htk.out (k + 1);have hk0:=htk.out k;clear hX
   generalize hE2:encL ((xs.take (k + 1)).map (·.2)) = E2 at *
   generalize encL ((xs.take k).map (·.2)) = E at *
   generalize xs[k].2.2 = D at *;generalize xs[k].2.1 = o at *;have hTo:=fun W=>hT.out W o t1 t2;have hCo:=fun W=>hC.out W o t1 t2;have hLo:=fun W=>hL.out W D.length (by omega);have hma:Mod Nowhere wr (wr.alloc (.cells #[.int .i64 (o:Int),.slice xa D.length xc,.slice none 0 0] 140)):=(Mod.refl _ wr).alloc _
   have hbx:∀ W,Mod Nowhere (wr.alloc (.cells #[.int .i64 (o:Int),.slice xa D.length xc,.slice none 0 0] 140)) W→W.cell? ⟨wr.heap.size,0,none⟩ = some (.int .i64 (o:Int))∧W.cell? ⟨wr.heap.size,1,none⟩ = some (.slice xa D.length xc)∧W.cell? ⟨wr.heap.size,2,none⟩ = some (.slice none 0 0)∧wr.heap.size < W.heap.size:=fun W hW=>by
    have hb':=(Blk.new wr [.int .i64 (o:Int),.slice xa D.length xc,.slice none 0 0] 140).mod hW id;exact ⟨hb'.cell 0,hb'.cell 1,hb'.cell 2,hb'.lt⟩
   have hJ:=fun W W' v2 v3 (m:Mod Nowhere wr W) (hs2:Src W v2 [o]) (m':Mod Nowhere W W') (hs3:Src W' v3 (lenB D.length))=>concat4 (hd.src.fresh (m.trans m')) (hs2.fresh m') hs3 (hv.fresh (m.trans m')) (by rw [← hs];omega);simp only [← hs] at hJ;obtain ⟨z0,z1,z2,zl⟩:=hbx _ (Mod.refl _ _);generalize hq:D.length = q at *;generalize hq1:E.length = q1 at *;generalize hq2:E2.length = q2 at *;generalize hlb:lenB q = lb at *;generalize hlbl:lb.length = ll at *;refine hid12 ?_ e3 hm hs hTo hCo hLo hbx hma hJ hd hv hq;clear e3 hm hs hTo hCo hLo hbx hma hJ hd hv hq;intro e3 hm hs hTo hCo hLo hbx hma hJ hd hv hq;refine hid5 ?_ hq1 hq2 hlb hlbl hE2;clear hq1 hq2 hlb hlbl hE2;intro hq1 hq2 hlb hlbl hE2
   clear hT hL htk hC;go_wp2_with fail;refine (hCo.out _).mono ?_;rintro e w3 ⟨rfl,rfl⟩;go_wp2_with fail;refine (hTo.out _).mono ?_;rintro e w4 ⟨rfl,hd4,hm4⟩;obtain ⟨y0,y1,y2,yl⟩:=hbx.out w4 hm4;clear z0 z1 z2 zl;refine hid2 ?_ hd4 hm4;clear hd4 hm4;intro hd4 hm4;go_wp2_with fail;refine (hLo.out _).mono ?_;rintro e w5 ⟨rfl,hd5,hm5⟩;have hJ5:=hJ.out w4 w5 _ _ (hma.out.trans hm4.out) hd4.out.src hm5 hd5.src;rw [World.size_alloc] at hJ5;have hm05:=hm.out.trans ((hma.out.trans hm4.out).trans hm5);clear y0 y1 y2 yl hJ;refine hid4 ?_ hd5 hm5 hJ5 hm05;clear hd5 hm5 hJ5 hm05;intro hd5 hm5 hJ5 hm05
   go_wp2_with fail;refine hJ5.out.mono ?_;rintro e w6 ⟨ra,rc,rfl,hd6,hm6⟩;have hmF:=hm05.out.trans hm6;refine hid3 ?_ hd6 hmF hm6;clear hd6 hmF hm6;intro hd6 hmF hm6;go_wp2;go_roundw
   case rel=>exact ⟨k + 1,by omega,by go_num,by rw [hE2.out,hq2.out];exact ⟨_,_,rfl⟩,by rw [hE2.out];exact hd6.out,hmF.out⟩
   case measure=>simp [intOf];omega
  ·obtain rfl:k = xs.length:=by omega
   rw [List.take_length] at hd;refine hid2 ?_ hm hd;clear hm hd;intro hm hd;go_wp2;go_ret;exact ⟨_,rfl,hd.out,hm.out⟩
theorem lEncode_ok {w:World} {v:Value} {xs:List Ox} (h:TSl w v xs):Calls Tryz.prog 76 #[v] w fun e w'=>∃ r,e = .returned (.tuple #[r,errno 0])∧DSl w' r (encL (xs.map (·.2)))∧Mod Nowhere w w':=by
 have hV:=lvalid_ok h;have hS:=fun W (hm:Mod Nowhere w W)=>lsize_ok (h.fresh hm);have hE:=fun W (hm:Mod Nowhere w W)=>lenc_ok (h.fresh hm);have hle:=encN_le h.len h.few;obtain ⟨a,vc,rfl,h1,h2,_⟩:=h.sl.gen
 generalize encL (xs.map (·.2)) = E at *
 generalize encN xs = N at *;clear h;have g4:¬ (4096:Int) < (N:Int):=by omega
 refine hid3 ?_ hV hS hE;clear hV hS hE;intro hV hS hE;go_enter Tryz.func76,Tryz.ntmps76;go_wp2_with fail;refine (hV.out).mono ?_;rintro e w1 ⟨rfl,hm1⟩;replace hm1:=Lib.hid hm1;go_wp2_with fail;refine (hS.out _ hm1.out).mono ?_;rintro e w2 ⟨rfl,hm2⟩;have hm02:=hm1.out.trans hm2;refine hid2 ?_ hm2 hm02;clear hm2 hm02;intro hm2 hm02;go_wp2_with fail;refine (hE.out _ hm02.out).mono ?_;rintro e w3 ⟨r,rfl,hd,hm3⟩;have hm03:=hm02.out.trans hm3;refine hid3 ?_ hd hm03 hm3;clear hd hm03 hm3;intro hd hm03 hm3;go_wp2
 go_ret2
 exact ⟨_,rfl,hd.out,hm03.out⟩
end Go.Proofs.YtanioleniadhoaaGreat
