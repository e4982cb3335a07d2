/-
  The journal, in plain numbers: changes, how they are written down, and that repeating them is harmless.
-/
import Derived.Test.YtanioleniadhoaaGreatAG06
import Derived.Test.YtanioleniadhoaaGreatAG07
import Derived.Lib.AppendZerosOnto
set_option linter.unusedVariables false
set_option linter.unusedSimpArgs false
set_option maxHeartbeats 2000000
set_option maxRecDepth 100000
namespace Go.Proofs.YtanioleniadhoaaGreat
namespace Jn
abbrev Ch:=Nat × List Nat
def put1 (J:Nat→Nat) (c:Ch):Nat→Nat:=fun o=>if c.1≤o∧o < c.1 + c.2.length then c.2.getD (o - c.1) 0 else J o
def puts (J:Nat→Nat) (l:List Ch):Nat→Nat:=l.foldl put1 J
def hits (l:List Ch) (o:Nat):Prop:=∃ c ∈ l,c.1≤o∧o < c.1 + c.2.length
theorem puts_cons (J:Nat→Nat) (c:Ch) (l:List Ch):puts J (c :: l) = puts (put1 J c) l:=rfl
theorem puts_snoc (J:Nat→Nat) (c:Ch) (l:List Ch):puts J (l ++ [c]) = put1 (puts J l) c:=by simp [puts,List.foldl_append]
theorem puts_congr:∀ (l:List Ch) (J K:Nat→Nat) (o:Nat),(J o = K o ∨ hits l o)→puts J l o = puts K l o
 | [],J,K,o,h=>by
  rcases h with h | ⟨c,hc,_⟩
  ·exact h
  ·cases hc
 | c :: l,J,K,o,h=>by
  rw [puts_cons,puts_cons]
  apply puts_congr
  by_cases hc:c.1≤o∧o < c.1 + c.2.length
  ·left;unfold put1;rw [if_pos hc,if_pos hc]
  ·rcases h with h | ⟨d,hd,hd2⟩
   ·left;unfold put1;rw [if_neg hc,if_neg hc];exact h
   ·rcases List.mem_cons.1 hd with e | hd
    ·subst e;exact (hc hd2).elim
    ·right;exact ⟨d,hd,hd2⟩
theorem puts_miss:∀ (l:List Ch) (J:Nat→Nat) (o:Nat),¬ hits l o→puts J l o = J o
 | [],_,_,_=>rfl
 | c :: l,J,o,h=>by
  rw [puts_cons,puts_miss l _ o (fun ⟨d,hd,h2⟩=>h ⟨d,List.mem_cons_of_mem _ hd,h2⟩)];unfold put1;rw [if_neg (fun q=>h ⟨c,List.mem_cons_self ..,q⟩)]
theorem puts_idem {J K:Nat→Nat} {l:List Ch} {o:Nat} (h:K o = J o ∨ K o = puts J l o):puts K l o = puts J l o:=by
 by_cases hh:hits l o
 ·exact puts_congr l K J o (.inr hh)
 ·rw [puts_miss _ _ _ hh,puts_miss _ _ _ hh];rcases h with h | h
  ·exact h
  ·rw [h,puts_miss _ _ _ hh]
def be:Nat→Nat→List Nat
 | 0,_=>[]
 | w + 1,n=>be w (n / 256) ++ [n % 256]
def num (l:List Nat):Nat:=l.foldl (fun n x=>n * 256 + x) 0
theorem num_snoc (l:List Nat) (x:Nat):num (l ++ [x]) = num l * 256 + x:=by simp [num,List.foldl_append]
theorem be_len:∀ (w n:Nat),(be w n).length = w
 | 0,_=>rfl
 | w + 1,n=>by simp [be,be_len w]
theorem num_be:∀ (w n:Nat),num (be w n) = n % 256 ^ w
 | 0,n=>by simp [be,num,Nat.mod_one]
 | w + 1,n=>by
  rw [be,num_snoc,num_be w];rw [Nat.pow_succ,Nat.mul_comm (256 ^ w) 256,Nat.mod_mul];omega
theorem num_be_lt {w n:Nat} (h:n < 256 ^ w):num (be w n) = n:=by rw [num_be,Nat.mod_eq_of_lt h]
theorem be_bytes:∀ (w n:Nat),Bytes (be w n)
 | 0,_=>fun k=>by simp [be]
 | w + 1,n=>fun k=>by
  rw [be,gd0,List.getElem?_append]
  split
  ·have:=be_bytes w (n / 256) k
   rwa [gd0] at this
  ·by_cases e:k - (be w (n / 256)).length = 0
   ·rw [e];simp;omega
   ·rw [List.getElem?_eq_none (by simp;omega)];simp
theorem be_getD:∀ (w n i:Nat),i < w→(be w n).getD i 0 = n / 256 ^ (w - 1 - i) % 256
 | w + 1,n,i,h=>by
  rw [be,gd0,List.getElem?_append]
  split
  ·rename_i hi
   rw [be_len] at hi;have:=be_getD w (n / 256) i hi;rw [gd0] at this;rw [this,Nat.div_div_eq_div_mul,show w + 1 - 1 - i = (w - 1 - i) + 1 by omega,Nat.pow_succ,Nat.mul_comm]
  ·rename_i hi
   rw [be_len] at hi ⊢;have e:i = w:=by omega
   subst e;simp
theorem num_lt_aux:∀ (l:List Nat) (a k:Nat),Bytes l→a < 256 ^ k→l.foldl (fun n x=>n * 256 + x) a < 256 ^ (k + l.length)
 | [],a,k,_,h=>by simpa using h
 | x :: l,a,k,hb,h=>by
  have hx:x < 256:=hb 0;have:=num_lt_aux l (a * 256 + x) (k + 1) (fun j=>hb (j + 1)) (by rw [Nat.pow_succ];omega);rw [List.foldl_cons,List.length_cons,show k + (l.length + 1) = k + 1 + l.length by omega];exact this
theorem num_lt (l:List Nat) (h:Bytes l):num l < 256 ^ l.length:=by
 have:=num_lt_aux l 0 0 h (by decide)
 rwa [Nat.zero_add] at this
def encC (c:Ch):List Nat:=be 6 c.1 ++ (be 2 c.2.length ++ c.2)
def enc (l:List Ch):List Nat:=l.flatMap encC
theorem encC_len (c:Ch):(encC c).length = 8 + c.2.length:=by simp [encC,be_len];omega
theorem enc_cons (c:Ch) (l:List Ch):enc (c :: l) = encC c ++ enc l:=rfl
theorem enc_snoc (l:List Ch) (c:Ch):enc (l ++ [c]) = enc l ++ encC c:=by simp [enc]
theorem enc_head (c:Ch) (x:List Nat):(encC c ++ x).take 6 = be 6 c.1∧((encC c ++ x).drop 6).take 2 = be 2 c.2.length∧(encC c ++ x).drop 8 = c.2 ++ x:=by
 have h6:=be_len 6 c.1;have h2:=be_len 2 c.2.length;refine ⟨?_,?_,?_⟩
 ·unfold encC;rw [List.append_assoc,List.take_left' h6]
 ·unfold encC;rw [List.append_assoc,List.drop_left' h6,List.append_assoc,List.take_left' h2]
 ·unfold encC;rw [show (8:Nat) = 6 + 2 by rfl,← List.drop_drop,List.append_assoc,List.drop_left' h6,List.append_assoc,List.drop_left' h2]
def wsum (l:List Ch):Nat:=(l.map fun c=>8 + c.2.length).sum
theorem enc_len:∀ (l:List Ch),(enc l).length = wsum l
 | []=>rfl
 | c :: l=>by rw [enc_cons,List.length_append,encC_len,enc_len l];simp [wsum]
theorem wsum_cons (c:Ch) (l:List Ch):wsum (c :: l) = 8 + c.2.length + wsum l:=by simp [wsum]
theorem wsum_snoc (c:Ch) (l:List Ch):wsum (l ++ [c]) = wsum l + (8 + c.2.length):=by simp [wsum]
abbrev PC:=Nat→List Nat
def rd (pc:PC) (first off n:Nat):List Nat:=(List.range n).map fun k=>(pc (first + (off + k) / 48)).getD ((off + k) % 48) 0
def jb (pc:PC) (o:Nat):Nat:=(pc (32 + o / 48)).getD (o % 48) 0
def sp (J:Nat→Nat) (off n:Nat):List Nat:=(List.range n).map fun k=>J (off + k)
theorem sp_len (J:Nat→Nat) (off n:Nat):(sp J off n).length = n:=by simp [sp]
theorem rd_sp (pc:PC) (off n:Nat):rd pc 32 off n = sp (jb pc) off n:=rfl
theorem sp_congr {J K:Nat→Nat} {off n:Nat} (h:∀ o,off≤o→o < off + n→J o = K o):sp J off n = sp K off n:=by
 unfold sp;refine List.map_congr_left fun k hk=>h _ (by omega) ?_;have:=List.mem_range.1 hk;omega
def hdn (pc:PC):Nat:=num ((pc 0).take 8)
def headPage (n:Nat):List Nat:=be 8 n ++ List.replicate 40 0
theorem headPage_len (n:Nat):(headPage n).length = 48:=by simp [headPage,be_len]
theorem bytes_append {a b:List Nat} (ha:Bytes a) (hb:Bytes b):Bytes (a ++ b):=fun k=>by
 rw [gd0,List.getElem?_append]
 split
 ·rw [← gd0];exact ha k
 ·rw [← gd0];exact hb _
theorem bytes_zeros (n:Nat):Bytes (List.replicate n 0):=fun k=>by
 rw [gd0,List.getElem?_replicate]
 split <;> simp
theorem bytes_mem {l:List Nat}:Bytes l ↔ ∀ x ∈ l,x < 256:=by
 constructor
 ·intro h x hx;obtain ⟨i,hi,e⟩:=List.mem_iff_getElem.1 hx;have:=h i;rw [gd0,List.getElem?_eq_getElem hi] at this;rw [← e];exact this
 ·intro h k;rw [gd0];by_cases hk:k < l.length
  ·rw [List.getElem?_eq_getElem hk];exact h _ (List.getElem_mem hk)
  ·rw [List.getElem?_eq_none (by omega)];decide
theorem bytes_take {l:List Nat} (h:Bytes l) (n:Nat):Bytes (l.take n):=bytes_mem.2 fun x hx=>bytes_mem.1 h x (List.mem_of_mem_take hx)
theorem bytes_drop {l:List Nat} (h:Bytes l) (n:Nat):Bytes (l.drop n):=bytes_mem.2 fun x hx=>bytes_mem.1 h x (List.mem_of_mem_drop hx)
theorem headPage_bytes (n:Nat):Bytes (headPage n):=bytes_append (be_bytes _ _) (bytes_zeros _)
theorem headPage_num {n:Nat} (h:n < 18446744073709551616):num ((headPage n).take 8) = n:=by
 unfold headPage;rw [List.take_left' (be_len 8 n),num_be_lt h]
def logPage (b:List Nat) (i:Nat):List Nat:=(b.drop (i * 48)).take 48 ++ List.replicate (48 - ((b.drop (i * 48)).take 48).length) 0
theorem logPage_len (b:List Nat) (i:Nat):(logPage b i).length = 48:=by simp [logPage];omega
theorem logPage_bytes {b:List Nat} (h:Bytes b) (i:Nat):Bytes (logPage b i):=bytes_append (bytes_take (bytes_drop h _) _) (bytes_zeros _)
def Logged (pc:PC) (b:List Nat):Prop:=∀ i,i * 48 < b.length→pc (1 + i) = logPage b i
theorem rd_logged {pc:PC} {b:List Nat} (h:Logged pc b):rd pc 1 0 b.length = b:=by
 apply List.ext_getElem (by simp [rd])
 intro k h1 h2;have hk:k / 48 * 48≤k:=Nat.div_mul_le_self k 48;have hm:=Nat.mod_lt k (show 48 > 0 by omega);have hdm:=Nat.div_add_mod k 48;simp only [rd,List.getElem_map,List.getElem_range,Nat.zero_add];rw [h (k / 48) (by omega)];unfold logPage;rw [gd0,List.getElem?_append_left (by simp;omega),List.getElem?_take];rw [if_pos hm,List.getElem?_drop,show k / 48 * 48 + k % 48 = k by omega,List.getElem?_eq_getElem h2]
 rfl
structure ChOk (S:Nat) (c:Ch):Prop where
 fit:c.1 + c.2.length≤S
 bytes:Bytes c.2
structure Still (C:Nat) (pc:PC) (J:Nat→Nat):Prop where
 head:hdn pc = 0
 is:∀ o,o < (C - 32) * 48→jb pc o = J o
structure Due (C:Nat) (pc:PC) (J:Nat→Nat) (l:List Ch):Prop where
 head:hdn pc = (enc l).length
 pos:0 < (enc l).length
 le:(enc l).length≤1488
 logged:Logged pc (enc l)
 ok:∀ c ∈ l,ChOk ((C - 32) * 48) c
 is:∀ o,o < (C - 32) * 48→puts (jb pc) l o = J o
def Holdsj (C:Nat) (pc:PC) (J:Nat→Nat):Prop:=Still C pc J ∨ ∃ l,Due C pc J l
theorem Still.congr {C:Nat} {pc:PC} {J K:Nat→Nat} (h:Still C pc J) (e:∀ o,o < (C - 32) * 48→J o = K o):Still C pc K:=⟨h.head,fun o ho=>(h.is o ho).trans (e o ho)⟩
theorem Holdsj.congr {C:Nat} {pc:PC} {J K:Nat→Nat} (h:Holdsj C pc J) (e:∀ o,o < (C - 32) * 48→J o = K o):Holdsj C pc K:=by
 rcases h with h | ⟨l,h⟩
 ·exact .inl (h.congr e)
 ·exact .inr ⟨l,{ h with is:=fun o ho=>(h.is o ho).trans (e o ho) }⟩
theorem hdn_set {pc:PC} {i:Nat} {b:List Nat} (hi:i ≠ 0):hdn (setPage pc i b) = hdn pc:=by
 unfold hdn setPage;rw [if_neg (fun e=>hi e.symm)]
theorem hdn_set0 {pc:PC} {b:List Nat}:hdn (setPage pc 0 b) = num (b.take 8):=by
 unfold hdn setPage;rw [if_pos rfl]
theorem jb_set_low {pc:PC} {i:Nat} {b:List Nat} (hi:i < 32) (o:Nat):jb (setPage pc i b) o = jb pc o:=by
 unfold jb setPage;rw [if_neg (by omega)]
theorem jb_set {pc:PC} {i:Nat} {b:List Nat} (o:Nat):jb (setPage pc i b) o = if 32 + o / 48 = i then b.getD (o % 48) 0 else jb pc o:=by
 unfold jb setPage
 split <;> rfl
theorem setPage_other {pc:PC} {i j:Nat} {b:List Nat} (h:j ≠ i):setPage pc i b j = pc j:=by unfold setPage;rw [if_neg h]
theorem setPage_self {pc:PC} {i:Nat} {b:List Nat}:setPage pc i b i = b:=by unfold setPage;rw [if_pos rfl]
theorem Still.low {C:Nat} {pc:PC} {J:Nat→Nat} {i:Nat} {b:List Nat} (h:Still C pc J) (h0:1≤i) (hi:i < 32):Still C (setPage pc i b) J :=
 ⟨by rw [hdn_set (by omega)];exact h.head,fun o ho=>by rw [jb_set_low hi];exact h.is o ho⟩
theorem Still.decide {C:Nat} {pc:PC} {J:Nat→Nat} {l:List Ch} (h:Still C pc J) (hpos:0 < (enc l).length) (hle:(enc l).length≤1488) (hlog:Logged pc (enc l)) (hok:∀ c ∈ l,ChOk ((C - 32) * 48) c) :
  Due C (setPage pc 0 (headPage (enc l).length)) (puts J l) l:=by
 refine ⟨?_,hpos,hle,fun i hi=>?_,hok,fun o ho=>?_⟩
 ·rw [hdn_set0,headPage_num (by omega)]
 ·rw [setPage_other (by omega)];exact hlog i hi
 ·refine puts_congr l _ _ o (.inl ?_);rw [jb_set_low (by omega)];exact h.is o ho
theorem Due.page {C:Nat} {pc:PC} {J:Nat→Nat} {l:List Ch} {i:Nat} {b:List Nat} (h:Due C pc J l) (hi:32≤i) (hb:∀ r,r < 48→b.getD r 0 = puts (jb pc) l ((i - 32) * 48 + r)) :
  Due C (setPage pc i b) J l:=by
 refine ⟨by rw [hdn_set (by omega)];exact h.head,h.pos,h.le,fun k hk=>?_,h.ok,fun o ho=>?_⟩
 ·have:=h.le;rw [setPage_other (by omega)];exact h.logged k hk
 ·rw [← h.is o ho];refine puts_idem ?_;rw [jb_set];by_cases e:32 + o / 48 = i
  ·rw [if_pos e,hb _ (Nat.mod_lt _ (by omega))];refine .inr ?_
   have:(i - 32) * 48 + o % 48 = o:=by
    have:=Nat.div_add_mod o 48;omega
   rw [this]
  ·rw [if_neg e];exact .inl rfl
theorem Due.done {C:Nat} {pc:PC} {J:Nat→Nat} {l:List Ch} (h:Due C pc J l) (hd:∀ o,o < (C - 32) * 48→jb pc o = puts (jb pc) l o):Still C (setPage pc 0 (headPage 0)) J:=by
 refine ⟨by rw [hdn_set0,headPage_num (by omega)],fun o ho=>?_⟩;rw [jb_set_low (by omega),hd o ho];exact h.is o ho
end Jn
end Go.Proofs.YtanioleniadhoaaGreat
/-
 The journal's small functions.
-/
namespace Go.Proofs.YtanioleniadhoaaGreat
open Go.RowKit
open Jn
structure JBlk (w:World) (jb:Nat) (M:MemAt) (P:PAt) (p:PSt):Prop where
 bj:Blk w jb [ptr P.pb] 255
 bp:PBlk w M P p
theorem jMade_ok {w:World} {jb pb:Nat} (hj:w.cell? ⟨jb,0,none⟩ = some (ptr pb)) :
  Calls Tryz.prog 196 #[ptr jb] w fun e w'=>e = .returned (.bool true)∧w = w':=by
 go_enter Tryz.func196,Tryz.ntmps196;go_wp2;go_ret;exact ⟨rfl,rfl⟩
theorem jSize_ok {w:World} {jb:Nat} {M:MemAt} {P:PAt} {p:PSt} (h:JBlk w jb M P p) (h32:32≤p.count) (h16:p.count≤65536) :
  Calls Tryz.prog 160 #[ptr jb] w fun e w'=>e = .returned (.int .i64 ((p.count - 32) * 48:Nat))∧w = w':=by
 have hj:w.cell? ⟨jb,0,none⟩ = some (ptr P.pb):=h.bj.cell 0;have hM:=jMade_ok hj;have hC:=pCount_ok h.bp;refine hid2 ?_ hM hC;clear hM hC;intro hM hC;clear h;generalize p.count = C at *;have e1:max (0:Int) ((C:Int) - 32) = ((C - 32:Nat):Int):=by omega
 go_enter Tryz.func160,Tryz.ntmps160
 go_wp2_with (first | (go_at_call 196;refine hM.out.mono ?_;rintro e w1 ⟨rfl,rfl⟩) | (go_at_call 172;refine hC.out.mono ?_;rintro e w1 ⟨rfl,rfl⟩))
 all_goals
  go_ret;exact ⟨ret_int (by omega),rfl⟩
theorem jAlive_ok {w:World} {jb:Nat} {M:MemAt} {m:Mem} {P:PAt} {p:PSt} (hR:MemRep w M m) (h:JBlk w jb M P p) :
  Calls Tryz.prog 141 #[ptr jb] w fun e w'=>e = .returned (.bool (alive m p))∧∃ n,w' = w.drewN n:=by
 have hj:w.cell? ⟨jb,0,none⟩ = some (ptr P.pb):=h.bj.cell 0;have hM:=jMade_ok hj;have hA:=pAlive_ok hR h.bp;refine hid2 ?_ hM hA;clear hM hA;intro hM hA;clear h hR;generalize alive m p = al at *;go_enter Tryz.func141,Tryz.ntmps141
 go_wp2_with (first | (go_at_call 196;refine hM.out.mono ?_;rintro e w1 ⟨rfl,rfl⟩) | (go_at_call 173;refine hA.out.mono ?_;rintro e w1 ⟨rfl,n,rfl⟩))
 go_ret;exact ⟨ret_bool rfl,n,rfl⟩
theorem num_take_le:∀ (l:List Nat) (a:Nat),a≤l.foldl (fun n x=>n * 256 + x) a
 | [],a=>Nat.le_refl _
 | x :: l,a=>Nat.le_trans (by omega) (num_take_le l (a * 256 + x))
theorem num_take (l:List Nat) (k:Nat):num (l.take k)≤num l:=by
 have:num l = (l.drop k).foldl (fun n x=>n * 256 + x) (num (l.take k)):=by
  unfold num;rw [← List.foldl_append,List.take_append_drop]
 rw [this];exact num_take_le _ _
theorem num_take_succ (l:List Nat) (k:Nat) (h:k < l.length):num (l.take (k + 1)) = num (l.take k) * 256 + l.getD k 0:=by
 rw [take_snoc_nat l k h,num_snoc]
theorem num_word (n x:Nat) (hn:n < 36028797018963968) (hx:x < 256):bits .or .i64 ((n:Int) * 256) (x:Int) = ((n * 256 + x:Nat):Int):=by
 have e1:(n:Int) * 256 = ((n * 256:Nat):Int):=by omega
 rw [e1,i64_or _ _ (by omega) (by omega)];rw [nat_join 8 (n * 256) x (by omega) (by omega)]
theorem number_ok {w:World} {v:Value} {l:List Nat} (h:Sl w v 5 1 l.length (u8s l)) (hb:Bytes l) (hl:l.length≤8) (hn:num l < 36028797018963968) :
  Calls Tryz.prog 175 #[v] w fun e w'=>e = .returned (.int .i64 (num l:Nat))∧w = w':=by
 obtain ⟨a,cap,rfl,h1,h2,hcells⟩:=h.gen;clear h;replace hb:=Lib.hid hb;go_enter Tryz.func175,Tryz.ntmps175;go_wp2
 go_loop [3,8] (fun n i=>∃ k:Nat,k≤l.length∧i = .int .i64 k∧n = .int .i64 (num (l.take k):Nat)) (fun _ i=>l.length - (intOf i).toNat)
 case atStart=>exact ⟨0,by omega,rfl,by simp [num]⟩
 case round =>
  obtain ⟨k,hk,rfl,rfl⟩:=hrel;have hle:=num_take l k;by_cases hlt:k < l.length
  ·obtain ⟨b,off,rfl,hbl,hc,hz⟩:=hcells (by omega);have hck:=hc k (by omega);rw [u8s_getD l k hlt] at hck;have hx:=hb.out k;have hs:=num_take_succ l k hlt;have hw:=num_word (num (l.take k)) (l.getD k 0) (by omega) hx;replace hs:=Lib.hid hs;generalize l.getD k 0 = x at *;generalize num (l.take k) = n0 at *;clear hc;go_wp2
   go_round
   case rel=>exact ⟨k + 1,by omega,by go_num,by rw [hs.out];go_num⟩
   case measure=>simp [intOf];omega
  ·obtain rfl:k = l.length:=by omega
   rw [List.take_length];clear hcells;go_wp2;go_ret;exact ⟨rfl,rfl⟩
theorem be_succ (w n k:Nat) (h:k < w):(be w n).getD (w - 1 - k) 0 = n / 256 ^ k % 256:=by
 rw [be_getD w n _ (by omega),show w - 1 - (w - 1 - k) = k by omega]
def bePart (w n k:Nat):List Nat:=(List.range w).map fun i=>if w - 1 - i < k then (be w n).getD i 0 else 0
theorem bePart_zero (w n:Nat):bePart w n 0 = List.replicate w 0:=by
 unfold bePart
 apply List.ext_getElem (by simp)
 intro i h1 h2;simp
theorem bePart_all (w n:Nat):bePart w n w = be w n:=by
 unfold bePart
 apply List.ext_getElem (by simp [be_len])
 intro i h1 h2;have hi:i < w:=by simpa using h1
 simp only [List.getElem_map,List.getElem_range];rw [if_pos (by omega),gd0,List.getElem?_eq_getElem h2];rfl
theorem bePart_succ (w n k:Nat) (h:k < w):(bePart w n k).set (w - 1 - k) (n / 256 ^ k % 256) = bePart w n (k + 1):=by
 apply List.ext_getElem (by simp [bePart])
 intro i h1 h2;have hi:i < w:=by simpa [bePart] using h2
 rw [List.getElem_set];by_cases e:w - 1 - k = i
 ·rw [if_pos e];simp only [bePart,List.getElem_map,List.getElem_range];rw [if_pos (by omega),← e,be_succ w n k h]
 ·rw [if_neg e];simp only [bePart,List.getElem_map,List.getElem_range];by_cases e2:w - 1 - i < k
  ·rw [if_pos e2,if_pos (by omega)]
  ·rw [if_neg e2,if_neg (by omega)]
theorem bePart_len (w n k:Nat):(bePart w n k).length = w:=by simp [bePart]
theorem bytesOf_ok {w:World} (n wd:Nat) (hn:n < 9223372036854775808) (hw:wd≤8) (hw1:1≤wd) :
  Calls Tryz.prog 290 #[.int .i64 n,.int .i64 wd] w fun e w'=>e = .returned (.slice (some ⟨w.heap.size,0,none⟩) wd wd)∧Blk w' w.heap.size (u8s (be wd n)) 5∧Mod Nowhere w w':=by
 have hmk:=run_make_full (P:=Tryz.prog) 22 5 (.int .u8 0) 1 Tryz.underlying22 info_u8 rfl wd (by omega) (by omega) w;have hb0:=Blk.new w (List.replicate wd (.int .u8 0)) 5;have hm0:Mod Nowhere w (w.alloc (.cells (List.replicate wd (Value.int .u8 0)).toArray 5)):=(Mod.refl _ w).alloc _;generalize hZ:(List.replicate wd (Value.int .u8 0)).toArray = Z at hmk hb0 hm0;replace hZ:=Lib.hid hZ;go_enter Tryz.func290,Tryz.ntmps290;go_wp2
 go_loopw [11] (fun i wr=>∃ k:Nat,k≤wd∧i = .int .i64 k∧Blk wr w.heap.size (u8s (bePart wd n k)) 5∧Mod Nowhere w wr) (fun i _=>wd - (intOf i).toNat)
 case atStart=>exact ⟨0,by omega,rfl,hb0.conv (show List.replicate wd (Value.int .u8 0) = u8s (bePart wd n 0) by rw [bePart_zero];simp [u8s]),hm0⟩
 case round =>
  obtain ⟨k,hk,rfl,hbk,hmk2⟩:=hrel;by_cases hlt:k < wd
  ·have hz:=hbk.frozen;have hl:=hbk.lt;have hlen:=bePart_len wd n k
   have hc:wr.cell? ⟨w.heap.size,wd - 1 - k,none⟩ = some (.int .u8 ((bePart wd n k).getD (wd - 1 - k) 0:Nat)):=by
    rw [hbk.cell];simp [u8s,gd0,List.getElem?_map,List.getElem?_eq_getElem (show wd - 1 - k < (bePart wd n k).length by omega)]
   generalize (bePart wd n k).getD (wd - 1 - k) 0 = old at hc;have hs:=bePart_succ wd n k hlt;refine hid3 ?_ hs hbk hmk2;clear hs hbk hmk2;intro hs hbk hmk2;go_wp2;go_roundw
   case rel =>
    refine ⟨k + 1,by omega,by go_num,((hbk.out.setCell (wd - 1 - k) _).conv ?_),hmk2.out.setCell (p:=⟨w.heap.size,_,none⟩) (fun h=>by have h:w.heap.size < w.heap.size:=h;omega) _⟩
    have e1:(n:Int) / 2 ^ (8 * k) % 256 = ((n / 256 ^ k % 256:Nat):Int):=by
     rw [show (256:Nat) ^ k = 2 ^ (8 * k) by rw [Nat.pow_mul]];simp
    rw [e1,← hs.out];simp [u8s,List.map_set]
   case measure=>simp [intOf];omega
  ·obtain rfl:k = wd:=by omega
   rw [bePart_all] at hbk;replace hbk:=Lib.hid hbk;go_wp2;go_ret;exact ⟨rfl,hbk.out,hmk2⟩
end Go.Proofs.YtanioleniadhoaaGreat
/-
 The journal on its pages; reading.
-/
namespace Go.Proofs.YtanioleniadhoaaGreat
open Go.RowKit
open Jn
theorem run_mid {P:Program} {t e:TypeId} {z:Value} {bytes:Nat} (ht:P.underlying t = some (.slice e)) (hi:(P.info? e).map (fun i=>(i.zero,i.size,i.bytes)) = some (some z,1,bytes)) (b off n cap i j:Nat) (hij:i≤j) (hj:j≤cap) (hc:i < cap) (W:World) :
  (Instr.slice t (.slice (some ⟨b,off,none⟩) n cap) (some (.int .i64 i)) (some (.int .i64 j)) none).run P W = .ok (.slice (some ⟨b,off + i,none⟩) (j - i) (cap - i)) W:=by
 obtain ⟨i0,hi0,hz0,hz1,hz2⟩:=info_parts hi;have h1:(j:Int)≤(cap:Int):=by omega
 have h2:¬ ((j:Int) < i):=by omega
 have h3:cap - i ≠ 0:=by omega
 simp [Instr.slice,Instr.sliceBounds,Instr.sliceBound,run_underlying ht,asIntOf,sizeOf,typeInfo,hi0,hz1,add_lit,hij,h3,show ¬ cap < j by omega,show ¬ cap = i by omega]
theorem rd_add (pc:PC) (first off k q i at_:Nat) (hi:first + (off + k) / 48 = i) (hat:(off + k) % 48 = at_) (hq:at_ + q≤48) :
  rd pc first off (k + q) = rd pc first off k ++ (List.range q).map fun j=>(pc i).getD (at_ + j) 0:=by
 unfold rd;rw [List.range_add,List.map_append]
 congr 1
 rw [List.map_map];refine List.map_congr_left fun j hj=>?_;have hj:=List.mem_range.1 hj;have hdm:=Nat.div_add_mod (off + k) 48;have e1:(off + (k + j)) / 48 = (off + k) / 48:=by omega
 have e2:(off + (k + j)) % 48 = at_ + j:=by omega
 show (pc (first + (off + (k + j)) / 48)).getD ((off + (k + j)) % 48) 0 = _
 rw [e1,e2,hi]
theorem mid_getD (l:List Nat) (a q:Nat) (h:a + q≤l.length):(l.drop a).take q = (List.range q).map fun j=>l.getD (a + j) 0:=by
 apply List.ext_getElem (by simp;omega)
 intro i h1 h2;have hi:i < q:=by simpa using h2
 simp [gd0,show a + i < l.length by omega]
structure Jr (w:World) (jb:Nat) (M:MemAt) (m:Mem) (P:PAt) (p:PSt) (pc:PC):Prop where
 pg:Pg w M m P p pc
 bj:Blk w jb [ptr P.pb] 255
 jn:¬ (P.S jb ∨ M.S jb)
 c33:33≤p.count
section
variable {w w' : World} {jb : Nat} {M : MemAt} {m : Mem} {P : PAt} {p : PSt} {pc : PC} {S : Nat → Prop}
theorem Pg.keep (h:Pg w M m P p pc) (hm:Mod S w w') (hS:∀ k,(P.S k ∨ M.S k)→¬ S k) (hf:Off S P.fv):Pg w' M m P p pc :=
 ⟨h.ctx.keep hm (fun k hk=>hS k (hk.elim .inr (fun e=>.inl (.inl e)))),h.rep.mod hm (fun k hk=>hS k (.inl hk)) hf,h.inv,h.fit,h.alive⟩
theorem Pg.lt (h:Pg w M m P p pc):∀ k,(P.S k ∨ M.S k)→k < w.heap.size:=by
 rintro k ((e | e | e) | e)
 ·rw [e];exact h.rep.bp.lt
 ·rw [e];exact h.rep.ba.lt
 ·rw [e];exact h.rep.bh.lt
 ·exact h.ctx.mem.lt k e
theorem Pg.fresh (h:Pg w M m P p pc) (hm:Mod S w w') (hS:∀ k,k < w.heap.size→¬ S k):Pg w' M m P p pc :=
 h.keep hm (fun k hk=>hS k (h.lt k hk)) (fun k hk=>hS k (h.rep.bf.lt k hk))
theorem Jr.keep (h:Jr w jb M m P p pc) (hm:Mod S w w') (hS:∀ k,(k = jb ∨ P.S k ∨ M.S k)→¬ S k) (hf:Off S P.fv):Jr w' jb M m P p pc :=
 ⟨h.pg.keep hm (fun k hk=>hS k (.inr hk)) hf,h.bj.mod hm (hS _ (.inl rfl)),h.jn,h.c33⟩
theorem Jr.cell (h:Jr w jb M m P p pc):w.cell? ⟨jb,0,none⟩ = some (ptr P.pb):=h.bj.cell 0
theorem Jr.jblk (h:Jr w jb M m P p pc):JBlk w jb M P p:=⟨h.bj,h.pg.rep.bp⟩
theorem Jr.fresh (h:Jr w jb M m P p pc) (hm:Mod S w w') (hS:∀ k,k < w.heap.size→¬ S k):Jr w' jb M m P p pc :=
 ⟨h.pg.fresh hm hS,h.bj.mod hm (hS _ h.bj.lt),h.jn,h.c33⟩
theorem Jr.above {B:Nat} (h:Jr w jb M m P p pc) (hm:Mod (Above B) w w') (hB:w.heap.size≤B):Jr w' jb M m P p pc :=
 h.fresh hm (fun k hk e=>by have e:B≤k:=e;omega)
theorem Jr.only (h:Jr w jb M m P p pc) (hg:Pg w' M m P p pc) (hm:Mod (Only P.pb) w w'):Jr w' jb M m P p pc :=
 ⟨hg,h.bj.mod hm (fun e=>h.jn (.inl (.inl e))),h.jn,h.c33⟩
theorem Jr.lt (h:Jr w jb M m P p pc):∀ k,(k = jb ∨ P.S k ∨ M.S k)→k < w.heap.size:=by
 rintro k (e | e)
 ·rw [e];exact h.bj.lt
 ·exact h.pg.lt k e
end
theorem pc_len {w:World} {M:MemAt} {m:Mem} {P:PAt} {p:PSt} {pc:PC} (h:Pg w M m P p pc) (i:Nat) (hi:i < p.count):(pc i).length = 48:=h.inv.h.len i hi
theorem jPages_ok {w:World} {jb:Nat} {M:MemAt} {m:Mem} {P:PAt} {p:PSt} {pc:PC} (h:Jr w jb M m P p pc) (first off n:Nat) (hfit:first * 48 + off + n≤p.count * 48) :
  Calls Tryz.prog 238 #[ptr jb,.int .i64 first,.int .i64 off,.int .i64 n] w fun e w'=>∃ v,e = .returned (.tuple #[v,errno 0])∧w'.ownsRow w.heap.size 5 1 v n (u8s (rd pc first off n))∧Jr w' jb M m P p pc∧Mod (Only P.pb) w w':=by
 obtain ⟨i0,hi0,hz0,hz1,hz2⟩:=info_parts info_u8;have c16:=h.pg.rep.c16;have h':Hid (Jr w jb M m P p pc):=h;have hpn:¬ w.heap.size≤P.pb:=by have:=h.pg.rep.bp.lt;omega
 clear h;go_enter Tryz.func238,Tryz.ntmps238;go_wp2
 go_loopg [2,3,10] n (fun gg o q vv wr=>∃ k:Nat,k≤n∧gg + k = n∧o = .int .i64 (off + k:Nat)∧q = .int .i64 (n - k:Nat)∧wr.ownsRow w.heap.size 5 1 vv k (u8s (rd pc first off k))∧Jr wr jb M m P p pc∧Mod (Only P.pb) w wr)
 case atStart=>exact ⟨0,by omega,by omega,rfl,rfl,World.ownsRow_nil _ _ _ _,h'.out,Mod.refl _ _⟩
 case round =>
  obtain ⟨k,hk,hgg,rfl,rfl,hown,hJ,hm⟩:=hrel;by_cases hlt:k < n
  ·have hcj:=hJ.cell;have hi:first + (off + k) / 48 < p.count:=by omega
   have hRd:=pRead_ok hJ.pg hi;have hlen:=pc_len hJ.pg _ hi;have hdm:=Nat.div_add_mod (off + k) 48;have hml:=Nat.mod_lt (off + k) (show 48 > 0 by omega);obtain ⟨i,hi'⟩:∃ i,first + (off + k) / 48 = i:=⟨_,rfl⟩
   obtain ⟨at_,hat⟩:∃ a,(off + k) % 48 = a:=⟨_,rfl⟩;have hii:(first:Int) + ((off + k:Nat):Int) / 48 = (i:Int):=by omega
   have hai:((off + k:Nat):Int) % 48 = (at_:Int):=by omega
   rw [hi'] at hRd hlen hi;rw [hat] at hml;have hrd:=fun q=>rd_add pc first off k q i at_ hi' hat
   generalize hok:off + k = ok at *;have hok2:ok≤4000000:=by omega
   have hnk:n - k≤4000000:=by omega
   refine hid10 ?_ hrd hRd hJ hown hm hi' hat hok hdm hlen;clear hrd hRd hJ hown hm hi' hat hok hdm hlen;intro hrd hRd hJ hown hm hi' hat hok hdm hlen;go_wp2_with fail;refine hRd.out.mono ?_;rintro e w1 ⟨v1,rfl,hown1,hg1,hm1⟩;obtain ⟨b1,cap1,cs1,rfl,hb1,hB1,hcap1,hcap1',hcl1,hct1⟩:=owns_open hown1 (by omega);have hJ1:=hJ.out.only hg1 hm1;have hown2:=owns_mod hown.out hm1 (fun j hj e=>hpn (by have e:j = P.pb:=e;omega));have hsz1:=hm1.size;have hszr:=hm.out.size;have hJlt:∀ k,(k = jb ∨ P.S k ∨ M.S k)→k < w.heap.size:=fun k hk=>h'.out.lt k hk
   have hsrc:∀ q,at_ + q≤48→∀ j u,(u8s (((pc i).drop at_).take q))[j]? = some u→w1.cell? ((⟨b1,at_,none⟩:Addr).add j) = some u:=by
    intro q hq j u hj;rw [add_lit,hB1.cell]
    have hjq:j < q:=by
     have:=(List.getElem?_eq_some_iff.1 hj).1;simp [u8s] at this;omega
    have e1:cs1[at_ + j]? = (cs1.take (48 * 1))[at_ + j]?:=by rw [List.getElem?_take,if_pos (by omega)]
    rw [e1,hct1];simp only [u8s,List.getElem?_map,List.getElem?_take,hjq,if_true,List.getElem?_drop] at hj ⊢;exact hj
   have hnl:∀ q,at_ + q≤48→(u8s (((pc i).drop at_).take q)).length = q * 1:=by
    intro q hq;have e:=hlen.out;simp [u8s,e];omega
   have hone:∀ l:List Nat,∀ u ∈ u8s l,u.oneCell' = true:=by
    intro l u hu;simp only [u8s,List.mem_map] at hu;obtain ⟨x,_,rfl⟩:=hu
    rfl
   have hfv2:Off (Above w.heap.size) P.fv:=fun k hk e=>by
    have:=h'.out.pg.rep.bf.lt k hk;have e:w.heap.size≤k:=e;omega
   replace hJ1:=Lib.hid hJ1;by_cases hmin:48≤at_ + (n - k)
   ·have hmi:(48:Int)≤(at_:Int) + ((n - k:Nat):Int):=by omega
    go_wp2_with (at_builtin;go_loud (refine wpList_append_lies _ rfl _ _ 22 rfl w.heap.size 5 i0 (.int .u8 0) 1 1 Tryz.underlying22 hi0 hz0 hz1 hz2 rfl (by decide) _ k _ rfl hown2 ⟨b1,at_,none⟩ (48 - at_) (cap1 - at_) (u8s (((pc i).drop at_).take (48 - at_))) rfl (hnl _ (by omega)) (hsrc (48 - at_) (by omega)) (hone _) (by omega) (by unfold maxLen;omega) (by omega) (by omega) _ rfl ?_);intro g cap w2 hown3 hgrow hat3 hlt3)
    have hM2:Mod (Above w.heap.size) w1 w2:=(Mod.refl _ w1).app hown2 hgrow;have hJ2:Jr w2 jb M m P p pc:=hJ1.out.keep hM2 (fun k hk e=>by have:=hJlt k hk;have e:w.heap.size≤k:=e;omega) hfv2;have hm2:Mod (Only P.pb) w w2:=(hm.out.trans hm1).above hM2 (Nat.le_refl _);have hr:=hrd.out (48 - at_) (by omega);rw [mid_getD _ _ _ (by rw [hlen.out];omega)] at hown3;clear hgrow hat3;refine hid4 ?_ hown3 hr hJ2 hm2;clear hown3 hr hJ2 hm2;intro hown3 hr hJ2 hm2;go_wp2
    go_roundg (n - (k + (48 - at_)))
    case measure=>omega
    case rel=>exact ⟨k + (48 - at_),by omega,by omega,by rw [← hok.out];go_num,by go_num,by rw [hr.out,u8s_append];exact hown3.out,hJ2.out,hm2.out⟩
   ·have hmi:¬ (48:Int)≤(at_:Int) + ((n - k:Nat):Int):=by omega
    go_wp2_with (at_builtin;go_loud (refine wpList_append_lies _ rfl _ _ 22 rfl w.heap.size 5 i0 (.int .u8 0) 1 1 Tryz.underlying22 hi0 hz0 hz1 hz2 rfl (by decide) _ k _ rfl hown2 ⟨b1,at_,none⟩ (at_ + (n - k) - at_) (cap1 - at_) (u8s (((pc i).drop at_).take (at_ + (n - k) - at_))) rfl (hnl _ (by omega)) (hsrc (at_ + (n - k) - at_) (by omega)) (hone _) (by omega) (by unfold maxLen;omega) (by omega) (by omega) _ rfl ?_);intro g cap w2 hown3 hgrow hat3 hlt3)
    have hM2:Mod (Above w.heap.size) w1 w2:=(Mod.refl _ w1).app hown2 hgrow;have hJ2:Jr w2 jb M m P p pc:=hJ1.out.keep hM2 (fun k hk e=>by have:=hJlt k hk;have e:w.heap.size≤k:=e;omega) hfv2;have hm2:Mod (Only P.pb) w w2:=(hm.out.trans hm1).above hM2 (Nat.le_refl _);have hr:=hrd.out (at_ + (n - k) - at_) (by omega);rw [mid_getD _ _ _ (by rw [hlen.out];omega)] at hown3;clear hgrow hat3;refine hid4 ?_ hown3 hr hJ2 hm2;clear hown3 hr hJ2 hm2;intro hown3 hr hJ2 hm2;go_wp2
    go_roundg (n - (k + (at_ + (n - k) - at_)))
    case measure=>omega
    case rel=>exact ⟨k + (at_ + (n - k) - at_),by omega,by omega,by rw [← hok.out];go_num,by go_num,by rw [hr.out,u8s_append];have h3:=hown3.out;have e3:k + (at_ + (n - k) - at_) = n:=(by omega);rw [e3] at h3 ⊢;exact h3,hJ2.out,hm2.out⟩
  ·obtain rfl:k = n:=by omega
   refine hid2 ?_ hJ hown;clear hJ hown;intro hJ hown;have e0:((k - k:Nat):Int) = 0:=by omega
   rw [Nat.sub_self];go_wp2
   go_ret2
   exact ⟨_,rfl,hown.out,hJ.out,hm⟩
end Go.Proofs.YtanioleniadhoaaGreat
/-
 The journal: Read, and the head.
-/
namespace Go.Proofs.YtanioleniadhoaaGreat
open Go.RowKit
open Jn
theorem Jr.drewN {w:World} {jb:Nat} {M:MemAt} {m:Mem} {P:PAt} {p:PSt} {pc:PC} (h:Jr w jb M m P p pc) (n:Nat):Jr (w.drewN n) jb M m P p pc:=⟨h.pg.drewN n,h.bj.drewN n,h.jn,h.c33⟩
theorem jRead_ok {w:World} {jb:Nat} {M:MemAt} {m:Mem} {P:PAt} {p:PSt} {pc:PC} (h:Jr w jb M m P p pc) (off n:Nat) (hfit:off + n≤(p.count - 32) * 48) :
  Calls Tryz.prog 244 #[ptr jb,.int .i64 off,.int .i64 n] w fun e w'=>∃ v,e = .returned (.tuple #[v,errno 0])∧w'.ownsRow w.heap.size 5 1 v n (u8s (rd pc 32 off n))∧Jr w' jb M m P p pc∧Mod (Only P.pb) w w':=by
 have hcj:=h.cell;have hMd:=jMade_ok hcj;have hA:=pAlive_ok h.pg.ctx.mem h.pg.rep.bp;rw [h.pg.alive_true] at hA;have c16:=h.pg.rep.c16;have c33:=h.c33;have hSz:=fun k=>quiet_world (jSize_ok (h.drewN k).jblk (by omega) c16);have h':Hid (Jr w jb M m P p pc):=h;have hfitp:32 * 48 + off + n≤p.count * 48:=by omega
 clear h;generalize hSs:(p.count - 32) * 48 = S at hSz hfit;have hS2:S≤4000000:=by omega
 have d1:decide ((off:Int) < 0) = false:=by simp
 have d2:decide ((n:Int) < 0) = false:=by simp
 have d3:decide ((S:Int) < (off:Int)) = false:=by simp;omega
 have d4:decide ((S:Int) - (off:Int) < (n:Int)) = false:=by simp;omega
 refine hid4 ?_ hSs hSz hMd hA;clear hSs hSz hMd hA;intro hSs hSz hMd hA;go_enter Tryz.func244,Tryz.ntmps244;go_wp2_with fail;refine hMd.out.mono ?_;rintro e w1 ⟨rfl,rfl⟩;go_wp2_with fail;refine hA.out.mono ?_;rintro e w1 ⟨rfl,nd,rfl⟩
 go_wp2_with (go_at_call 160;refine (hSz.out _).mono ?_;rintro e w1 ⟨rfl,rfl⟩)
 have hJ1:=h'.out.drewN nd;have hPg:=jPages_ok hJ1 32 off n hfitp;have hm1:Mod (Only P.pb) w (w.drewN nd):=(Mod.refl _ w).drewN nd;have hs1:(w.drewN nd).heap.size = w.heap.size:=rfl;generalize w.drewN nd = w1 at hPg hm1 hs1 ⊢;refine hid2 ?_ hPg hs1;clear hPg hs1;intro hPg hs1;refine hPg.out.mono ?_;rintro e w2 ⟨v,rfl,hown,hJ2,hm2⟩;rw [hs1.out] at hown;refine hid2 ?_ hown hJ2;clear hown hJ2;intro hown hJ2;go_wp2
 go_ret2
 exact ⟨v,rfl,hown.out,hJ2.out,hm1.trans hm2⟩
theorem u8s_len (l:List Nat):(u8s l).length = l.length:=by simp [u8s]
theorem zeroCells_u8 (k:Nat):Builtin.zeroCells #[Value.int .u8 0] k = (u8s (List.replicate k 0)).toArray:=by
 apply Array.ext
 ·simp [Builtin.zeroCells,u8s]
 ·intro i h1 h2;have e:i % 1 = 0:=Nat.mod_one i;simp [Builtin.zeroCells,u8s,e]
theorem jHead_ok {w:World} {jb:Nat} {M:MemAt} {m:Mem} {P:PAt} {p:PSt} {pc:PC} (h:Jr w jb M m P p pc) (n:Nat) (hn:n < 9223372036854775808) (hrm:Room m 42) :
  Calls Tryz.prog 280 #[ptr jb,.int .i64 n] w (WrPost w M m P p 42 pc (setPage pc 0 (headPage n)) fun x=>x = pc):=by
 obtain ⟨i0,hi0,hz0,hz1,hz2⟩:=info_parts info_u8;have hB:=bytesOf_ok (w:=w) n 8 hn (by omega) (by omega);have hcj:=h.cell;have hpl:=h.lt;have hfl:=h.pg.rep.bf.lt;refine hid3 ?_ h hB hrm;clear h hB hrm;intro h hB hrm;go_enter Tryz.func280,Tryz.ntmps280;go_wp2_with fail;refine hB.out.mono ?_;rintro e w1 ⟨rfl,hb1,hm1⟩;have hs1:=hm1.size;have hcj1:w1.cell? ⟨jb,0,none⟩ = some (ptr P.pb):=(hm1.cell (p:=⟨jb,0,none⟩) (hpl jb (.inl rfl)) id).trans hcj;have hjl:jb < w1.heap.size:=by have:=hpl jb (.inl rfl);omega
 have hold:(Builtin.firstCells i0.size 8 (.slice (some ⟨w.heap.size,0,none⟩) 8 8)).run Tryz.prog w1.drew = .ok (u8s (be 8 n)).toArray w1.drew:=by
  rw [hz1];refine run_firstCells_some _ 1 8 _ 8 8 _ (by simp [u8s,be_len]) (fun j v hj=>?_);rw [add_lit,Nat.zero_add];exact (hb1.drew.cell j).trans hj
 have hrun:=Lib.run_append_grow_zeros (P:=Tryz.prog) w1 22 3 22 5 i0 (.int .u8 0) .i64 .i64 Tryz.underlying22 Tryz.underlying3 hi0 hz0 (some ⟨w.heap.size,0,none⟩) 8 8 _ hold 40 (by omega) (by omega) (by omega) (by omega) (by rw [hz2];decide) (by rw [hz2];decide);rw [show ((40:Nat):Int) = 40 from rfl] at hrun
 go_wp2_with (at_builtin;refine Lib.wpList_append_run _ rfl _ _ _ _ rfl _ _ rfl rfl _ _ hrun ?_)
 have hm2:Mod Nowhere w ((w1.alloc (Obj.cells ((u8s (be 8 n)).toArray ++ (Builtin.zeroCells #[Value.int .u8 0] 40 ++ Builtin.zeroCells #[Value.int .u8 0] (grownCap w1 48 8 5 - 48))) 5)).drew):=(hm1.alloc _).drew;have hc1:=grownCap_ge w1 48 8 5;have hc2:=grownCap_le_maxLen w1 48 8 5 (by unfold maxLen;omega);generalize grownCap w1 48 8 5 = cap at hm2 hc1 hc2 ⊢
 have hsl:Sl ((w1.alloc (Obj.cells ((u8s (be 8 n)).toArray ++ (Builtin.zeroCells #[Value.int .u8 0] 40 ++ Builtin.zeroCells #[Value.int .u8 0] (cap - 48))) 5)).drew) (.slice (some ⟨w1.heap.size,0,none⟩) 48 cap) 5 1 48 (u8s (headPage n)):=by
  refine ⟨by simp [u8s,headPage_len],.inr ⟨w1.heap.size,0,cap,u8s (headPage n) ++ u8s (List.replicate (cap - 48) 0),rfl,?_,hc1,hc2,?_,?_⟩⟩
  ·have:=(Blk.new w1 (u8s (headPage n) ++ u8s (List.replicate (cap - 48) 0)) 5).drew;rw [zeroCells_u8,zeroCells_u8]
   have e:(u8s (be 8 n)).toArray ++ ((u8s (List.replicate 40 0)).toArray ++ (u8s (List.replicate (cap - 48) 0)).toArray) = (u8s (headPage n) ++ u8s (List.replicate (cap - 48) 0)).toArray:=by
    unfold headPage;rw [u8s_append];simp
   rw [e];exact this
  ·simp [u8s,headPage_len];omega
  ·rw [List.drop_zero,List.take_append_of_le_length (by simp [u8s,headPage_len])];rw [List.take_of_length_le (by simp [u8s,headPage_len])]
 generalize ((w1.alloc (Obj.cells ((u8s (be 8 n)).toArray ++ (Builtin.zeroCells #[Value.int .u8 0] 40 ++ Builtin.zeroCells #[Value.int .u8 0] (cap - 48))) 5)).drew) = w2 at hm2 hsl ⊢;have hJ2:=h.out.fresh hm2 (fun _ _=>id)
 have hob:Off (fun k=>P.S k ∨ M.S k) (.slice (some ⟨w1.heap.size,0,none⟩) 48 cap):=fun k hk e=>by
  simp only [Value.ownBlock,Option.some.injEq] at hk;have:=hpl k (.inr e);omega
 have hW:=pWrite_ok hJ2.pg (i:=0) (by have:=hJ2.c33;omega) hsl (headPage_len n) (headPage_bytes n) hob hrm.out;refine hW.mono ?_;rintro e w3 hpost;replace hpost:=hpost.from (w:=w) p rfl rfl rfl (hm2.mono fun _ _ h=>h.elim);obtain ⟨ne,rfl⟩:=hpost.errno;replace hpost:=Lib.hid hpost;clear hW hsl hJ2;go_wp2;go_ret;exact hpost.out
end Go.Proofs.YtanioleniadhoaaGreat
/-
 The journal: the log.
-/
namespace Go.Proofs.YtanioleniadhoaaGreat
open Go.RowKit
open Jn
def JPost (w:World) (jb:Nat) (M:MemAt) (m:Mem) (P:PAt) (p:PSt) (n:Nat) (Qok Qd:PC→Prop) (e:Ending) (w':World):Prop :=
 (∃ m' P' p' k pc',e = .returned (errno 0)∧Jr w' jb M m' P' p' pc'∧P'.pb = P.pb∧P'.ab = P.ab∧P'.hb = P.hb∧p'.count = p.count∧p'.frames = p.frames∧p'.cuts = p.cuts∧k≤n∧Runs m m' k∧Qok pc'∧Mod (fun k=>P.S k ∨ M.S k) w w') ∨
 (∃ m' P' p' pc2,e = .returned (errno 7)∧MemRep w' M m'∧PRep w' M P' p'∧P'.pb = P.pb∧P'.ab = P.ab∧P'.hb = P.hb∧p'.count = p.count∧p'.frames = p.frames∧p'.cuts = p.cuts∧Stopped m m' n∧Holds m'.D p.count p.frames m'.writes pc2∧Qd pc2∧Mod (fun k=>P.S k ∨ M.S k) w w')
theorem S_eq {P P':PAt} (h1:P'.pb = P.pb) (h2:P'.ab = P.ab) (h3:P'.hb = P.hb):P'.S = P.S:=by unfold PAt.S;rw [h1,h2,h3]
theorem WrPost.jpost {w w':World} {jb:Nat} {M:MemAt} {m:Mem} {P:PAt} {p:PSt} {n:Nat} {pc pc':PC} {Q:PC→Prop} {e:Ending} (h:WrPost w M m P p n pc pc' Q e w') (hj:Jr w jb M m P p pc):JPost w jb M m P p n (fun x=>x = pc') Q e w':=by
 rcases h with ⟨m',P',p',k,e1,e2,e3,e4,e5,e6,e7,e8,e9,e10,e11⟩ | h
 ·refine .inl ⟨m',P',p',k,pc',e1,⟨e2,?_,?_,by rw [e6];exact hj.c33⟩,e3,e4,e5,e6,e7,e8,e9,e10,rfl,e11⟩
  ·rw [e3];exact hj.bj.mod e11 hj.jn
  ·rw [S_eq e3 e4 e5];exact hj.jn
 ·exact .inr h
theorem JPost.after {w w1 w':World} {jb:Nat} {M:MemAt} {m m1:Mem} {P P1:PAt} {p p1:PSt} {n n1 k:Nat} {Qok Qd:PC→Prop} {e:Ending}
  (h:JPost w1 jb M m1 P1 p1 n1 Qok Qd e w') (a1:P1.pb = P.pb) (a2:P1.ab = P.ab) (a3:P1.hb = P.hb) (a4:p1.count = p.count) (a5:p1.frames = p.frames) (a6:p1.cuts = p.cuts) (hr:Runs m m1 k) (hk:k + n1≤n) (hm:Mod (fun k=>P.S k ∨ M.S k) w w1) :
  JPost w jb M m P p n Qok Qd e w':=by
 have hS:=S_eq a1 a2 a3;rcases h with ⟨m',P',p',k',pc',e1,e2,e3,e4,e5,e6,e7,e8,e9,e10,e11,e12⟩ | ⟨m',P',p',pc2,e1,e2,e3,e4,e5,e6,e7,e8,e9,e10,e11,e12,e13⟩
 ·exact .inl ⟨m',P',p',k + k',pc',e1,e2,e3.trans a1,e4.trans a2,e5.trans a3,e6.trans a4,e7.trans a5,e8.trans a6,by omega,hr.trans e10,e11,hm.trans (hS ▸ e12)⟩
 ·exact .inr ⟨m',P',p',pc2,e1,e2,e3,e4.trans a1,e5.trans a2,e6.trans a3,e7.trans a4,e8.trans a5,e9.trans a6,hr.stopped e10 hk,by rw [← a4,← a5];exact e11,e12,hm.trans (hS ▸ e13)⟩
theorem JPost.mono {w w':World} {jb:Nat} {M:MemAt} {m:Mem} {P:PAt} {p:PSt} {n n':Nat} {Qok Qd Qok' Qd':PC→Prop} {e:Ending} (h:JPost w jb M m P p n Qok Qd e w') (hn:n≤n') (h1:∀ x,Qok x→Qok' x) (h2:∀ x,Qd x→Qd' x):JPost w jb M m P p n' Qok' Qd' e w':=by
 rcases h with ⟨m',P',p',k',pc',e1,e2,e3,e4,e5,e6,e7,e8,e9,e10,e11,e12⟩ | ⟨m',P',p',pc2,e1,e2,e3,e4,e5,e6,e7,e8,e9,e10,e11,e12,e13⟩
 ·exact .inl ⟨m',P',p',k',pc',e1,e2,e3,e4,e5,e6,e7,e8,Nat.le_trans e9 hn,e10,h1 _ e11,e12⟩
 ·exact .inr ⟨m',P',p',pc2,e1,e2,e3,e4,e5,e6,e7,e8,e9,e10.mono hn,e11,h2 _ e12,e13⟩
theorem JPost.errno {w w':World} {jb:Nat} {M:MemAt} {m:Mem} {P:PAt} {p:PSt} {n:Nat} {Qok Qd:PC→Prop} {e:Ending} (h:JPost w jb M m P p n Qok Qd e w'):∃ n:Int,e = .returned (errno n):=by
 rcases h with ⟨_,_,_,_,_,e,_⟩ | ⟨_,_,_,_,e,_⟩ <;> exact ⟨_,e⟩
theorem JPost.from {w w1 w':World} {jb:Nat} {M:MemAt} {m:Mem} {P:PAt} {p:PSt} {n:Nat} {Qok Qd:PC→Prop} {e:Ending} (h:JPost w1 jb M m P p n Qok Qd e w') (hr:Runs m m 0) (hm:Mod (fun k=>P.S k ∨ M.S k) w w1):JPost w jb M m P p n Qok Qd e w' :=
 h.after rfl rfl rfl rfl rfl rfl hr (by omega) hm
theorem Jr.runs {w:World} {jb:Nat} {M:MemAt} {m:Mem} {P:PAt} {p:PSt} {pc:PC} (h:Jr w jb M m P p pc):Runs m m 0:=⟨h.pg.ctx.off,rfl,rfl,rfl,rfl,rfl,h.pg.ctx.good,id⟩
def logPc (pc:PC) (b:List Nat):Nat→PC
 | 0=>pc
 | k + 1=>setPage (logPc pc b k) (1 + k) (logPage b k)
theorem logPc_logged (pc:PC) (b:List Nat):∀ k i,i < k→logPc pc b k (1 + i) = logPage b i
 | k + 1,i,h=>by
  by_cases e:i = k
  ·subst e;exact setPage_self
  ·rw [logPc,setPage_other (by omega)];exact logPc_logged pc b k i (by omega)
theorem logPc_still {C:Nat} {pc:PC} {J:Nat→Nat} (b:List Nat) (h:Still C pc J):∀ k,k≤31→Still C (logPc pc b k) J
 | 0,_=>h
 | k + 1,hk=>(logPc_still b h k (by omega)).low (by omega) (by omega)
theorem u8s_rep (n:Nat):u8s (List.replicate n 0) = List.replicate n (Value.int .u8 0):=by simp [u8s]
theorem splice_log (b:List Nat) (k N:Nat) (hN:N = 48):splice (List.replicate N (Value.int .u8 0)) 0 (u8s ((b.drop (k * 48)).take 48)) = u8s (logPage b k):=by
 unfold splice logPage;have e:(u8s ((b.drop (k * 48)).take 48)).length = ((b.drop (k * 48)).take 48).length:=by simp [u8s]
 rw [u8s_append,e,u8s_rep,List.take_zero,List.nil_append,Nat.zero_add,List.drop_replicate,hN]
theorem jLog_ok {w:World} {jb:Nat} {M:MemAt} {m:Mem} {P:PAt} {p:PSt} {pc:PC} {vb:Value} {b:List Nat} (h:Jr w jb M m P p pc) (hvb:Sl w vb 5 1 b.length (u8s b)) (hbb:Bytes b) (hob:Off (fun k=>P.S k ∨ M.S k) vb) (hpos:0 < b.length) (hle:b.length≤1488) (hrm:Room m 1344) :
  Calls Tryz.prog 269 #[ptr jb,vb] w (JPost w jb M m P p 1344 (fun x=>∃ K,K≤31∧b.length≤K * 48∧x = setPage (logPc pc b K) 0 (headPage b.length)) (fun x=>∃ j,j≤31∧x = logPc pc b j)):=by
 have hsz1:(Tryz.prog.info? 5).map (·.size) = some 1:=by kernel_rfl
 obtain ⟨bb,bo,bcap,rfl,hbl,hnc,hcm,_,_⟩:=hvb.open hpos;refine hid4 ?_ hvb hbb hob hrm;clear hvb hbb hob hrm;intro hvb hbb hob hrm;have hr0:=h.runs;replace h:=Lib.hid h;obtain ⟨n,hn⟩:∃ n,b.length = n:=⟨_,rfl⟩;rw [hn] at hpos hle hnc ⊢;replace hn:=Lib.hid hn;go_enter Tryz.func269,Tryz.ntmps269;go_wp2
 go_loopg [5] 40 (fun gg ii wr=>∃ (k j:Nat) (m1:Mem) (P1:PAt) (p1:PSt),k≤31∧gg + k = 40∧(0 < k→(k - 1) * 48 < n)∧ii = .int .i64 k∧(Jr wr jb M m1 P1 p1 (logPc pc b k)∧P1.pb = P.pb∧P1.ab = P.ab∧P1.hb = P.hb∧p1.count = p.count∧p1.frames = p.frames∧p1.cuts = p.cuts∧j≤42 * k∧Runs m m1 j)∧Mod (fun k=>P.S k ∨ M.S k) w wr)
 case atStart=>exact ⟨0,0,m,P,p,by omega,by omega,by omega,rfl,⟨h.out,rfl,rfl,rfl,rfl,rfl,rfl,by omega,hr0⟩,Mod.refl _ _⟩
 case round =>
  obtain ⟨k,j,m1,P1,p1,hk,hgg,hkn,rfl,hst,hm⟩:=hrel;by_cases hlt:k * 48 < n
  ·have hcj:=hst.1.cell;have hk31:k < 31:=by omega
   rw [hst.2.1] at hcj;have hmk:=run_make_full (P:=Tryz.prog) 22 5 (.int .u8 0) 1 Tryz.underlying22 info_u8 rfl 48 (by omega) (by omega) wr;rw [show ((48:Nat):Int) = 48 from rfl] at hmk;have hsl:=(hvb.out.mod hm hob.out);have hbw:bb < wr.heap.size:=hsl.lt _ rfl;have hjl:=hst.1.lt jb (.inl rfl);have hki:(k:Int) * 48 < n:=by omega
   have hki2:((k:Int) * 48).toNat = k * 48:=by omega
   refine hid3 ?_ hst hm hsl;clear hst hm hsl;intro hst hm hsl;have hbz:=Blk.new wr (List.replicate 48 (Value.int .u8 0)) 5;have hbelz:RowKit.Below wr.heap.size wr (wr.alloc (.cells (List.replicate 48 (Value.int .u8 0)).toArray 5)):=((Mod.refl Nowhere wr).alloc _).below;obtain ⟨N48,hN48⟩:∃ N48,N48 = 48:=⟨48,rfl⟩;have hspl:=splice_log b k N48 hN48
   have hlen48:(u8s ((b.drop (k * 48)).take 48)).length = Nat.min (n - k * 48) 48:=by
    rw [u8s_len,List.length_take,List.length_drop,hn.out];exact Nat.min_comm _ _
   have hfit48:0 + (u8s ((b.drop (k * 48)).take 48)).length≤(List.replicate N48 (Value.int .u8 0)).length:=by
    rw [hlen48,List.length_replicate];have:(n - k * 48).min 48≤48:=Nat.min_le_right _ _;omega
   rw [hN48] at hspl hfit48;clear hN48;generalize List.replicate 48 (Value.int .u8 0) = R at hmk hbz hbelz hspl hfit48;generalize hZ:R.toArray = Z at hmk hbz hbelz;have hbzZ:(wr.alloc (.cells Z 5)).heap[wr.heap.size]? = some (.cells R.toArray 5 (0,0)):=hbz
   have hsrc:∀ (i:Nat) (v:Value),(u8s ((b.drop (k * 48)).take 48))[i]? = some v→(wr.alloc (.cells Z 5)).cell? ((⟨bb,bo + k * 48,none⟩:Addr).add i) = some v:=by
    intro i v hi;have hsl':=hsl.out.mod ((Mod.refl Nowhere wr).alloc (.cells Z 5)) (fun _ _=>id);obtain ⟨b',o',c',e',_,_,_,hc',_⟩:=hsl'.open (by have:=hn.out;omega)
    cases e'
    have hil:i < ((b.drop (k * 48)).take 48).length:=by
     have:=(List.getElem?_eq_some_iff.1 hi).1;simpa [u8s] using this
    rw [add_lit,show bo + k * 48 + i = bo + (k * 48 + i) by omega,hc' _ (by simp at hil;omega)];rw [← hi];simp only [u8s,List.getElem?_map,List.getElem?_take,List.getElem?_drop,gd0];rw [if_pos (by simp at hil;omega),List.getElem?_eq_getElem (by simp at hil;omega)];simp
   have hone:∀ u ∈ u8s ((b.drop (k * 48)).take 48),u.oneCell' = true:=by
    intro u hu;simp only [u8s,List.mem_map] at hu;obtain ⟨x,_,rfl⟩:=hu
    rfl
   refine hid2 ?_ hZ hspl;clear hZ hspl;intro hZ hspl;clear hbz
   go_wp2_with (with_reducible refine wpList_copy_splice rfl (.tmp 21) (.tmp 22) 22 22 rfl 5 Tryz.underlying22 hsz1 (some ⟨wr.heap.size,0,none⟩) (some ⟨bb,bo + k * 48,none⟩) 48 48 (n - k * 48) (bcap - k * 48) rfl rfl wr.heap.size 0 R 5 hbzZ (u8s ((b.drop (k * 48)).take 48)) hlen48 (fun _=>⟨rfl,_,rfl,hsrc⟩) hfit48 hone wr.heap.size wr hbelz (Nat.le_refl _) ?_;intro w2 hb2 hbel2;clear hbelz hbzZ hsrc;have hcj2:w2.cell? ⟨jb,0,none⟩ = some (ptr P.pb):=(hbel2.cell (p:=⟨jb,0,none⟩) hjl).trans hcj)
   have hm2:Mod Nowhere wr w2:=Mod.of_below hbel2;have hJ2:=hst.out.1.fresh hm2 (fun _ _=>id)
   have hsl2:Sl w2 (.slice (some ⟨wr.heap.size,0,none⟩) 48 48) 5 1 48 (u8s (logPage b k)):=by
    refine ⟨by rw [u8s_len,logPage_len],.inr ⟨wr.heap.size,0,48,u8s (logPage b k),rfl,?_,Nat.le_refl _,by unfold maxLen;omega,by rw [u8s_len,logPage_len];omega,?_⟩⟩
    ·rw [← hspl.out];exact hb2.out
    ·rw [List.drop_zero,List.take_of_length_le (by rw [u8s_len,logPage_len];omega)]
   have hob2:Off (fun k=>P1.S k ∨ M.S k) (.slice (some ⟨wr.heap.size,0,none⟩) 48 48):=fun i hi e=>by
    simp only [Value.ownBlock,Option.some.injEq] at hi;have:=hst.out.1.lt i (.inr e);omega
   have hW:=pWrite_ok hJ2.pg (i:=1 + k) (by have:=hJ2.c33;omega) hsl2 (logPage_len b k) (logPage_bytes hbb.out k) hob2 (hrm.out.runs hst.out.2.2.2.2.2.2.2.2 (by have:=hst.out.2.2.2.2.2.2.2.1;omega));rw [hst.out.2.1,show (((1 + k:Nat)):Int) = 1 + (k:Int) by omega] at hW;refine hW.mono ?_;rintro e w3 hpost;have hp:=hpost.jpost hJ2;clear hpost hW hsl2;have hm02:Mod (fun k=>P.S k ∨ M.S k) w w2:=hm.out.trans (hm2.mono fun _ _ h=>h.elim);obtain ⟨q1,q2,q3,q4,q5,q6,q7,q8,q9⟩:=hst.out;rcases hp with ⟨m2,P2,p2,kk,pc2,rfl,a1,a2,a3,a4,a5,a6,a7,a8,a9,a10,a11⟩ | hd
   ·have hrel:(Jr w3 jb M m2 P2 p2 (logPc pc b (k + 1))∧P2.pb = P.pb∧P2.ab = P.ab∧P2.hb = P.hb∧p2.count = p.count∧p2.frames = p.frames∧p2.cuts = p.cuts∧j + kk≤42 * (k + 1)∧Runs m m2 (j + kk))∧Mod (fun k=>P.S k ∨ M.S k) w w3:=by
     refine ⟨⟨?_,a2.trans q2,a3.trans q3,a4.trans q4,a5.trans q5,a6.trans q6,a7.trans q7,by omega,q9.trans a9⟩,hm02.trans (S_eq q2 q3 q4 ▸ a11)⟩;rw [a10] at a1;exact a1
    replace hrel:=Lib.hid hrel;clear a1 a2 a3 a4 a5 a6 a7 a8 a9 a10 a11 q1 q2 q3 q4 q5 q6 q7 q8 q9;go_wp2
    go_roundg (40 - (k + 1))
    case measure=>omega
    case rel=>exact ⟨k + 1,j + kk,m2,P2,p2,by omega,by omega,fun _=>by simpa using hlt,by go_num,hrel.out.1,hrel.out.2⟩
   ·have hd2:JPost w jb M m P p 1344 (fun x=>∃ K,K≤31∧n≤K * 48∧x = setPage (logPc pc b K) 0 (headPage n)) (fun x=>∃ j,j≤31∧x = logPc pc b j) e w3 :=
     (JPost.mono (Or.inr hd:JPost w2 jb M m1 P1 p1 42 (fun _=>False) _ e w3) (Nat.le_refl _) (fun _ h=>h.elim) (fun x hx=>⟨k,by omega,hx⟩)).after q2 q3 q4 q5 q6 q7 q9 (by omega) hm02
    obtain ⟨m2,P2,p2,pc2,rfl,_⟩:=hd;replace hd2:=Lib.hid hd2;clear q1 q2 q3 q4 q5 q6 q7 q8 q9;go_wp2;go_ret;exact hd2.out
  ·obtain ⟨q1,q2,q3,q4,q5,q6,q7,q8,q9⟩:=hst;have hH:=jHead_ok q1 n (by omega) (hrm.out.runs q9 (by omega));have hnl:¬ ((k:Int) * 48 < n):=by omega
   refine hid2 ?_ hH hm;clear hH hm;intro hH hm;go_wp2_with fail;refine hH.out.mono ?_;rintro e w3 hpost
   have hd2:JPost w jb M m P p 1344 (fun x=>∃ K,K≤31∧n≤K * 48∧x = setPage (logPc pc b K) 0 (headPage n)) (fun x=>∃ j,j≤31∧x = logPc pc b j) e w3 :=
    ((hpost.jpost q1).mono (Nat.le_refl _) (fun x hx=>⟨k,hk,by omega,hx⟩) (fun x hx=>⟨k,hk,hx⟩)).after q2 q3 q4 q5 q6 q7 q9 (by omega) hm.out
   obtain ⟨ne,rfl⟩:=hd2.errno;replace hd2:=Lib.hid hd2;clear hpost q1 q2 q3 q4 q5 q6 q7 q8 q9;go_wp2;go_ret;exact hd2.out
end Go.Proofs.YtanioleniadhoaaGreat
