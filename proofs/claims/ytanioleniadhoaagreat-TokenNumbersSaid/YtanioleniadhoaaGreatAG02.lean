/-
  The walks over the package ecc: what its functions compute, in the words of the plain text Ecc.
-/
import Derived.Test.YtanioleniadhoaaGreatProg
import Derived.Test.YtanioleniadhoaaGreatAG01
import Derived.Lib.BitFns
set_option linter.unusedVariables false
set_option linter.unusedSimpArgs false
set_option maxHeartbeats 400000
set_option maxRecDepth 100000
namespace Go.Proofs.YtanioleniadhoaaGreat
open Go.RowKit
def nPos (p:Nat):Nat:=(Ecc.posL.filter (· < p)).length
def posN (p:Nat):List Nat:=Ecc.posL.take (nPos p) ++ List.replicate (24 - nPos p) 0
def posCells (p:Nat):Array Value:=((posN p).map (fun p:Nat=>Value.int .i64 (p:Int))).toArray
theorem posN_len (p:Nat) (h:p≤30):(posN p).length = 24:=by
 have:∀ k,k≤30→(posN k).length = 24:=by decide
 exact this p h
theorem nPos_lt {p:Nat} (h:p < 30):nPos p < 24:=by
 have:∀ k,k < 30→nPos k < 24:=by decide
 exact this p h
theorem nPos_le (p:Nat):nPos p≤24:=by
 unfold nPos;exact List.length_filter_le _ _
theorem nPos_pow {p j:Nat} (hk:p < 30) (hj:j < 5) (h:p = 2 ^ j):nPos (p + 1) = nPos p:=by
 have:∀ k,k < 30→∀ j,j < 5→k = 2 ^ j→nPos (k + 1) = nPos k:=by decide
 exact this p hk j hj h
theorem nPos_succ {p:Nat} (h3:3≤p) (hk:p < 30) (h:∀ j,j < 5→p ≠ 2 ^ j):nPos (p + 1) = nPos p + 1∧(posCells (p + 1)).toList = (posCells p).toList.set (nPos p) (.int .i64 (p:Int)):=by
 have:∀ k,k < 30→3≤k→(∀ j,j < 5→k ≠ 2 ^ j)→nPos (k + 1) = nPos k + 1∧posN (k + 1) = (posN k).set (nPos k) k:=by decide
 obtain ⟨h1,h2⟩:=this p hk h3 h;refine ⟨h1,?_⟩;unfold posCells;rw [h2,List.map_set]
theorem posCells_pow {p j:Nat} (hk:p < 30) (hj:j < 5) (h:p = 2 ^ j):posCells (p + 1) = posCells p:=by
 unfold posCells posN;rw [nPos_pow hk hj h]
theorem positions_ok (w:World) :
  Calls Tryz.prog 338 #[] w fun e w'=>e = .returned (.agg (posCells 30))∧Mod Nowhere w w':=by
 go_enter Tryz.func338,Tryz.ntmps338;go_wp2
 go_step3
 go_wp2
 go_step3
 go_wp2
 go_loopg [2,3] 31 (fun g n q wr=>∃ p:Nat,3≤p∧p≤30∧g + p = 34∧n = .int .i64 (nPos p:Nat)∧q = .int .i64 (p:Nat)∧Mod Nowhere w wr∧(∃ c0,c0.length = 24∧Blk wr w.heap.size c0 371)∧Blk wr (w.heap.size + 1) (posCells p).toList 371)
 case atStart => 
  refine ⟨3,by omega,by omega,by omega,rfl,rfl,((Mod.refl _ _).alloc _).alloc _,⟨_,rfl,(Blk.new w (List.replicate 24 (.int .i64 0)) _).alloc _⟩,?_⟩;have h0:(posCells 3).toList = List.replicate 24 (Value.int .i64 0):=rfl;rw [h0];have:=Blk.new (w.alloc (.cells (List.replicate 24 (Value.int .i64 0)).toArray 371)) (List.replicate 24 (.int .i64 0)) 371;rw [World.size_alloc] at this;exact this
 case round =>
  obtain ⟨p,hp3,hp,hg,rfl,rfl,hm,⟨c0,hl0,hc0⟩,hc1⟩:=hrel;have hn:=nPos_le p;refine hid2 ?_ hg hl0;clear hg hl0;intro hg hl0;by_cases hlt:p < 30
  ·have hn2:=nPos_lt hlt;have hnb:decide ((nPos p:Int) < 24) = true:=by simp;omega
   have hpl:=posN_len p hp
   have hcell:∃ v0,wr.cell? ⟨w.heap.size + 1,nPos p,none⟩ = some v0:=by
    rw [hc1.cell];exact ⟨_,List.getElem?_eq_getElem (by simp [posCells];omega)⟩
   obtain ⟨v0,hcell⟩:=hcell;replace hpl:=Lib.hid hpl;have hfr:=hc1.frozen (nPos p);go_wp2
   go_loopg [4] 6 (fun g c wq=>wq = wr∧∃ j d:Nat,j≤5∧g + j = 6∧d = 2 ^ j∧c = .int .i64 (d:Int)∧∀ i,i < j→p ≠ 2 ^ i)
   case atStart=>exact ⟨rfl,0,1,by omega,by omega,rfl,rfl,fun i hi=>by omega⟩
   case round =>
    obtain ⟨rfl,j,d,hj,hgj,hd,rfl,hne⟩:=hrel;replace hne:=Lib.hid hne;by_cases hj5:j < 5
    ·have hd32 : d < 32 := by have : 2 ^ j < 2 ^ 5 := Nat.pow_lt_pow_right (by omega) hj5
                              omega
     by_cases he:p = d
     ·have he':((p:Int) == (d:Int)) = true:=by rw [he];simp
      have hP:=nPos_pow hlt hj5 (he.trans hd);refine hid3 ?_ hd he hP;clear hd he hP;intro hd he hP;go_wp2
      go_roundg (33 - p)
      case measure=>have:=hg.out;omega
      case rel=>exact ⟨p + 1,by omega,by omega,by omega,by rw [hP.out],by go_num,hm,⟨c0,hl0.out,hc0⟩,by rw [posCells_pow hlt hj5 (he.out.trans hd.out)];exact hc1⟩
     ·have he':((p:Int) == (d:Int)) = false:=by simp;omega
      replace hd:=Lib.hid hd;go_wp2
      go_roundg (5 - j)
      case measure=>omega
      case rel=>exact ⟨rfl,j + 1,d * 2,by omega,by omega,by rw [hd.out,Nat.pow_succ],by go_num,fun i hi=>by
       by_cases hij:i = j
       ·subst hij;have:=hd.out;omega
       ·exact hne.out i (by omega)⟩
    ·obtain rfl:j = 5:=by omega
     have hS:=nPos_succ hp3 hlt (fun j hj=>hne.out j hj);have hd32:d = 32:=by rw [hd]
     subst hd32;replace hS:=Lib.hid hS;go_wp2
     go_roundg (33 - p)
     case measure=>have:=hg.out;omega
     case rel=>exact ⟨p + 1,by omega,by omega,by omega,by rw [hS.out.1];go_num,by go_num,hm.setCell (fun h=>by have h:w.heap.size + 1 < w.heap.size:=h;omega) _,⟨c0,hl0.out,hc0.setCell_other (by simp) _⟩,by rw [hS.out.2];exact hc1.setCell _ _⟩
  ·obtain rfl:p = 30:=by omega
   have h24:decide ((nPos 30:Int) < 24) = false:=by decide
   have hc1':wr.heap[w.heap.size + 1]? = some (.cells (posCells 30) 371 (0,0)):=by simpa [Blk] using hc1
   have hsz:Hid (c0.toArray.size = (posCells 30).size):=by
    show c0.toArray.size = (posCells 30).size
    have:=hl0.out;simpa [posCells,posN_len 30 (Nat.le_refl _)] using this
   have hall:(posCells 30).all (·.oneCell') = true:=by kernel_rfl
   replace hall:=Lib.hid hall;have hc0':wr.heap[w.heap.size]? = some (.cells c0.toArray 371 (0,0)):=hc0
   go_wp2_with (first
    | (refine wpList_load_row rfl 371 _ rfl (w.heap.size + 1) rfl 371 _ (0,0) _ hc1' Tryz.underlying371 rfl (by kernel_rfl) ?_)
    | (refine wpList_store_row rfl 371 _ _ rfl w.heap.size (posCells 30) rfl rfl 371 _ hc0' (by kernel_rfl) hsz.out hall.out ?_))
   rw [Exit.noGoto_ret];have hb:=hc0.setRow (posCells 30).toList;simp only [Array.toArray_toList] at hb;refine bodyPost_ret (results_cell_row rfl _ _ w.heap.size 371 (posCells 30) (0,0) _ rfl ?_ Tryz.underlying371 rfl (by kernel_rfl)) rfl ⟨rfl,hm.setRow (fun h=>by omega) _⟩;simpa [Blk] using hb
theorem info_int:(Tryz.prog.info? 3).map (fun i=>(i.size,i.bytes)) = some (1,8):=by kernel_rfl
theorem posN30:posN 30 = Ecc.posL:=by decide
def IsPos (A:Array Value):Prop:=∀ (w:World) (k:Nat),k < 24→(Instr.index 371 (.agg A) (.int .i64 (k:Int))).run Tryz.prog w = .ok (.int .i64 ((Ecc.posL.getD k 0:Nat):Int)) w
theorem isPos:IsPos (posCells 30):=by
 intro w k hk;unfold posCells;rw [posN30];have hl:Ecc.posL.length = 24:=rfl;have hk2:k < Ecc.posL.length:=by omega
 have hk3:¬ 24≤k:=by omega
 cases hq:Tryz.prog.info? 3 with
 | none=>have:=info_int;rw [hq] at this;cases this
 | some i =>
  have hi:=info_int;rw [hq] at hi;simp at hi;simp [Instr.index,asIntOf,run_underlying Tryz.underlying371,run_underlying Tryz.underlying3,part,sizeOf,typeInfo,isAgg,hq,hi.1,hk3,hk2]
theorem positions_any (w:World):Calls Tryz.prog 338 #[] w fun e w'=>∃ A,IsPos A∧e = .returned (.agg A)∧Mod Nowhere w w' :=
 (positions_ok w).mono fun _ _ ⟨h1,h2⟩=>⟨_,isPos,h1,h2⟩
theorem synL_get (k:Nat) (h:k < 31):Ecc.synL[k]? = some (k + 1,k + 1):=by
 have:∀ k,k < 31→Ecc.synL[k]? = some (k + 1,k + 1):=by decide
 exact this k h
def synTo (k x:Nat):Nat:=Ecc.xf (Ecc.synL.take (k - 1)) x
theorem synTo_lt (k x:Nat):synTo k x < 32:=Ecc.xf_lt _ 5 _ fun y hy=>by
 have:∀ y ∈ Ecc.synL,y.2 < 2 ^ 5:=by decide
 exact this y (List.mem_of_mem_take hy)
theorem synTo_succ {k x:Nat} (h1:1≤k) (h2:k < 32):synTo (k + 1) x = synTo k x ^^^ (if x.testBit k then k else 0):=by
 unfold synTo;have:=Ecc.take_xf Ecc.synL (k - 1) (k,k) (by rw [synL_get (k - 1) (by omega)];congr 2 <;> omega) x;rw [show k + 1 - 1 = k - 1 + 1 from by omega];exact this
theorem syndrome_ok (x:Nat) (hx:x < 4294967296) (w:World) :
  Calls Tryz.prog 323 #[.int .u32 x] w fun e w'=>e = .returned (.int .i64 (Ecc.syn x:Nat))∧w = w':=by
 go_enter Tryz.func323,Tryz.ntmps323;go_wp2
 go_loopg [3,4] 32 (fun g s q wr=>w = wr∧∃ k z:Nat,1≤k∧k≤32∧g + k = 33∧q = .int .i64 k∧z = synTo k x∧s = .int .i64 z)
 case atStart=>exact ⟨rfl,1,0,by omega,by omega,by omega,rfl,rfl,rfl⟩
 case round =>
  obtain ⟨rfl,k,z,h1,h2,hg,rfl,hz,rfl⟩:=hrel;have hzl:=synTo_lt k x;rw [← hz] at hzl;replace hz:=Lib.hid hz;by_cases hlt:k < 32
  ·have hS:=synTo_succ (x:=x) h1 hlt;replace hS:=Lib.hid hS;have hb:=u32_bit_eq x k hx;have hxo:=i64_xor z k (by omega) (by omega)
   cases hbk:x.testBit k
   ·rw [hbk] at hb;replace hbk:=Lib.hid hbk;go_wp2
    go_roundg (32 - k)
    case measure=>omega
    case rel=>exact ⟨rfl,k + 1,z,by omega,by omega,by omega,by go_num,by rw [hS.out,hbk.out,← hz.out];simp,rfl⟩
   ·rw [hbk] at hb;replace hbk:=Lib.hid hbk;go_wp2
    go_roundg (32 - k)
    case measure=>omega
    case rel=>exact ⟨rfl,k + 1,z ^^^ k,by omega,by omega,by omega,by go_num,by rw [hS.out,hbk.out,← hz.out];simp,rfl⟩
  ·obtain rfl:k = 32:=by omega
   go_wp2;go_ret;exact ⟨by rw [hz.out];rfl,rfl⟩
def par8 (y:Nat):Nat:=Ecc.xf ((List.range 8).map fun p=>(p,1)) y
theorem pop8_par (y:Nat) (h:y < 256):∃ m:Nat,Lib.pop8 (y:Int) = m∧m≤8∧m % 2 = par8 y:=by
 have:∀ y:Fin 256,(Lib.pop8 (y.val:Int)).toNat≤8∧(Lib.pop8 (y.val:Int)).toNat % 2 = par8 y.val∧0≤Lib.pop8 (y.val:Int):=by decide +kernel
 obtain ⟨h1,h2,h3⟩:=this ⟨y,h⟩;exact ⟨_,(Int.toNat_of_nonneg h3).symm,h1,h2⟩
theorem par_split (x:Nat):Ecc.par x = par8 (x / 16777216) ^^^ par8 (x / 65536 % 256) ^^^ par8 (x / 256 % 256) ^^^ par8 (x % 256):=by
 have e1:x / 16777216 = x / 2 ^ 24:=rfl;have e2:x / 65536 % 256 = x / 2 ^ 16 % 2 ^ 8:=rfl;have e3:x / 256 % 256 = x / 2 ^ 8 % 2 ^ 8:=rfl;have e4:x % 256 = x % 2 ^ 8:=rfl;rw [e1,e2,e3,e4];have l1:Ecc.parL = [(0,1),(1,1),(2,1),(3,1),(4,1),(5,1),(6,1),(7,1),(8,1),(9,1),(10,1),(11,1),(12,1),(13,1),(14,1),(15,1),(16,1),(17,1),(18,1),(19,1),(20,1),(21,1),(22,1),(23,1),(24,1),(25,1),(26,1),(27,1),(28,1),(29,1),(30,1),(31,1)]:=by decide
 have l2:((List.range 8).map fun p=>(p,1)) = [(0,1),(1,1),(2,1),(3,1),(4,1),(5,1),(6,1),(7,1)]:=by decide
 unfold Ecc.par par8;rw [l1,l2];simp only [Ecc.xf,List.foldr_cons,List.foldr_nil,Nat.testBit_mod_two_pow,Nat.testBit_div_two_pow,Nat.xor_zero,show (0:Nat) < 8 from by decide,show (1:Nat) < 8 from by decide,show (2:Nat) < 8 from by decide,show (3:Nat) < 8 from by decide,show (4:Nat) < 8 from by decide,show (5:Nat) < 8 from by decide,show (6:Nat) < 8 from by decide,show (7:Nat) < 8 from by decide,decide_true,Bool.true_and,Nat.reduceAdd]
 ac_rfl
theorem xor_par {a b:Nat} (ha:a < 2) (hb:b < 2):a ^^^ b = (a + b) % 2:=by
 have:∀ a,a < 2→∀ b,b < 2→a ^^^ b = (a + b) % 2:=by decide
 exact this a ha b hb
theorem ones_ok (x:Nat) (hx:x < 4294967296) (w:World) :
  Calls Tryz.prog 337 #[.int .u32 x] w fun e w'=>(∃ n:Nat,n≤32∧n % 2 = Ecc.par x∧e = .returned (.int .i64 n))∧Mod Nowhere w w':=by
 obtain ⟨m1,p1,q1,r1⟩:=pop8_par (x / 16777216) (by omega);obtain ⟨m2,p2,q2,r2⟩:=pop8_par (x / 65536 % 256) (by omega);obtain ⟨m3,p3,q3,r3⟩:=pop8_par (x / 256 % 256) (by omega);obtain ⟨m4,p4,q4,r4⟩:=pop8_par (x % 256) (by omega)
 have hp:(m1 + m2 + m3 + m4) % 2 = Ecc.par x:=by
  rw [par_split,← r1,← r2,← r3,← r4,xor_par (Nat.mod_lt _ (by decide)) (Nat.mod_lt _ (by decide)),xor_par (Nat.mod_lt _ (by decide)) (Nat.mod_lt _ (by decide)),xor_par (Nat.mod_lt _ (by decide)) (Nat.mod_lt _ (by decide))];omega
 have p1':Lib.pop8 ((x:Int) / 16777216) = m1:=by rw [← p1];simp
 have p2':Lib.pop8 ((x:Int) / 65536 % 256) = m2:=by rw [← p2];simp
 have p3':Lib.pop8 ((x:Int) / 256 % 256) = m3:=by rw [← p3];simp
 have p4':Lib.pop8 ((x:Int) % 256) = m4:=by rw [← p4];simp
 have h1:(x:Int) / 16777216≤255:=by omega
 have h0:0≤(x:Int) / 16777216:=by omega
 have e1:bits .and .u32 ((x:Int) / 65536) 255 = (x:Int) / 65536 % 256:=by
  have:=u32_and_nat (x / 65536) 255 (by omega) (by decide);rw [nat_mask8] at this;simpa using this
 have e2:bits .and .u32 ((x:Int) / 256) 255 = (x:Int) / 256 % 256:=by
  have:=u32_and_nat (x / 256) 255 (by omega) (by decide);rw [nat_mask8] at this;simpa using this
 have e3:bits .and .u32 (x:Int) 255 = (x:Int) % 256:=by
  have:=u32_and_nat x 255 (by omega) (by decide);rw [nat_mask8] at this;simpa using this
 refine hid5 ?_ r1 r2 r3 r4 hp;clear r1 r2 r3 r4 hp;intro r1 r2 r3 r4 hp;clear p1 p2 p3 p4;go_enter Tryz.func337,Tryz.ntmps337;go_wp2
 go_quiet (fail)
 go_wp2;go_ret;refine ⟨⟨m1 + m2 + m3 + m4,by omega,hp.out,?_⟩,(Mod.refl _ _).drewN _⟩
 show Ending.returned (.int .i64 _) = _
 congr 2
theorem free_bits (x:Nat) (hx:x < 4294967296):(bits .and .u32 (x:Int) 3221225472 == 0) = decide (x < 2 ^ 30):=by
 have h:=u32_and_nat x 3221225472 hx (by decide)
 have e:x &&& 3221225472 = x / 2 ^ 30 * 2 ^ 30:=by
  apply Nat.eq_of_testBit_eq
  intro i;rw [Nat.testBit_and,Nat.testBit_mul_two_pow,Nat.testBit_div_two_pow];have h3:(3221225472:Nat) = 3 * 2 ^ 30:=by decide
  rw [h3,Nat.testBit_mul_two_pow];by_cases hi:30≤i
  ·rw [show i - 30 + 30 = i from by omega];by_cases h32:i < 32
   ·have:i - 30 = 0 ∨ i - 30 = 1:=by omega
    have t0:Nat.testBit 3 0 = true:=by decide
    have t1:Nat.testBit 3 1 = true:=by decide
    rcases this with e | e <;> rw [e] <;> simp [hi,t0,t1]
   ·have:x.testBit i = false:=Nat.testBit_lt_two_pow (Nat.lt_of_lt_of_le (show x < 2 ^ 32 from hx) (Nat.pow_le_pow_right (show 0 < 2 by decide) (by omega:32≤i)));simp [this]
  ·simp [hi]
 rw [e] at h;have hc:bits .and .u32 (x:Int) 3221225472 = ((x / 2 ^ 30 * 2 ^ 30:Nat):Int):=h;rw [hc];by_cases hlt:x < 2 ^ 30
 ·have:x / 2 ^ 30 = 0:=by omega
  simp [this,hlt]
 ·have:0 < x / 2 ^ 30 * 2 ^ 30:=by omega
  have h2:¬ (((x / 2 ^ 30 * 2 ^ 30:Nat):Int) = 0):=by omega
  simp only [hlt,decide_false,beq_eq_false_iff_ne,ne_eq];exact h2
theorem isCode_ok (x:Nat) (hx:x < 4294967296) (w:World) :
  Calls Tryz.prog 321 #[.int .u32 x] w fun e w'=>e = .returned (.bool (Ecc.decOk x))∧Mod Nowhere w w':=by
 have hf:=free_bits x hx;have hd:Ecc.decOk x = (Ecc.syn x == 0 && Ecc.par x == 0 && decide (x < 2 ^ 30)):=rfl;rw [hd];clear hd;by_cases h1:Ecc.syn x = 0
 ·have h1':((Ecc.syn x:Int) == 0) = true:=by rw [h1];rfl
  have h1'':(Ecc.syn x == 0) = true:=by rw [h1];rfl
  replace h1:=Lib.hid h1;go_enter Tryz.func321,Tryz.ntmps321
  go_wp2_with (first | (go_at_call 323;refine (syndrome_ok x hx _).mono ?_;rintro e w1 ⟨rfl,rfl⟩) | (go_at_call 337;refine (ones_ok x hx _).mono ?_;rintro e w1 ⟨⟨n,hn,hn2,rfl⟩,hm⟩))
  ·have hp : Ecc.par x = 0 := by have : (n : Int) % 2 = 0 := by assumption
                                 omega
   go_ret;exact ⟨ret_bool (by rw [h1'',hp];rfl),hm⟩
  ·have hp:(Ecc.par x == 0) = false:=by
    have:¬ (n:Int) % 2 = 0:=by assumption
    rw [beq_eq_false_iff_ne];omega
   go_ret;exact ⟨ret_bool (by rw [h1'',hp];rfl),hm⟩
 ·have h1':((Ecc.syn x:Int) == 0) = false:=by simpa using h1
  have h1'':(Ecc.syn x == 0) = false:=by simpa using h1
  replace h1:=Lib.hid h1;go_enter Tryz.func321,Tryz.ntmps321
  go_wp2_with (first | (go_at_call 323;refine (syndrome_ok x hx _).mono ?_;rintro e w1 ⟨rfl,rfl⟩))
  go_ret;exact ⟨ret_bool (by rw [h1''];rfl),Mod.refl _ _⟩
theorem posL_lt (k:Nat) (h:k < 24):Ecc.posL.getD k 0 < 30:=by
 have:∀ k,k < 24→Ecc.posL.getD k 0 < 30:=by decide
 exact this k h
theorem datL_get (k:Nat) (h:k < 24):Ecc.datL[k]? = some (Ecc.posL.getD k 0,2 ^ k):=by
 have:∀ k,k < 24→Ecc.datL[k]? = some (Ecc.posL.getD k 0,2 ^ k):=by decide
 exact this k h
theorem putL_get (k:Nat) (h:k < 24):Ecc.putL[k]? = some (k,2 ^ Ecc.posL.getD k 0):=by
 have:∀ k,k < 24→Ecc.putL[k]? = some (k,2 ^ Ecc.posL.getD k 0):=by decide
 exact this k h
theorem wrap_small (n:Nat) (h:n < 9223372036854775808):wrap64 (n:Int) = n:=by unfold wrap64;omega
theorem bit_mul (b:Bool) (k:Nat) (h:k < 32):b.toNat * 2 ^ k < 4294967296:=by
 have:2 ^ k≤2 ^ 31:=Nat.pow_le_pow_right (by decide) (by omega)
 cases b <;> simp <;> omega
theorem or_step_i64 (y k:Nat) (b:Bool) (hy:y < 4294967296) (hk:k < 32) (h:y.testBit k = false) :
  bits .or .i64 (y:Int) (wrap64 (wrap64 ((b.toNat:Nat):Int) * 2 ^ k)) = ((y ^^^ (if b then 2 ^ k else 0):Nat):Int):=by
 have hb:=bit_mul b k hk;have h1:b.toNat < 2:=by cases b <;> decide
 rw [wrap_small b.toNat (by omega)];have e:((b.toNat:Int) * 2 ^ k) = ((b.toNat * 2 ^ k:Nat):Int):=by simp
 rw [e,wrap_small _ (by omega),i64_or _ _ (by omega) (by omega),Ecc.or_bit y k b h]
theorem or_step_u32 (y k:Nat) (b:Bool) (hy:y < 4294967296) (hk:k < 32) (h:y.testBit k = false) :
  bits .or .u32 (y:Int) (((b.toNat:Nat):Int) % 4294967296 * 2 ^ k % 4294967296) = ((y ^^^ (if b then 2 ^ k else 0):Nat):Int):=by
 have hb:=bit_mul b k hk;have h1:b.toNat < 2:=by cases b <;> decide
 have e0:(b.toNat:Int) % 4294967296 = b.toNat:=by omega
 rw [e0];have e:((b.toNat:Int) * 2 ^ k) = ((b.toNat * 2 ^ k:Nat):Int):=by simp
 rw [e];have e1:((b.toNat * 2 ^ k:Nat):Int) % 4294967296 = ((b.toNat * 2 ^ k:Nat):Int):=by omega
 rw [e1,u32_or_nat _ _ hy hb,Ecc.or_bit y k b h]
def datTo (k x:Nat):Nat:=Ecc.xf (Ecc.datL.take k) x
theorem datTo_succ {k x:Nat} (h:k < 24):datTo (k + 1) x = datTo k x ^^^ (if x.testBit (Ecc.posL.getD k 0) then 2 ^ k else 0) :=
 Ecc.take_xf Ecc.datL k _ (datL_get k h) x
theorem datTo_lt (k x:Nat):datTo k x < 2 ^ 24:=Ecc.xf_lt _ 24 _ fun y hy=>by
 have:∀ y ∈ Ecc.datL,y.2 < 2 ^ 24:=by decide
 exact this y (List.mem_of_mem_take hy)
theorem datTo_bit (k x:Nat) (h:k < 24):(datTo k x).testBit k = false:=Ecc.xf_bit _ _ _ fun y hy=>by
 have:∀ k,k < 24→∀ y ∈ Ecc.datL.take k,y.2.testBit k = false:=by decide +kernel
 exact this k h y hy
theorem data_ok (x:Nat) (hx:x < 4294967296) (w:World) :
  Calls Tryz.prog 322 #[.int .u32 x] w fun e w'=>e = .returned (.int .i64 (Ecc.dat x:Nat))∧Mod Nowhere w w':=by
 go_enter Tryz.func322,Tryz.ntmps322
 go_wp2_with (go_at_call 338;refine (positions_any _).mono ?_;rintro e w1 ⟨A,hA,rfl,hm1⟩)
 go_loopg [3,7] 24 (fun g x' q wr=>∃ k y:Nat,k≤24∧g + k = 24∧q = .int .i64 (k:Int)∧x' = .int .i64 (y:Int)∧y = datTo k x∧w1 = wr)
 case atStart=>exact ⟨0,0,by omega,by omega,rfl,rfl,rfl,rfl⟩
 case round => 
  obtain ⟨k,y,hk,hg,rfl,rfl,hy,rfl⟩:=hrel;by_cases hlt:k < 24
  ·have hi:=hA w1 k hlt;have hpp:=posL_lt k hlt;have hyl:=datTo_lt k x;have hyb:=datTo_bit k x hlt;have hS:=datTo_succ (x:=x) hlt;rw [← hy] at hyl hyb;generalize Ecc.posL.getD k 0 = p at hi hpp hS;have hp2:=u32_bit x p (by omega);have hO:=or_step_i64 y k (x.testBit p) (by omega) (by omega) hyb;refine hid4 ?_ hO hy hyb hS;clear hO hy hyb hS;intro hO hy hyb hS;go_wp2
   go_roundg (23 - k)
   case measure=>omega
   case rel=>exact ⟨k + 1,_,by omega,by omega,by go_num,by rw [hO.out],by rw [hS.out,hy.out],rfl⟩
  ·obtain rfl:k = 24:=by omega
   go_wp2;go_ret;exact ⟨ret_int (by rw [hy];rfl),hm1⟩
end Go.Proofs.YtanioleniadhoaaGreat
/-
 The walks over the package ecc, second part: code, Encode, Decode.
-/
namespace Go.Proofs.YtanioleniadhoaaGreat
open Go.RowKit
def putTo (k n:Nat):Nat:=Ecc.xf (Ecc.putL.take k) n
theorem putTo_succ {k n:Nat} (h:k < 24):putTo (k + 1) n = putTo k n ^^^ (if n.testBit k then 2 ^ (Ecc.posL.getD k 0) else 0) :=
 Ecc.take_xf Ecc.putL k _ (putL_get k h) n
theorem putTo_lt (k n:Nat):putTo k n < 2 ^ 30:=Ecc.xf_lt _ 30 _ fun y hy=>by
 have:∀ y ∈ Ecc.putL,y.2 < 2 ^ 30:=by decide
 exact this y (List.mem_of_mem_take hy)
theorem putTo_bit (k n:Nat) (h:k < 24):(putTo k n).testBit (Ecc.posL.getD k 0) = false:=Ecc.xf_bit _ _ _ fun y hy=>by
 have:∀ k,k < 24→∀ y ∈ Ecc.putL.take k,y.2.testBit (Ecc.posL.getD k 0) = false:=by decide +kernel
 exact this k h y hy
theorem chkL_get (j:Nat) (h:j < 5):Ecc.chkL[j]? = some (j,2 ^ 2 ^ j):=by
 have:∀ j,j < 5→Ecc.chkL[j]? = some (j,2 ^ 2 ^ j):=by decide
 exact this j h
def chkTo (j n:Nat):Nat:=Ecc.put n ^^^ Ecc.xf (Ecc.chkL.take j) (Ecc.syn (Ecc.put n))
theorem chkTo_succ {j n:Nat} (h:j < 5):chkTo (j + 1) n = chkTo j n ^^^ (if (Ecc.syn (Ecc.put n)).testBit j then 2 ^ 2 ^ j else 0):=by
 unfold chkTo;rw [Ecc.take_xf Ecc.chkL j _ (chkL_get j h) _,Nat.xor_assoc]
theorem chkTo_lt (j n:Nat):chkTo j n < 2 ^ 30:=Nat.xor_lt_two_pow (Ecc.put_lt n) (Ecc.xf_lt _ 30 _ fun y hy=>by
 have:∀ y ∈ Ecc.chkL,y.2 < 2 ^ 30:=by decide
 exact this y (List.mem_of_mem_take hy))
theorem put_bit (n i:Nat) (h:∀ y ∈ Ecc.putL,y.2.testBit i = false):(Ecc.put n).testBit i = false:=Ecc.xf_bit _ _ _ h
theorem chkTo_bit (j n:Nat) (h:j < 5):(chkTo j n).testBit (2 ^ j) = false:=by
 have h1:∀ j,j < 5→∀ y ∈ Ecc.putL,y.2.testBit (2 ^ j) = false:=by decide +kernel
 have h2:∀ j,j < 5→∀ y ∈ Ecc.chkL.take j,y.2.testBit (2 ^ j) = false:=by decide +kernel
 unfold chkTo;rw [Nat.testBit_xor,put_bit n _ (h1 j h),Ecc.xf_bit _ _ _ (h2 j h)];rfl
theorem chkTo_bit0 (n:Nat):(chkTo 5 n).testBit 0 = false:=by
 unfold chkTo;rw [Nat.testBit_xor,put_bit n _ (by decide +kernel),Ecc.xf_bit _ _ _ (by decide +kernel)];rfl
theorem enc_eq (n:Nat):Ecc.enc n = chkTo 5 n ^^^ Ecc.par (chkTo 5 n):=rfl
theorem and_two_pow_ne (s j:Nat) (hs:s < 32) (hj:j < 5):(bits .and .i64 (s:Int) ((2 ^ j:Nat):Int) != 0) = s.testBit j:=by
 show (!(bits .and .i64 (s:Int) ((2 ^ j:Nat):Int) == 0)) = s.testBit j
 have h2:2 ^ j < 2 ^ 5:=Nat.pow_lt_pow_right (by decide) hj;rw [i64_and s (2 ^ j) (by omega) (by omega),nat_bit,Nat.testBit_eq_decide_div_mod_eq];have h3:0 < 2 ^ j:=Nat.two_pow_pos j;have:s / 2 ^ j % 2 = 0 ∨ s / 2 ^ j % 2 = 1:=by omega
 rcases this with e | e
 ·rw [e];simp
 ·rw [e,Nat.one_mul];have:¬ (((2 ^ j:Nat):Int) = 0):=by omega
  simp only [decide_true,Bool.not_eq_true',beq_eq_false_iff_ne,ne_eq];exact this
theorem pow_cast (d:Nat) (hd:d < 32):(2 ^ d % 4294967296:Int) = ((2 ^ d:Nat):Int):=by
 have h:2 ^ d < 2 ^ 32:=Nat.pow_lt_pow_right (by decide) hd;have e:((2:Int) ^ d) = ((2 ^ d:Nat):Int):=by simp
 rw [e];generalize 2 ^ d = q at h ⊢;omega
theorem or_one_u32 (z d:Nat) (hz:z < 4294967296) (hd:d < 32) (h:z.testBit d = false) :
  bits .or .u32 (z:Int) (2 ^ d % 4294967296) = ((z ^^^ 2 ^ d:Nat):Int):=by
 have h32:2 ^ d < 2 ^ 32:=Nat.pow_lt_pow_right (by decide) hd;rw [pow_cast d hd,u32_or_nat _ _ hz h32];have:=Ecc.or_bit z d true h;simp only [Bool.toNat_true,Nat.one_mul,if_true] at this;rw [this]
theorem par_or (z m:Nat) (hz:z < 2 ^ 30) (hm:m≤32) (hb:z.testBit 0 = false) :
  bits .or .u32 (z:Int) (bits .and .i64 (m:Int) 1 % 4294967296) = ((z ^^^ (m % 2):Nat):Int):=by
 have e:bits .and .i64 (m:Int) 1 = ((m % 2:Nat):Int):=by
  have:=i64_and m 1 (by omega) (by decide);rw [nat_mask1] at this;exact this
 rw [e];have:m % 2 = 0 ∨ m % 2 = 1:=by omega
 rcases this with h | h
 ·rw [h,Nat.xor_zero];have:=u32_or_nat z 0 (by omega) (by decide);simp only [Nat.or_zero] at this;exact this
 ·rw [h];exact or_one_u32 z 0 (by omega) (by omega) hb
theorem code_ok (n:Nat) (hx:n < 16777216) (w:World) :
  Calls Tryz.prog 340 #[.int .i64 n] w fun e w'=>e = .returned (.int .u32 (Ecc.enc n:Nat))∧Mod Nowhere w w':=by
 go_enter Tryz.func340,Tryz.ntmps340
 go_wp2_with (go_at_call 338;refine (positions_any _).mono ?_;rintro e w1 ⟨A,hA,rfl,hm1⟩)
 go_loopg [3,9] 24 (fun g x' q wr=>∃ k y:Nat,k≤24∧g + k = 24∧q = .int .i64 (k:Int)∧x' = .int .u32 (y:Int)∧y = putTo k n∧w1 = wr)
 case atStart=>exact ⟨0,0,by omega,by omega,rfl,rfl,rfl,rfl⟩
 case round => 
  obtain ⟨k,y,hk,hg,rfl,rfl,hy,rfl⟩:=hrel;by_cases hlt:k < 24
  ·have hi:=hA w1 k hlt;have hpp:=posL_lt k hlt;have hyl:=putTo_lt k n;have hyb:=putTo_bit k n hlt;have hS:=putTo_succ (n:=n) hlt;rw [← hy] at hyl hyb;generalize Ecc.posL.getD k 0 = p at hi hpp hS hyb;have hp2:=i64_bit n k (by omega);have hO:=or_step_u32 y p (n.testBit k) (by omega) (by omega) hyb;refine hid4 ?_ hO hy hyb hS;clear hO hy hyb hS;intro hO hy hyb hS;go_wp2
   go_roundg (23 - k)
   case measure=>omega
   case rel=>exact ⟨k + 1,_,by omega,by omega,by go_num,by rw [hO.out],by rw [hS.out,hy.out],rfl⟩
  ·obtain rfl:k = 24:=by omega
   replace hy:y = Ecc.put n:=hy;have hyl:=Ecc.put_lt n;rw [← hy] at hyl;have hsl:=Ecc.syn_lt y;have hsd:Hid (Ecc.syn (Ecc.put n) = Ecc.syn y):=by show _ = _;rw [hy]
   replace hy:=Lib.hid hy
   go_wp2_with (go_at_call 323;refine (syndrome_ok y (by omega) _).mono ?_;rintro e w1 ⟨rfl,rfl⟩)
   generalize Ecc.syn y = s at hsl hsd ⊢
   go_loopg [3,7] 5 (fun g x' q wr=>∃ j z d:Nat,j≤5∧g + j = 5∧d = 2 ^ j∧q = .int .i64 (d:Int)∧x' = .int .u32 (z:Int)∧z = chkTo j n∧w1 = wr)
   case atStart=>exact ⟨0,y,1,by omega,by omega,rfl,rfl,rfl,by rw [hy.out];simp [chkTo,Ecc.xf],rfl⟩
   case round => 
    obtain ⟨j,z,d,hj,hg,hd,rfl,rfl,hz,rfl⟩:=hrel;by_cases hlt:j < 5
    ·have hzl:=chkTo_lt j n;have hzb:=chkTo_bit j n hlt;have hS:=chkTo_succ (n:=n) hlt
     have hd32 : d < 32 := by have : 2 ^ j < 2 ^ 5 := Nat.pow_lt_pow_right (by omega) hlt
                              omega
     rw [hsd.out] at hS;rw [← hz] at hzl hzb;have hb:=and_two_pow_ne s j hsl hlt;rw [← hd] at hb hzb hS;have hO:=or_one_u32 z d (by omega) hd32 hzb;refine hid5 ?_ hO hz hzb hS hd;clear hO hz hzb hS hd;intro hO hz hzb hS hd
     cases hc:s.testBit j
     ·rw [hc] at hb;replace hc:=Lib.hid hc;go_wp2
      go_roundg (4 - j)
      case measure=>omega
      case rel=>exact ⟨j + 1,z,d * 2,by omega,by omega,by rw [hd.out,Nat.pow_succ],by go_num,rfl,by rw [hS.out,hc.out,← hz.out];simp,rfl⟩
     ·rw [hc] at hb;replace hc:=Lib.hid hc;go_wp2
      go_roundg (4 - j)
      case measure=>omega
      case rel=>exact ⟨j + 1,_,d * 2,by omega,by omega,by rw [hd.out,Nat.pow_succ],by go_num,by rw [hO.out],by rw [hS.out,hc.out,← hz.out];rfl,rfl⟩
    ·obtain rfl:j = 5:=by omega
     have hzl:=chkTo_lt 5 n;have hzb:=chkTo_bit0 n;have he:=enc_eq n;rw [← hz] at hzl hzb he;have hpb:=Ecc.par_bit z;refine hid3 ?_ hz he hzb;clear hz he hzb;intro hz he hzb;obtain rfl:d = 32:=hd
     go_wp2_with (go_at_call 337;refine (ones_ok z (by omega) _).mono ?_;rintro e w2 ⟨⟨m,hm,hm2,rfl⟩,hmm⟩)
     go_ret;exact ⟨ret_int (by rw [par_or z m hzl hm hzb.out,hm2,he.out]),hm1.trans hmm⟩
theorem two_pow_syn (x:Nat):2 ^ Ecc.syn x < 4294967296:=Nat.pow_lt_pow_right (show 1 < 2 by decide) (show Ecc.syn x < 32 from Ecc.syn_lt x)
theorem Decode_ok (x:Nat) (hx:x < 4294967296) (w:World) :
  Calls Tryz.prog 292 #[.int .u32 x] w fun e w'=>e = .returned (.tuple #[.int .i64 ((Ecc.dec x).1:Nat),.int .i64 ((Ecc.dec x).2:Nat)])∧Mod Nowhere w w':=by
 have hs:=Ecc.syn_lt x
 have hx2:bits .xor .u32 (x:Int) (2 ^ Ecc.syn x % 4294967296) = ((x ^^^ 2 ^ Ecc.syn x:Nat):Int):=by
  rw [pow_cast _ hs,u32_xor_nat _ _ hx (two_pow_syn x)]
 have hv:x ^^^ 2 ^ Ecc.syn x < 4294967296:=Nat.xor_lt_two_pow (n:=32) hx (two_pow_syn x);have hd:Ecc.dec x = if Ecc.decOk x then (Ecc.dat x,0) else if Ecc.decOk (x ^^^ 2 ^ Ecc.syn x) then (Ecc.dat (x ^^^ 2 ^ Ecc.syn x),1) else (0,2):=rfl
 cases h1:Ecc.decOk x
 ·rw [h1] at hd;simp only [Bool.false_eq_true,if_false] at hd
  cases h2:Ecc.decOk (x ^^^ 2 ^ Ecc.syn x)
  ·rw [h2] at hd;simp only [Bool.false_eq_true,if_false] at hd;rw [hd];clear hd;refine hid2 ?_ h1 h2;clear h1 h2;intro h1 h2;go_enter Tryz.func292,Tryz.ntmps292;go_wp2_with fail;refine (isCode_ok x hx _).mono ?_;rintro e w1 ⟨rfl,hm1⟩;rw [h1.out]
   go_wp2_with (go_at_call 323;refine (syndrome_ok x hx _).mono ?_;rintro e w1 ⟨rfl,rfl⟩)
   refine (isCode_ok (x ^^^ 2 ^ Ecc.syn x) hv _).mono ?_;rintro e w2 ⟨rfl,hm2⟩;rw [h2.out];go_wp2_with fail
   go_ret2
   exact ⟨rfl,hm1.trans hm2⟩
  ·rw [h2] at hd;simp only [if_true] at hd;rw [hd];clear hd;refine hid2 ?_ h1 h2;clear h1 h2;intro h1 h2;go_enter Tryz.func292,Tryz.ntmps292;go_wp2_with fail;refine (isCode_ok x hx _).mono ?_;rintro e w1 ⟨rfl,hm1⟩;rw [h1.out]
   go_wp2_with (go_at_call 323;refine (syndrome_ok x hx _).mono ?_;rintro e w1 ⟨rfl,rfl⟩)
   refine (isCode_ok (x ^^^ 2 ^ Ecc.syn x) hv _).mono ?_;rintro e w2 ⟨rfl,hm2⟩;rw [h2.out]
   go_wp2_with (go_at_call 322;refine (data_ok (x ^^^ 2 ^ Ecc.syn x) hv _).mono ?_;rintro e w3 ⟨rfl,hm3⟩)
   go_ret2
   exact ⟨rfl,(hm1.trans hm2).trans hm3⟩
 ·rw [h1] at hd;simp only [if_true] at hd;rw [hd];clear hd;replace h1:=Lib.hid h1;go_enter Tryz.func292,Tryz.ntmps292;go_wp2_with fail;refine (isCode_ok x hx _).mono ?_;rintro e w1 ⟨rfl,hm1⟩;rw [h1.out]
  go_wp2_with (go_at_call 322;refine (data_ok x hx _).mono ?_;rintro e w3 ⟨rfl,hm3⟩)
  go_ret2
  exact ⟨rfl,hm1.trans hm3⟩
theorem Encode_ok (n:Nat) (hx:n < 16777216) (w:World) :
  Calls Tryz.prog 329 #[.int .i64 n] w fun e w'=>e = .returned (.tuple #[.int .u32 (Ecc.enc n:Nat),.int .i64 0])∧Mod Nowhere w w':=by
 go_enter Tryz.func329,Tryz.ntmps329
 go_wp2_with (go_at_call 340;refine (code_ok n hx _).mono ?_;rintro e w1 ⟨rfl,hm1⟩)
 go_ret2
 exact ⟨rfl,hm1⟩
end Go.Proofs.YtanioleniadhoaaGreat
