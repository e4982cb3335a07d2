import Derived.Test.YtanioleniadhoaaGreatALaysA
import Derived.Test.YtanioleniadhoaaGreatAG04
import Derived.Laws.CopyOwn
set_option linter.unusedVariables false
set_option linter.unusedSimpArgs false
set_option maxHeartbeats 1000000
set_option maxRecDepth 100000
namespace Go.Proofs
open Go.Shelf
open Go.RowKit Go.Lib in
open Go.RowKit Go.Lib in
theorem Tryz.bits_Mul (x y:Nat) (hx:x < 18446744073709551616) (hy:y < 18446744073709551616) (w:World) :
  Calls Tryz.prog 229 #[.int .u64 x,.int .u64 y] w fun e w'=>e = .returned (.tuple #[.int .u64 ((x * y / 18446744073709551616:Nat):Int),.int .u64 ((x * y % 18446744073709551616:Nat):Int)])∧w' = w:=Any.bits_Mul Tryz.lays212 x y hx hy w
end Go.Proofs
/-
 slices.Repeat of one number.
-/
namespace Go.Proofs.YtanioleniadhoaaGreat
open Go.RowKit
theorem run_sub {P:Program} {t e:TypeId} {z:Value} {bytes:Nat} (ht:P.underlying t = some (.slice e)) (hi:(P.info? e).map (fun i=>(i.zero,i.size,i.bytes)) = some (some z,1,bytes)) (b off n cap j:Nat) (hj:j < cap) (hn:j≤n) (W:World) :
  (Instr.slice t (.slice (some ⟨b,off,none⟩) n cap) (some (.int .i64 j)) none none).run P W = .ok (.slice (some ⟨b,off + j,none⟩) (n - j) (cap - j)) W:=by
 obtain ⟨i0,hi0,hz0,hz1,hz2⟩:=info_parts hi;have h1:(j:Int)≤(n:Int):=by omega
 have h2:¬ ((n:Int) < j):=by omega
 have h3:cap - j ≠ 0:=by omega
 simp [Instr.slice,Instr.sliceBounds,Instr.sliceBound,run_underlying ht,asIntOf,sizeOf,typeInfo,hi0,hz1,add_lit,hn,h3,show ¬ cap = j by omega]
theorem run_pre {P:Program} {t e:TypeId} {z:Value} {bytes:Nat} (ht:P.underlying t = some (.slice e)) (hi:(P.info? e).map (fun i=>(i.zero,i.size,i.bytes)) = some (some z,1,bytes)) (b off n cap j:Nat) (hj:j≤cap) (hc:0 < cap) (W:World) :
  (Instr.slice t (.slice (some ⟨b,off,none⟩) n cap) none (some (.int .i64 j)) none).run P W = .ok (.slice (some ⟨b,off,none⟩) j cap) W:=by
 obtain ⟨i0,hi0,hz0,hz1,hz2⟩:=info_parts hi;have h1:(j:Int)≤(cap:Int):=by omega
 have h3:cap ≠ 0:=by omega
 simp [Instr.slice,Instr.sliceBounds,Instr.sliceBound,run_underlying ht,asIntOf,sizeOf,typeInfo,hi0,hz1,add_lit,hj,show ¬ cap < j by omega]
theorem splice_rep (z:Value) (n j:Nat) (hj:j≤n) (c:Nat) (hc:c = min j (n - j)) (y:Value) :
  splice (List.replicate j z ++ List.replicate (n - j) y) j (List.replicate c z) = List.replicate (j + c) z ++ List.replicate (n - (j + c)) y:=by
 unfold splice;rw [List.length_replicate];have e1:(List.replicate j z ++ List.replicate (n - j) y).take j = List.replicate j z:=by simp
 have e2:(List.replicate j z ++ List.replicate (n - j) y).drop (j + c) = List.replicate (n - (j + c)) y:=by
  rw [List.drop_append];simp;omega
 rw [e1,e2,← List.append_assoc];simp
theorem Repeat_int {w:World} {g:Nat} {z:Int} (hg:w.cell? ⟨g,0,none⟩ = some (.int .i64 z)) (n:Nat) (hn:1≤n) (hn2:n≤65536) :
  Calls Tryz.prog 168 #[.slice (some ⟨g,0,none⟩) 1 1,.int .i64 n] w fun e w' =>
   e = .returned (.slice (some ⟨w.heap.size,0,none⟩) n n)∧Blk w' w.heap.size (List.replicate n (.int .i64 z)) 3∧Mod Nowhere w w':=by
 have hM:=Tryz.bits_Mul 1 n (by omega) (by omega) w;rw [Nat.one_mul,Nat.div_eq_of_lt (by omega),Nat.mod_eq_of_lt (by omega)] at hM;have info_i:(Tryz.prog.info? 3).map (fun i=>(i.zero,i.size,i.bytes)) = some (some (.int .i64 0),1,8):=by kernel_rfl
 have hsz1:(Tryz.prog.info? 3).map (·.size) = some 1:=by kernel_rfl
 have hmk:=run_make_full (P:=Tryz.prog) 109 3 (.int .i64 0) 8 Tryz.underlying109 info_i rfl n (by omega) (by omega) w
 have hgl:g < w.heap.size:=by
  by_cases hb:g < w.heap.size
  ·exact hb
  ·simp [World.cell?,Array.getElem?_eq_none (Nat.le_of_not_lt hb)] at hg
 have hb0:=Blk.new w (List.replicate n (.int .i64 0)) 3;have hg0:(w.alloc (.cells (List.replicate n (Value.int .i64 0)).toArray 3)).cell? ⟨g,0,none⟩ = some (.int .i64 z):=(((Mod.refl Nowhere w).alloc _).cell (p:=⟨g,0,none⟩) hgl id).trans hg;have hbel:RowKit.Below w.heap.size w (w.alloc (.cells (List.replicate n (Value.int .i64 0)).toArray 3)):=((Mod.refl Nowhere w).alloc _).below;generalize hZ:(List.replicate n (Value.int .i64 0)).toArray = Z at hmk hb0 hg0 hbel;have hbZ:(w.alloc (.cells Z 3)).heap[w.heap.size]? = some (.cells (List.replicate n (Value.int .i64 0)).toArray 3 (0,0)):=hb0;replace hZ:=Lib.hid hZ
 have hmin:[Value.int .i64 z].length = Nat.min 1 n:=by simp [Nat.min_def];omega
 have hsrc:∀ (j:Nat) (v:Value),[Value.int .i64 z][j]? = some v→(w.alloc (.cells Z 3)).cell? ((⟨g,0,none⟩:Addr).add j) = some v:=by
  intro j v hj
  cases j with
  | zero=>simp at hj;rw [← hj];exact hg0
  | succ j=>simp at hj
 have hfit:0 + [Value.int .i64 z].length≤(List.replicate n (Value.int .i64 0)).length:=by simp;omega
 have hone:∀ v,v ∈ [Value.int .i64 z]→v.oneCell' = true:=by simp [Value.oneCell']
 have hfirst:splice (List.replicate n (Value.int .i64 0)) 0 [Value.int .i64 z] = List.replicate 1 (Value.int .i64 z) ++ List.replicate (n - 1) (Value.int .i64 0):=by
  simp [splice]
 replace hM:=Lib.hid hM;go_enter Tryz.func168,Tryz.ntmps168
 go_wp2_with (first
  | (go_at_call 229;refine hM.out.mono ?_;rintro e w1 ⟨rfl,hw1⟩;have hw1:=hw1.symm;subst hw1)
  | (with_reducible refine wpList_copy_splice rfl (.tmp 31) (.tmp 32) 109 109 rfl 3 Tryz.underlying109 hsz1 (some ⟨w.heap.size,0,none⟩) (some ⟨g,0,none⟩) n n 1 1 rfl rfl w.heap.size 0 (List.replicate n (Value.int .i64 0)) 3 hbZ [.int .i64 z] hmin (fun _=>⟨rfl,_,rfl,hsrc⟩) hfit hone w.heap.size w hbel (Nat.le_refl _) ?_;intro w2 hb2 hbel2;clear hbel hbZ hg0))
 have hb2:=hb2.out;rw [hfirst] at hb2;clear hmk hM hmin hsrc hfit hone hb0 hfirst
 go_loopg [8] (n - 1) (fun gg q wr=>∃ j:Nat,1≤j∧j≤n∧gg + j = n∧q = .int .i64 j∧wr.heap[w.heap.size]? = some (.cells (List.replicate j (Value.int .i64 z) ++ List.replicate (n - j) (Value.int .i64 0)).toArray 3 (0,0))∧RowKit.Below w.heap.size w wr)
 case atStart=>exact ⟨1,by omega,by omega,by omega,rfl,hb2,hbel2⟩
 case round =>
  obtain ⟨j,hj1,hjn,hgg,rfl,hbr,hbelr⟩:=hrel;by_cases hlt:j < n
  ·have hcl:(List.replicate (min j (n - j)) (Value.int .i64 z)).length = Nat.min j (n - j):=by simp [Nat.min_def]
   have hsr:∀ (i:Nat) (v:Value),(List.replicate (min j (n - j)) (Value.int .i64 z))[i]? = some v→wr.cell? ((⟨w.heap.size,0,none⟩:Addr).add i) = some v:=by
    intro i v hi;have hadd:(⟨w.heap.size,0,none⟩:Addr).add i = ⟨w.heap.size,i,none⟩:=by unfold Addr.add;split <;> simp_all
    have hil:i < min j (n - j):=by
     by_cases h:i < min j (n - j)
     ·exact h
     ·rw [List.getElem?_eq_none (by simp;omega)] at hi;cases hi
    rw [List.getElem?_replicate,if_pos hil] at hi;have hb:Blk wr w.heap.size _ 3:=hbr;rw [hadd,hb.cell,List.getElem?_append_left (by simp;omega),List.getElem?_replicate,if_pos (by omega)];exact hi
   have hft:j + (List.replicate (min j (n - j)) (Value.int .i64 z)).length≤(List.replicate j (Value.int .i64 z) ++ List.replicate (n - j) (Value.int .i64 0)).length:=by simp;omega
   have h1c:∀ v,v ∈ List.replicate (min j (n - j)) (Value.int .i64 z)→v.oneCell' = true:=by
    intro v hv;rw [List.eq_of_mem_replicate hv];rfl
   have hspl:=splice_rep (.int .i64 z) n j hjn (min j (n - j)) rfl (.int .i64 0);have hcl2:(List.replicate (min j (n - j)) (Value.int .i64 z)).length = min j (n - j):=by simp
   have hcp:1≤min j (n - j):=by omega
   generalize hcs:List.replicate (min j (n - j)) (Value.int .i64 z) = cs at hcl hsr hft h1c hspl hcl2;have hcc:j + min j (n - j)≤n:=by omega
   generalize min j (n - j) = c at hcl2 hspl hcs hcp hcc;replace hcs:=Lib.hid hcs;generalize hcur:List.replicate j (Value.int .i64 z) ++ List.replicate (n - j) (Value.int .i64 0) = cur at hbr hft hspl;refine hid3 ?_ hcur hspl hcl;clear hcur hspl hcl;intro hcur hspl hcl;have hS1:=fun W=>run_sub (P:=Tryz.prog) Tryz.underlying109 info_i w.heap.size 0 n n j hlt (by omega) W;have hS2:=fun W=>run_pre (P:=Tryz.prog) Tryz.underlying109 info_i w.heap.size 0 n n j (by omega) (by omega) W;rw [Nat.zero_add] at hS1;have hwr:IntKind.i64.wrap ((j:Int) + (c:Int)) = (j:Int) + (c:Int):=IntWalk.i64_in _ (by omega)
   go_wp2
   go_region_law (refine step_copy_splice rfl (.tmp 41) (.tmp 44) 109 109 rfl 3 Tryz.underlying109 hsz1 (some ⟨w.heap.size,j,none⟩) (some ⟨w.heap.size,0,none⟩) (n - j) (n - j) j n (by simp [Act.eval,Act.put]) (by simp [Act.eval,Act.put]) w.heap.size j cur 3 hbr cs hcl.out (fun _=>⟨rfl,_,rfl,hsr⟩) hft h1c w.heap.size w hbelr.drew (Nat.le_refl _) ?_;intro w4 hb4 hbel4)
   all_goals
    go_wp2
    go_roundg (n - (j + c))
    case measure=>omega
    case rel=>exact ⟨j + c,by omega,hcc,by (have:=hcc;omega),by go_num,by rw [← hspl.out];exact hb4.out,hbel4⟩
  ·obtain rfl:j = n:=by omega
   go_wp2;go_ret;exact ⟨rfl,by simpa [Blk] using hbr,Mod.of_below hbelr⟩
end Go.Proofs.YtanioleniadhoaaGreat
