/-
  append(b, make([]byte, k)...) where b may be empty.
-/
import Derived.Test.YtanioleniadhoaaGreatAG15
set_option linter.unusedVariables false
set_option linter.unusedSimpArgs false
namespace Go.Proofs.YtanioleniadhoaaGreat
open Go.RowKit
theorem append_zeros_any {w:World} {base n k:Nat} {v:Value} {xs:List Value} (hown:w.ownsRow base 5 1 v n xs) (hk:0 < k) (hle:n + k≤1099511627776) (hbase:base≤w.heap.size) (ty:TypeId) :
  ∃ g cap w',(Builtin.append_ #[22,3] ty #[v,.int .i64 k]).run Tryz.prog w = .ok (.slice (some ⟨g,0,none⟩) (n + k) cap) w'∧w'.ownsRow base 5 1 (.slice (some ⟨g,0,none⟩) (n + k) cap) (n + k) (xs ++ List.replicate k (.int .u8 0))∧Mod (Above base) w w':=by
 obtain ⟨i0,hi0,hz0,hz1,hz2⟩:=info_parts info_u8;have hl:=hown.1;rw [Nat.mul_one] at hl;rcases hown.2 with ⟨hv,h0⟩ | ⟨g,cap,cur,rfl,hbg,hg,hnc,hcm,hcs,htake⟩
 ·subst h0;have hx:xs = []:=List.eq_nil_of_length_eq_zero hl;subst hx;subst hv;have hge:=grownCap_ge w k 0 5;have hcm':=grownCap_le_maxLen w k 0 5 (by unfold maxLen;omega);rw [Nat.zero_add];have hrun:=Lib.run_append_nil_zeros (P:=Tryz.prog) w 22 3 ty 5 i0 (.int .u8 0) .i64 .i64 Tryz.underlying22 Tryz.underlying3 hi0 hz0 k hk (by omega) (by omega) (by rw [hz2];omega);refine ⟨_,_,_,hrun,⟨by simp,.inr ⟨_,_,_,rfl,hbase,heap_alloc_new w.drew _,hge,hcm',?_,?_⟩⟩,?_⟩
  ·simp only [Array.size_append,size_zeroCells,Value.cells]
   simp;omega
  ·simp only [Value.cells,zeroCells_u8,u8s_rep,List.append_toArray];rw [Nat.mul_one];exact List.take_left' (by simp)
  ·exact ((Mod.refl _ w).drew).alloc _
 ·rw [Nat.mul_one] at hcs htake;by_cases hroom:n + k≤cap
  ·have hst:=run_storeCells_at Tryz.prog g n 5 (List.replicate k (.int .u8 0)) 0 cur w hg (by simp;omega) (by intro u hu;rw [List.eq_of_mem_replicate hu];rfl);simp only [Nat.add_zero,List.length_replicate] at hst;have hw:IntKind.i64.wrap (k:Int) = k:=by rw [IntKind.wrap_i64];omega
   have hneg:¬ ((k:Int) < 0):=by omega
   have h48i:¬ (281474976710656 < (k:Int) * (i0.bytes:Int)):=by rw [hz2];omega
   have hk0:k ≠ 0:=by omega
   refine ⟨g,cap,w.setRow g (cur.toList.take n ++ List.replicate k (Value.int .u8 0) ++ cur.toList.drop (n + k)).toArray,?_,?_,?_⟩
   ·simp [Builtin.append_,run_underlying Tryz.underlying22,run_underlying Tryz.underlying3,sizeOf,typeInfo,zeroValue,hi0,hz0,hz1,asInt,asIntOf,hw,hneg,h48i,hroom,hk0,Value.cells,Addr.add_lit,zeroCells_u8,u8s_rep,hst]
   ·refine ⟨by simp [hl],.inr ⟨g,cap,_,rfl,hbg,setRow_heap w g cur _ 5 _ hg,hroom,hcm,?_,?_⟩⟩
    ·simp;omega
    ·rw [htake,Nat.mul_one];exact List.take_left' (by simp [hl])
   ·exact (Mod.refl _ w).setRow (fun _=>hbg) _
  ·have hold:(Builtin.firstCells i0.size n (.slice (some ⟨g,0,none⟩) n cap)).run Tryz.prog w.drew = .ok xs.toArray w.drew:=by
    rw [hz1];refine run_firstCells_some _ 1 n _ n cap _ (by simp [hl]) (fun j u hj=>?_);have:=hown.cells (g:=g) rfl j u hj;simpa using this
   have hnx:Builtin.nextslicecap (n + k) cap * i0.bytes≤281474976710656:=by
    rw [hz2];exact growslice_fits (need:=n + k) (old:=cap) (bytes:=1) (by omega) (by omega)
   have hrun:=Lib.run_append_grow_zeros (P:=Tryz.prog) w 22 3 ty 5 i0 (.int .u8 0) .i64 .i64 Tryz.underlying22 Tryz.underlying3 hi0 hz0 (some ⟨g,0,none⟩) n cap xs hold k hk (by omega) (by omega) (by omega) (by rw [hz2];omega) hnx;have hge:=grownCap_ge w (n + k) cap 5;have hcm':=grownCap_le_maxLen w (n + k) cap 5 (by unfold maxLen;omega);refine ⟨_,_,_,hrun,⟨by simp [hl],.inr ⟨_,_,_,rfl,hbase,heap_alloc_new w.drew _,hge,hcm',?_,?_⟩⟩,?_⟩
   ·simp only [Array.size_append,List.size_toArray,size_zeroCells,Value.cells,hl]
    simp;omega
   ·simp only [Value.cells,zeroCells_u8,u8s_rep,List.append_toArray,List.append_assoc];rw [← List.append_assoc,Nat.mul_one];exact List.take_left' (by simp [hl])
   ·exact ((Mod.refl _ w).drew).alloc _
end Go.Proofs.YtanioleniadhoaaGreat
