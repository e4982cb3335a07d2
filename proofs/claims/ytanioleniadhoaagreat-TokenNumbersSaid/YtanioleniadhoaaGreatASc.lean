/-
  Bytes from any slice: a copy of them; a row that takes them up.
-/
import Derived.Test.YtanioleniadhoaaGreatAG11
import Derived.Test.YtanioleniadhoaaGreatASq
set_option linter.unusedVariables false
set_option linter.unusedSimpArgs false
set_option maxHeartbeats 400000
set_option maxRecDepth 100000
namespace Go.Proofs.YtanioleniadhoaaGreat
open Go.RowKit
open Jn
attribute [local go_sem] Oper.semAt_some
theorem DSl.src {w:World} {v:Value} {d:List Nat} (h:DSl w v d):Src w v d:=by
 obtain ⟨a,c,rfl,h1,h2,-⟩:=Sl.gen h;refine ⟨a,c,rfl,h1,h2,fun h0=>?_⟩;obtain ⟨b,off,cap,e,hb,_,_,hc,_⟩:=Sl.open h (by omega);obtain ⟨rfl,_,_⟩:a = some ⟨b,off,none⟩∧d.length = d.length∧c = cap:=by simpa using e
 refine ⟨b,off,rfl,hb,fun i hi=>?_⟩;rw [hc i (by omega),u8s_at d i hi]
theorem sl_whole {w:World} {b:Nat} {xs:List Value} {T:TypeId} {sz n:Nat} (h:Blk w b xs T) (hn:xs.length = n * sz) (hm:n≤maxLen):Sl w (.slice (some ⟨b,0,none⟩) n n) T sz n xs :=
 ⟨hn,.inr ⟨b,0,n,xs,rfl,h,Nat.le_refl _,hm,by omega,by rw [List.drop_zero,← hn,List.take_length]⟩⟩
theorem run_none_u8 (w:World):(w.alloc (.cells #[] 5)).ownsRow w.heap.size 5 1 (.slice (some ⟨w.heap.size,0,none⟩) 0 0) 0 [] :=
 owns_new w [] 5 w.heap.size 0 (Nat.le_refl _) rfl (by decide)
theorem append_src {w:World} {base:Nat} {v u:Value} {d:List Nat} (hown:w.ownsRow base 5 1 v 0 []) (hs:Src w u d) (hl:d.length≤1099511627776) (hb:base≤w.heap.size) (ty:TypeId) :
  ∃ va vcap w',(Builtin.append_ #[22,22] ty #[v,u]).run Tryz.prog w = .ok (.slice va d.length vcap) w'∧w'.ownsRow base 5 1 (.slice va d.length vcap) d.length (u8s d)∧Mod (Above base) w w':=by
 obtain ⟨i0,hi0,hz0,hz1,hz2⟩:=info_parts info_u8;obtain ⟨ua,uc,rfl,hc1,hc2,hcell⟩:=hs;by_cases hm:d.length = 0
 ·obtain ⟨a,c,rfl,hc⟩:=owns_form hown;have hy:d = []:=List.eq_nil_of_length_eq_zero hm;subst hy;exact ⟨a,c,w,run_append_empty (P:=Tryz.prog) w 22 ty 5 i0 Tryz.underlying22 hi0 a ua 0 c uc hc,hown,Mod.refl _ _⟩
 ·obtain ⟨b,off,rfl,hbl,hcs⟩:=hcell (by omega);have hul:(u8s d).length = d.length:=by simp [u8s]
  have hnews:∀ j x,(u8s d)[j]? = some x→w.cell? ((⟨b,off,none⟩:Addr).add j) = some x:=fun j x hj=>by
   have hjl:=(List.getElem?_eq_some_iff.1 hj).1;rw [hul] at hjl;rw [add_lit,hcs j hjl,← u8s_at d j hjl,gd0,hj];rfl
  obtain ⟨g,gc,w',hr,ho,hg,_,_⟩:=run_append_lies (P:=Tryz.prog) w 22 ty base 5 i0 (.int .u8 0) 1 1 Tryz.underlying22 hi0 hz0 hz1 hz2 rfl (by decide) v 0 [] hown ⟨b,off,none⟩ d.length uc (u8s d) (by rw [hul];omega) hnews (one_u8s d) (by omega) (by unfold maxLen;omega) (by omega) hb _ rfl;rw [Nat.zero_add] at hr ho;rw [List.nil_append] at ho;exact ⟨_,gc,w',hr,ho,(Mod.refl _ w).app hown hg⟩
theorem Clone_src {w:World} {v:Value} {d:List Nat} (h:Src w v d) (hn:d.length≤1099511627776) :
  Calls Tryz.prog 123 #[v] w fun e w'=>∃ va vc,e = .returned (.slice va d.length vc)∧w'.ownsRow w.heap.size 5 1 (.slice va d.length vc) d.length (u8s d)∧Mod Nowhere w w':=by
 have hm0:Mod Nowhere w (w.alloc (.cells #[] 5)):=(Mod.refl _ w).alloc _;obtain ⟨va,vc,w2,r1,ho,hm⟩:=append_src (run_none_u8 w) (h.fresh hm0) hn (by simp) 22;have hm2:Mod Nowhere w w2:=hm0.step hm fun i hi e=>by have e:w.heap.size≤i:=e;omega
 obtain ⟨a,c,rfl,h1,h2,h3⟩:=h
 cases a with
 | none =>
  have hd:d = []:=by
   by_cases h0:0 < d.length
   ·obtain ⟨b,off,e,_⟩:=h3 h0;cases e
   ·exact List.eq_nil_of_length_eq_zero (by omega)
  subst hd;have heq:=fun w=>Lib.run_eql_slice_nil (P:=Tryz.prog) w 22 5 none 0 c 0 0 Tryz.underlying22;clear r1 ho hm hm2 h3;go_enter Tryz.func123,Tryz.ntmps123;go_wp2;go_ret;exact ⟨_,_,rfl,World.ownsRow_nil _ _ _ _,Mod.refl _ _⟩
 | some x =>
  have heq:=fun w=>Lib.run_eql_slice_nil (P:=Tryz.prog) w 22 5 (some x) d.length c 0 0 Tryz.underlying22;have hfin:∃ va' vc',(Ending.returned (.slice va d.length vc)) = .returned (.slice va' d.length vc')∧w2.ownsRow w.heap.size 5 1 (.slice va' d.length vc') d.length (u8s d)∧Mod Nowhere w w2:=⟨_,_,rfl,ho,hm2⟩;generalize d.length = n at *;refine hid2 ?_ hfin h3;clear hfin h3;intro hfin h3;clear ho hm hm2;go_enter Tryz.func123,Tryz.ntmps123
  go_wp2_with (at_builtin;refine Lib.wpList_append_run _ rfl _ _ _ _ rfl _ _ (by rfl) (by rfl) _ _ r1 ?_;clear r1)
  go_ret;exact hfin.out
theorem append_to {w:World} {base:Nat} {v u:Value} {l d:List Nat} {n:Nat} (hn:l.length = n) (hown:w.ownsRow base 5 1 v n (u8s l)) (hs:Src w u d) (hl:n + d.length≤1099511627776) (hb:base≤w.heap.size) (ty:TypeId) :
  ∃ va vcap w',(Builtin.append_ #[22,22] ty #[v,u]).run Tryz.prog w = .ok (.slice va (n + d.length) vcap) w'∧w'.ownsRow base 5 1 (.slice va (n + d.length) vcap) (n + d.length) (u8s (l ++ d))∧Mod (Above base) w w':=by
 obtain ⟨i0,hi0,hz0,hz1,hz2⟩:=info_parts info_u8;obtain ⟨ua,uc,rfl,hc1,hc2,hcell⟩:=hs;by_cases hm:d.length = 0
 ·obtain ⟨a,c,rfl,hc⟩:=owns_form hown;have hy:d = []:=List.eq_nil_of_length_eq_zero hm;subst hy;rw [List.append_nil];exact ⟨a,c,w,run_append_empty (P:=Tryz.prog) w 22 ty 5 i0 Tryz.underlying22 hi0 a ua n c uc hc,hown,Mod.refl _ _⟩
 ·obtain ⟨b,off,rfl,hbl,hcs⟩:=hcell (by omega);have hul:(u8s d).length = d.length:=by simp [u8s]
  have hnews:∀ j x,(u8s d)[j]? = some x→w.cell? ((⟨b,off,none⟩:Addr).add j) = some x:=fun j x hj=>by
   have hjl:=(List.getElem?_eq_some_iff.1 hj).1;rw [hul] at hjl;rw [add_lit,hcs j hjl,← u8s_at d j hjl,gd0,hj];rfl
  obtain ⟨g,gc,w',hr,ho,hg,_,_⟩:=run_append_lies (P:=Tryz.prog) w 22 ty base 5 i0 (.int .u8 0) 1 1 Tryz.underlying22 hi0 hz0 hz1 hz2 rfl (by decide) v n (u8s l) hown ⟨b,off,none⟩ d.length uc (u8s d) (by rw [hul];omega) hnews (one_u8s d) (by omega) (by unfold maxLen;omega) (by omega) hb _ rfl;rw [← u8s_append] at ho;exact ⟨_,gc,w',hr,ho,(Mod.refl _ w).app hown hg⟩
end Go.Proofs.YtanioleniadhoaaGreat
