/-
  Bytes from any slice: what it says.
-/
import Derived.Test.YtanioleniadhoaaGreatAG04
set_option linter.unusedVariables false
set_option linter.unusedSimpArgs false
namespace Go.Proofs.YtanioleniadhoaaGreat
open Go.RowKit
attribute [local go_sem] Oper.semAt_some
def Src (w:World) (v:Value) (d:List Nat):Prop :=
 ∃ a c,v = .slice a d.length c∧d.length≤c∧c≤maxLen∧(0 < d.length→∃ b off,a = some ⟨b,off,none⟩∧b < w.heap.size∧∀ i,i < d.length→w.cell? ⟨b,off + i,none⟩ = some (.int .u8 (d.getD i 0:Nat)))
theorem Src.fresh {w w':World} {v:Value} {d:List Nat} (h:Src w v d) (hm:Mod Nowhere w w'):Src w' v d:=by
 obtain ⟨a,c,e,h1,h2,h3⟩:=h;refine ⟨a,c,e,h1,h2,fun h0=>?_⟩;obtain ⟨b,off,e1,hb,hc⟩:=h3 h0;exact ⟨b,off,e1,Nat.lt_of_lt_of_le hb hm.size,fun i hi=>(hm.cell (p:=⟨b,off + i,none⟩) hb id).trans (hc i hi)⟩
theorem u8s_at (d:List Nat) (i:Nat) (h:i < d.length):(u8s d).getD i default = .int .u8 (d.getD i 0:Nat):=by
 unfold u8s;rw [gd0,gd0,List.getElem?_map,List.getElem?_eq_getElem h]
 rfl
def DSl (w:World) (v:Value) (d:List Nat):Prop:=Sl w v 5 1 d.length (u8s d)
def Shun (S:Nat→Prop) (w:World) (T:TypeId):Prop:=∀ k,S k→∀ cs,¬ Blk w k cs T
theorem Sl.off {S:Nat→Prop} {w:World} {v:Value} {T:TypeId} {sz n:Nat} {xs:List Value} (h:Sl w v T sz n xs) (hS:Shun S w T):Off S v:=by
 intro k hk hs;rcases h.2 with ⟨rfl,_⟩ | ⟨b,off,cap,cs,rfl,hb,_⟩
 ·simp [Value.ownBlock] at hk
 ·simp [Value.ownBlock] at hk;subst hk;exact hS _ hs cs hb
theorem Shun.none (w:World) (T:TypeId):Shun Nowhere w T:=fun _ h=>h.elim
theorem Shun.above {w:World} {T:TypeId} {B:Nat} (hB:w.heap.size≤B):Shun (Above B) w T:=fun k h cs hb=>by have:=hb.lt;have h:B≤k:=h;omega
theorem DSl.mod {S:Nat→Prop} {w w':World} {v:Value} {d:List Nat} (h:DSl w v d) (hm:Mod S w w') (hS:Shun S w 5):DSl w' v d:=Sl.mod h hm (Sl.off h hS)
theorem DSl.fresh {w w':World} {v:Value} {d:List Nat} (h:DSl w v d) (hm:Mod Nowhere w w'):DSl w' v d:=h.mod hm (Shun.none _ _)
end Go.Proofs.YtanioleniadhoaaGreat
