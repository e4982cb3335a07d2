/-
  The law RegistryNext.
-/
import Derived.Test.YthmahbfmfpjjcaaGreatQH5
import Derived.Test.YthmahbfmfpjjcaaGreatQH7
set_option linter.unusedVariables false
set_option linter.unusedSimpArgs false
namespace Go.Proofs.YthmahbfmfpjjcaaGreat
open Go.RowKit
open Jn Vn Rg
attribute [local go_sem] Oper.semAt_some
theorem Zjc {l:List OpI} (h:fewB l = true) {k:Nat} (hk:k < l.length):l[k].e.aid.length≤40∧l[k].e.dom.length≤40∧l[k].aid.length≤40∧l[k].dom.length≤40:=by
 unfold fewB at h;simp only [Bool.and_eq_true,List.all_eq_true] at h;have:=h.2 _ (List.getElem_mem hk);unfold fewOp at this;simp at this;omega
section
variable {W0 W W' : World} {A : VAt} {rb B k : Nat} {M : Md}
def MBox (W:World) (N:Nat) (M:Md) (va:Option Addr) (vc:Nat) (ua:Option Addr) (uc:Nat):Prop:=Blk W N [.slice va M.now.length vc,.slice ua M.was.length uc,.bool M.act] 54∧EL W va vc M.now∧EL W ua uc M.was
theorem MBox.fresh {N:Nat} {va ua:Option Addr} {vc uc:Nat} (h:MBox W N M va vc ua uc) (hm:Mod Nowhere W W'):MBox W' N M va vc ua uc:=⟨h.1.mod hm id,h.2.1.fresh hm,h.2.2.fresh hm⟩
theorem MBox.four {N:Nat} {va ua:Option Addr} {vc uc:Nat} (h:MBox W N M va vc ua uc):W.cell? ⟨N,0,none⟩ = some (.slice va M.now.length vc)∧W.cell? ⟨N,1,none⟩ = some (.slice ua M.was.length uc)∧W.cell? ⟨N,2,none⟩ = some (.bool M.act)∧(∀ o,W.frozen? ⟨N,o,none⟩ = false)∧N < W.heap.size:=⟨h.1.cell 0,h.1.cell 1,h.1.cell 2,h.1.frozen,h.1.lt⟩
theorem MBox.put {N:Nat} {M':Md} {va ua va' ua':Option Addr} {vc uc vc' uc':Nat} (h:Blk W N [.slice va M.now.length vc,.slice ua M.was.length uc,.bool M.act] 54) (h1:EL W va' vc' M'.now) (h2:EL W ua' uc' M'.was) :
  MBox (((W.setCell ⟨N,0,none⟩ (.slice va' M'.now.length vc')).setCell ⟨N,1,none⟩ (.slice ua' M'.was.length uc')).setCell ⟨N,2,none⟩ (.bool M'.act)) N M' va' vc' ua' uc'∧Mod (fun j=>j = N) W (((W.setCell ⟨N,0,none⟩ (.slice va' M'.now.length vc')).setCell ⟨N,1,none⟩ (.slice ua' M'.was.length uc')).setCell ⟨N,2,none⟩ (.bool M'.act)):=by
 obtain ⟨g1,g2⟩:=put3 h (.slice va' M'.now.length vc') (.slice ua' M'.was.length uc') (.bool M'.act);exact ⟨⟨g1,h1.mod g2 (shun1 h (by decide)) (shun1 h (by decide)),h2.mod g2 (shun1 h (by decide)) (shun1 h (by decide))⟩,g2⟩
end
theorem rOf_s {o:Option En} {L:List En} (hi:RInv L) (ho:∀ e,o = some e→e ∈ L):Bytes (rOf o).aid∧Bytes (rOf o).dom∧(rOf o).aid.length≤16∧(rOf o).dom.length≤16:=by
 cases o with
 | none=>exact ⟨fun k=>by simp [rOf,zeroR],fun k=>by simp [rOf,zeroR],by simp [rOf,zeroR],by simp [rOf,zeroR]⟩
 | some e =>
  have h:=hi.ok e (ho e rfl);exact ⟨h.ba,h.bd,h.a16,h.d16⟩
end Go.Proofs.YthmahbfmfpjjcaaGreat
