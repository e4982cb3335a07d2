/-
  The law KeysAtomic holds for all arguments.
-/
import Derived.Test.YtoehlaeaafalmaaGreatRows
import Derived.Test.YtoehlaeaafalmaaGreatDK18
import Derived.ShutString
set_option linter.unusedVariables false
set_option linter.unusedSimpArgs false
set_option maxRecDepth 100000
namespace Go.Proofs.YtoehlaeaafalmaaGreat.keysAtomic
open Go.ChangeShapes Go.WideShapes Go.ChangeAt Go.RowKit
open Go.ChangeMaps (open_string shut_string)
theorem own:ownKnob Tryz.prog.godebug = none:=by kernel_rfl
theorem walk (w:World) (a0:Value) (z0:List OpK) (a1:Int) (i0:InKOps w a0 z0) (w1:(Lit.int .i64 a1).wf = true) :
  Calls Tryz.prog 6 #[a0,.int .i64 a1] w fun e w'=>e = .returned (.bool true)∧Below w.heap.size w w':=lawKeysAtomic a0 z0 a1 w i0 w1
theorem lifted (os:Os) (started:os.Started) (H:Type) (enc:TypeId × Value→H) :
  ReturnsInHanded {} Tryz.checked os 6 .any (Rows.keysAtomicSpec.pre6 enc Tryz.prog Tryz.f6 Rows.keysAtomicRow.domain false) (Rows.keysAtomicSpec.post enc Tryz.prog Tryz.f6 false true false false):=by
 refine returnsInHanded_of_change (C:=Tryz.checked) own started (by kernel_rfl) Tryz.func6
  (ChangeSpec.witness6 (enc:=enc) (C:=Tryz.checked) false ⟨#[],#[.slice none 0 0,.int .i64 0],[]⟩ 8 (by kernel_rfl) (by kernel_rfl) (by kernel_rfl) (by kernel_rfl)) ?_
 intro W base args ds gs before hval0 hW hcnd _;have hval:∀ (j:Nat) t v,Tryz.f6.params[j]? = some t→args[j]? = some v→Value.okWide Tryz.prog W .any base t v:=hval0;have hW':=hW;obtain ⟨p,q,hA0,hV,rfl,hfz,hnd⟩:=hW;have hA:DataW.TrodAll enc Tryz.prog W 0 (fun _=>true) true Tryz.f6.params.toList args.toList ds p:=hA0;rw [Tryz.params6] at hA hval;obtain ⟨v0,vs0,d0,ds0,p0,q0,hargs,rfl,rfl,h0,r0⟩:=trodAll_cons hA;obtain ⟨v1,vs1,d1,ds1,p1,q1,rfl,rfl,rfl,h1,r1⟩:=trodAll_cons r0;obtain ⟨rfl,rfl,rfl⟩:=trodAll_nil r1;obtain rfl:args = #[v0,v1]:=by cases args;simp_all
 obtain ⟨rfl,rfl⟩:=trodVars_none hV;have k0:=h0;have lt0:∀ x ∈ p0,x.block < W.heap.size:=by obtain ⟨m,hm⟩:=k0;exact DataW.trod_lt m _ _ _ hm
 obtain ⟨z0,i0⟩:=Zh3 (hval 0 22 v0 rfl rfl) h0;obtain ⟨a1,rfl,rfl,rfl,w1⟩:=open_int Tryz.underlying3 (hval 1 3 v1 rfl rfl) h1;clear hA0 hval0;simp only [List.append_nil] at hW';refine (walk W v0 z0 a1 i0 w1).mono fun e W' ⟨he,hg⟩=>?_;subst he
 exact ⟨_,rfl,Zg9 (pa:=_) (pv:=[]) hW' (fun _ _ _=>(trodAll_cons_mk (shut_bool Tryz.underlying4 _) trodAll_mk0)) (fun sp hsp=>(trodAll_cons_mk (Zhb (by kernel_rfl) (of_decide_eq_true (by kernel_rfl)) k0 hg lt0 sp (fun x hx=>hsp x (by simp [hx]))) (trodAll_cons_mk (shut_int Tryz.underlying3 w1) trodAll_mk0))) (fun _ _=>rfl) (by simp)
  hg (ok_one (by kernel_rfl) rfl (okWide_bool_mk Tryz.underlying4 _))⟩
theorem c1:(Rows.keysAtomicRow.inPlace == Tryz.prog.inPlace 6) = true:=by kernel_rfl
theorem c2:(Rows.keysAtomicRow.unfollowed == Tryz.prog.unfollowed 6) = true:=by kernel_rfl
theorem c3:(Rows.keysAtomicRow.recurses == Tryz.prog.recurses 6) = true:=by kernel_rfl
theorem c4:(Rows.keysAtomicRow.named == Tryz.prog.varsNamed 6) = true:=by kernel_rfl
theorem closed:joinedFacts Tryz.prog 6 Tryz.f6 Rows.keysAtomicSpec Rows.keysAtomicRow = true:=by
 unfold joinedFacts;rw [Zcp,Zha,c1,c2,c3,c4]
 kernel_rfl
theorem over:Rows.keysAtomicRow.holds Tryz.pinned (OpenSpec.ofChange Rows.keysAtomicSpec) :=
 OpenClaim.holds_of_wide 6 Tryz.f6 rfl rfl rfl rfl rfl rfl rfl ⟨rfl,rfl,rfl,rfl,rfl⟩ rfl rfl rfl rfl rfl (by kernel_rfl) Tryz.func6 closed
  (of_decide_eq_true (by kernel_rfl)) (by unfold Func.isWrapper;first | (rw [if_pos (by decide +kernel)];kernel_rfl) | (rw [if_neg (by decide +kernel)];exact ⟨rfl,rfl⟩))
  (fun os started H enc _=>lifted os started H enc)
theorem proved:Rows.KeysAtomicSaid :=
 over
#print axioms proved
end Go.Proofs.YtoehlaeaafalmaaGreat.keysAtomic
