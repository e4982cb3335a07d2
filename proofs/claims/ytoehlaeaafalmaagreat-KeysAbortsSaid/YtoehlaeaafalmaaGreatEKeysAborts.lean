/-
  The law KeysAborts holds for all arguments.
-/
import Derived.Test.YtoehlaeaafalmaaGreatRows
import Derived.Test.YtoehlaeaafalmaaGreatEK19
import Derived.ShutString
set_option linter.unusedVariables false
set_option linter.unusedSimpArgs false
set_option maxRecDepth 100000
namespace Go.Proofs.YtoehlaeaafalmaaGreat.keysAborts
open Go.ChangeShapes Go.WideShapes Go.ChangeAt Go.RowKit
open Go.ChangeMaps (open_string shut_string)
theorem own:ownKnob Tryz.prog.godebug = none:=by kernel_rfl
theorem walk (w:World) (a0:Value) (z0:List OpK) (a1:Value) (z1:List KeyI) (a2:Int) (a3:Int) (i0:InKOps w a0 z0) (i1:InKeys w a1 z1) (w2:(Lit.int .i64 a2).wf = true) (w3:(Lit.int .i64 a3).wf = true) :
  Calls Tryz.prog 4 #[a0,a1,.int .i64 a2,.int .i64 a3] w fun e w'=>e = .returned (.bool true)∧Below w.heap.size w w':=lawKeysAborts a0 z0 a1 z1 a2 a3 w i0 i1 w2 w3
theorem lifted (os:Os) (started:os.Started) (H:Type) (enc:TypeId × Value→H) :
  ReturnsInHanded {} Tryz.checked os 4 .any (Rows.keysAbortsSpec.pre6 enc Tryz.prog Tryz.f4 Rows.keysAbortsRow.domain false) (Rows.keysAbortsSpec.post enc Tryz.prog Tryz.f4 false true false false):=by
 refine returnsInHanded_of_change (C:=Tryz.checked) own started (by kernel_rfl) Tryz.func4
  (ChangeSpec.witness6 (enc:=enc) (C:=Tryz.checked) false ⟨#[],#[.slice none 0 0,.slice none 0 0,.int .i64 0,.int .i64 0],[]⟩ 8 (by kernel_rfl) (by kernel_rfl) (by kernel_rfl) (by kernel_rfl)) ?_
 intro W base args ds gs before hval0 hW hcnd _;have hval:∀ (j:Nat) t v,Tryz.f4.params[j]? = some t→args[j]? = some v→Value.okWide Tryz.prog W .any base t v:=hval0;have hW':=hW;obtain ⟨p,q,hA0,hV,rfl,hfz,hnd⟩:=hW;have hA:DataW.TrodAll enc Tryz.prog W 0 (fun _=>true) true Tryz.f4.params.toList args.toList ds p:=hA0;rw [Tryz.params4] at hA hval;obtain ⟨v0,vs0,d0,ds0,p0,q0,hargs,rfl,rfl,h0,r0⟩:=trodAll_cons hA;obtain ⟨v1,vs1,d1,ds1,p1,q1,rfl,rfl,rfl,h1,r1⟩:=trodAll_cons r0;obtain ⟨v2,vs2,d2,ds2,p2,q2,rfl,rfl,rfl,h2,r2⟩:=trodAll_cons r1;obtain ⟨v3,vs3,d3,ds3,p3,q3,rfl,rfl,rfl,h3,r3⟩:=trodAll_cons r2
 obtain ⟨rfl,rfl,rfl⟩:=trodAll_nil r3;obtain rfl:args = #[v0,v1,v2,v3]:=by cases args;simp_all
 obtain ⟨rfl,rfl⟩:=trodVars_none hV;have k0:=h0;have lt0:∀ x ∈ p0,x.block < W.heap.size:=by obtain ⟨m,hm⟩:=k0;exact DataW.trod_lt m _ _ _ hm
 obtain ⟨z0,i0⟩:=ZhX (hval 0 22 v0 rfl rfl) h0;have k1:=h1;have lt1:∀ x ∈ p1,x.block < W.heap.size:=by obtain ⟨m,hm⟩:=k1;exact DataW.trod_lt m _ _ _ hm
 obtain ⟨z1,i1⟩:=Zh1 (hval 1 47 v1 rfl rfl) h1;obtain ⟨a2,rfl,rfl,rfl,w2⟩:=open_int Tryz.underlying3 (hval 2 3 v2 rfl rfl) h2;obtain ⟨a3,rfl,rfl,rfl,w3⟩:=open_int Tryz.underlying3 (hval 3 3 v3 rfl rfl) h3;clear hA0 hval0;simp only [List.append_nil] at hW';refine (walk W v0 z0 v1 z1 a2 a3 i0 i1 w2 w3).mono fun e W' ⟨he,hg⟩=>?_;subst he
 exact ⟨_,rfl,Zg6 (pa:=_) (pv:=[]) hW' (fun _ _ _=>(trodAll_cons_mk (shut_bool Tryz.underlying4 _) trodAll_mk0)) (fun sp hsp=>(trodAll_cons_mk (Zcp (by kernel_rfl) (of_decide_eq_true (by kernel_rfl)) k0 hg lt0 sp (fun x hx=>hsp x (by simp [hx]))) (trodAll_cons_mk (Zcp (by kernel_rfl) (of_decide_eq_true (by kernel_rfl)) k1 hg lt1 sp (fun x hx=>hsp x (by simp [hx]))) (trodAll_cons_mk (shut_int Tryz.underlying3 w2) (trodAll_cons_mk (shut_int Tryz.underlying3 w3) trodAll_mk0))))) (fun _ _=>rfl) (by simp)
  hg (ok_one (by kernel_rfl) rfl (okWide_bool_mk Tryz.underlying4 _))⟩
theorem c1:(Rows.keysAbortsRow.inPlace == Tryz.prog.inPlace 4) = true:=by kernel_rfl
theorem c2:(Rows.keysAbortsRow.unfollowed == Tryz.prog.unfollowed 4) = true:=by kernel_rfl
theorem c3:(Rows.keysAbortsRow.recurses == Tryz.prog.recurses 4) = true:=by kernel_rfl
theorem c4:(Rows.keysAbortsRow.named == Tryz.prog.varsNamed 4) = true:=by kernel_rfl
theorem closed:joinedFacts Tryz.prog 4 Tryz.f4 Rows.keysAbortsSpec Rows.keysAbortsRow = true:=by
 unfold joinedFacts;rw [Zco,Zg7,c1,c2,c3,c4]
 kernel_rfl
theorem over:Rows.keysAbortsRow.holds Tryz.pinned (OpenSpec.ofChange Rows.keysAbortsSpec) :=
 OpenClaim.holds_of_wide 4 Tryz.f4 rfl rfl rfl rfl rfl rfl rfl ⟨rfl,rfl,rfl,rfl,rfl⟩ rfl rfl rfl rfl rfl (by kernel_rfl) Tryz.func4 closed
  (of_decide_eq_true (by kernel_rfl)) (by unfold Func.isWrapper;first | (rw [if_pos (by decide +kernel)];kernel_rfl) | (rw [if_neg (by decide +kernel)];exact ⟨rfl,rfl⟩))
  (fun os started H enc _=>lifted os started H enc)
theorem proved:Rows.KeysAbortsSaid :=
 over
#print axioms proved
end Go.Proofs.YtoehlaeaafalmaaGreat.keysAborts
