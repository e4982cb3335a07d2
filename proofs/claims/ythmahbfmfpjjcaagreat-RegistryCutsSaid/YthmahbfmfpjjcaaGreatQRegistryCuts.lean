/-
  The law RegistryCuts holds for all arguments.
-/
import Derived.Test.YthmahbfmfpjjcaaGreatRows
import Derived.Test.YthmahbfmfpjjcaaGreatQH12
import Derived.ShutString
set_option linter.unusedVariables false
set_option linter.unusedSimpArgs false
set_option maxRecDepth 100000
namespace Go.Proofs.YthmahbfmfpjjcaaGreat.registryCuts
open Go.ChangeShapes Go.WideShapes Go.ChangeAt Go.RowKit
open Go.ChangeMaps (open_string shut_string)
theorem own:ownKnob Tryz.prog.godebug = none:=by kernel_rfl
theorem walk (w:World) (a0:Value) (z0:List OpI) (a1:Int) (a2:Int) (i0:InROps w a0 z0) (b2:a2 < 9223372036854775808) :
  Calls Tryz.prog 9 #[a0,.int .i64 a1,.int .i64 a2] w fun e w'=>e = .returned (.bool true)∧Below w.heap.size w w':=Zjl a0 z0 a1 a2 w i0 b2
theorem lifted (os:Os) (started:os.Started) (H:Type) (enc:TypeId × Value→H) :
  ReturnsInHanded {} Tryz.checked os 9 .any (Rows.registryCutsSpec.pre6 enc Tryz.prog Tryz.f9 Rows.registryCutsRow.domain false) (Rows.registryCutsSpec.post enc Tryz.prog Tryz.f9 false true false false):=by
 refine returnsInHanded_of_change (C:=Tryz.checked) own started (by kernel_rfl) Tryz.func9
  (ChangeSpec.witness6 (enc:=enc) (C:=Tryz.checked) false ⟨#[],#[.slice none 0 0,.int .i64 0,.int .i64 0],[]⟩ 8 (by kernel_rfl) (by kernel_rfl) (by kernel_rfl) (by kernel_rfl)) ?_
 intro W base args ds gs before hval0 hW hcnd _;have hval:∀ (j:Nat) t v,Tryz.f9.params[j]? = some t→args[j]? = some v→Value.okWide Tryz.prog W .any base t v:=hval0;have hW':=hW;obtain ⟨p,q,hA0,hV,rfl,hfz,hnd⟩:=hW;have hA:DataW.TrodAll enc Tryz.prog W 0 (fun _=>true) true Tryz.f9.params.toList args.toList ds p:=hA0;rw [Tryz.params9] at hA hval;obtain ⟨v0,vs0,d0,ds0,p0,q0,hargs,rfl,rfl,h0,r0⟩:=trodAll_cons hA;obtain ⟨v1,vs1,d1,ds1,p1,q1,rfl,rfl,rfl,h1,r1⟩:=trodAll_cons r0;obtain ⟨v2,vs2,d2,ds2,p2,q2,rfl,rfl,rfl,h2,r2⟩:=trodAll_cons r1;obtain ⟨rfl,rfl,rfl⟩:=trodAll_nil r2
 obtain rfl:args = #[v0,v1,v2]:=by cases args;simp_all
 obtain ⟨rfl,rfl⟩:=trodVars_none hV;have k0:=h0;have lt0:∀ x ∈ p0,x.block < W.heap.size:=by obtain ⟨m,hm⟩:=k0;exact DataW.trod_lt m _ _ _ hm
 obtain ⟨z0,i0⟩:=ZiO (hval 0 43 v0 rfl rfl) h0;obtain ⟨a1,rfl,rfl,rfl,w1⟩:=open_int Tryz.underlying3 (hval 1 3 v1 rfl rfl) h1;obtain ⟨a2,rfl,rfl,rfl,w2⟩:=open_int Tryz.underlying3 (hval 2 3 v2 rfl rfl) h2;clear hA0 hval0;simp only [List.append_nil] at hW';refine (walk W v0 z0 a1 a2 i0 (by have:=(wfI64 w2).2;omega)).mono fun e W' ⟨he,hg⟩=>?_;subst he
 exact ⟨_,rfl,Zh6 (pa:=_) (pv:=[]) hW' (fun _ _ _=>(trodAll_cons_mk (shut_bool Tryz.underlying4 _) trodAll_mk0)) (fun sp hsp=>(trodAll_cons_mk (Zh8 (by kernel_rfl) (of_decide_eq_true (by kernel_rfl)) k0 hg lt0 sp (fun x hx=>hsp x (by simp [hx]))) (trodAll_cons_mk (shut_int Tryz.underlying3 w1) (trodAll_cons_mk (shut_int Tryz.underlying3 w2) trodAll_mk0)))) (fun _ _=>rfl) (by simp)
  hg (ok_one (by kernel_rfl) rfl (okWide_bool_mk Tryz.underlying4 _))⟩
theorem c1:(Rows.registryCutsRow.inPlace == Tryz.prog.inPlace 9) = true:=by kernel_rfl
theorem c2:(Rows.registryCutsRow.unfollowed == Tryz.prog.unfollowed 9) = true:=by kernel_rfl
theorem c3:(Rows.registryCutsRow.recurses == Tryz.prog.recurses 9) = true:=by kernel_rfl
theorem c4:(Rows.registryCutsRow.named == Tryz.prog.varsNamed 9) = true:=by kernel_rfl
theorem closed:joinedFacts Tryz.prog 9 Tryz.f9 Rows.registryCutsSpec Rows.registryCutsRow = true:=by
 unfold joinedFacts;rw [ZcF,Zh7,c1,c2,c3,c4]
 kernel_rfl
theorem over:Rows.registryCutsRow.holds Tryz.pinned (OpenSpec.ofChange Rows.registryCutsSpec) :=
 OpenClaim.holds_of_wide 9 Tryz.f9 rfl rfl rfl rfl rfl rfl rfl ⟨rfl,rfl,rfl,rfl,rfl⟩ rfl rfl rfl rfl rfl (by kernel_rfl) Tryz.func9 closed
  (of_decide_eq_true (by kernel_rfl)) (by unfold Func.isWrapper;first | (rw [if_pos (by decide +kernel)];kernel_rfl) | (rw [if_neg (by decide +kernel)];exact ⟨rfl,rfl⟩))
  (fun os started H enc _=>lifted os started H enc)
theorem proved:Rows.RegistryCutsSaid :=
 over
#print axioms proved
end Go.Proofs.YthmahbfmfpjjcaaGreat.registryCuts
