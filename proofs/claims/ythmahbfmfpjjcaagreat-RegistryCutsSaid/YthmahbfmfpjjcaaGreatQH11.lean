/-
  The law's shows: a registry has the entries of a state.
-/
import Derived.Test.YthmahbfmfpjjcaaGreatQH8
set_option linter.unusedVariables false
set_option linter.unusedSimpArgs false
set_option maxHeartbeats 8000000
set_option maxRecDepth 100000
namespace Go.Proofs.YthmahbfmfpjjcaaGreat
open Go.RowKit
open Jn Vn Rg
attribute [local go_sem] Oper.semAt_some
theorem Zc9 {w:World} {rb:Nat} {A:VAt} {m:Mem} {s:VSt} {L:List En} (hr:Reg w rb A m s L) {va:Option Addr} {vc:Nat} (hel:EL w va vc L) :
  Calls Tryz.prog 32 #[ptr rb,.agg #[.slice va L.length vc]] w fun e w'=>e = .returned (.bool true)∧Mod Nowhere w w':=by
 have hinv:=hr.inv;obtain ⟨ec1,ec2⟩:=hel.len0;have hm1:=m1 w [.slice va L.length vc] 52;have hB:=blk_a (w:=w) [.slice va L.length vc] 52;have q1:=ZcW (hr.fresh hm1);have q2:=fun X (hX:Mod Nowhere w X)=>Zc6 (hel.fresh hX) hinv;rw [Za5 hinv] at q1;obtain ⟨ro,hro⟩:∃ o,rDefault L = o:=⟨_,rfl⟩
 have hmem:∀ e,ro = some e→e ∈ L:=fun e he=>by
  rw [← hro,← Za5 hinv] at he;exact List.mem_of_find?_eq_some he
 simp only [hro] at q1 q2;obtain ⟨g1,g2,g3,g4⟩:=rOf_s hinv hmem;obtain ⟨re,hre⟩:∃ re,rOf ro = re:=⟨_,rfl⟩;rw [hre] at g1 g2 g3 g4
 have hS:∀ X u v u' v',DSl X u re.aid→DSl X v re.dom→DSl X u' re.aid→DSl X v' re.dom→Calls Tryz.prog 14 #[.agg (eCells u v re).toArray,.agg (eCells u' v' re).toArray] X fun r w'=>r = .returned (.bool true)∧Mod Nowhere X w':=fun X u v u' v' d1 d2 d3 d4=>by
  have:=XQ (w:=X) (x:=((u,v),re)) (y:=((u',v'),re)) (ExD.s ⟨d1,d2⟩ g1 g2) (ExD.s ⟨d3,d4⟩ g1 g2) (by show re.aid.length≤_;omega) (by show re.dom.length≤_;omega) (by show re.aid.length≤_;omega) (by show re.dom.length≤_;omega);rw [decide_eq_true rfl] at this;exact this
 have hQ:∀ X va' vc',Mod Nowhere w X→EL X va' vc' L→Calls Tryz.prog 80 #[.slice va' L.length vc',.slice va L.length vc] X fun e w'=>e = .returned (.bool true)∧Mod Nowhere X w':=fun X va' vc' hX he=>by
  have:=ZbZ he (hel.fresh hX) hinv hinv;rw [decide_eq_true rfl] at this;exact this
 have hLi:=fun X (hX:Mod Nowhere w X)=>Jm (hr.fresh hX);obtain ⟨fo,hfo⟩:∃ fo,ro.isSome = fo:=⟨_,rfl⟩;obtain ⟨ek,est,ebf,epr,epk,eob,eaid,edom⟩:=re;unfold eCells at hS;dsimp only at hS;clear hmem hro g1 g2 g3 g4 hinv;refine hid11 ?_ hr hel hm1 hB q1 q2 hS hQ hLi hre hfo;clear hr hel hm1 hB q1 q2 hS hQ hLi hre hfo;intro hr hel hm1 hB q1 q2 hS hQ hLi hre hfo;go_enter Tryz.func32,Tryz.ntmps32;go_wp2_with fail;refine q1.out.mono ?_;intro r w5 hp;obtain ⟨a1,c1,a2,c2,rfl,b5,d1,d2,hm5⟩:=hp.box hre.out;clear hp;rw [hfo.out];dsimp only at b5 d1 d2 hm5 ⊢;refine hid4 ?_ b5 d1 d2 hm5;clear b5 d1 d2 hm5;intro b5 d1 d2 hm5
 go_upto_region 2 with (fail)
 generalize hw6:w5.alloc (.cells #[.slice a1 eaid.length c1,.int .i64 ek,.int .i64 est,.int .i64 ebf,.int .i64 epr,.slice a2 edom.length c2,.int .i64 epk,.int .i64 eob] 24) = w6 at *;generalize hN1:w5.heap.size = N1 at *;clear hw6;have bS:=hB.out w6 hm5.out;have x0:=bS.cell 0;have xl:=bS.lt;simp only [gz0] at x0;have q:=q2.out w6 (hm1.out.trans hm5.out);refine hid2 ?_ q bS;clear q bS;intro q bS;go_wp2_with fail;refine q.out.mono ?_;intro r w7 hp;obtain ⟨a3,c3,a4,c4,rfl,b7,d3,d4,hm7⟩:=hp.box hre.out;clear hp;rw [hfo.out];dsimp only at b7 d3 d4 hm7 ⊢;have b5':=b5.out.mod hm7 id;have d1':=d1.out.fresh hm7
 have d2':=d2.out.fresh hm7;have hmx:=hm5.out.trans hm7;refine hid8 ?_ b7 d3 d4 hm7 b5' d1' d2' hmx;clear b7 d3 d4 hm7 b5' d1' d2' hmx;intro b7 d3 d4 hm7 b5' d1' d2' hmx
 go_upto_region 3 with (fail)
 generalize hw8:w7.alloc (.cells #[.slice a3 eaid.length c3,.int .i64 ek,.int .i64 est,.int .i64 ebf,.int .i64 epr,.slice a4 edom.length c4,.int .i64 epk,.int .i64 eob] 24) = w8 at *;generalize hN2:w7.heap.size = N2 at *;clear hw8 x0 xl;have hmw:=hm1.out.trans hmx.out
 have hF:∀ X,Mod Nowhere w8 X→X.cell? ⟨w.heap.size,0,none⟩ = some (.slice va L.length vc)∧X.cell? ⟨N1,0,none⟩ = some (.slice a1 eaid.length c1)∧X.cell? ⟨N1,1,none⟩ = some (.int .i64 ek)∧X.cell? ⟨N1,2,none⟩ = some (.int .i64 est)∧X.cell? ⟨N1,3,none⟩ = some (.int .i64 ebf)∧X.cell? ⟨N1,4,none⟩ = some (.int .i64 epr)∧X.cell? ⟨N1,5,none⟩ = some (.slice a2 edom.length c2)∧X.cell? ⟨N1,6,none⟩ = some (.int .i64 epk)∧X.cell? ⟨N1,7,none⟩ = some (.int .i64 eob)∧X.cell? ⟨N2,0,none⟩ = some (.slice a3 eaid.length c3)∧X.cell? ⟨N2,1,none⟩ = some (.int .i64 ek)∧X.cell? ⟨N2,2,none⟩ = some (.int .i64 est)∧X.cell? ⟨N2,3,none⟩ = some (.int .i64 ebf)∧X.cell? ⟨N2,4,none⟩ = some (.int .i64 epr)∧X.cell? ⟨N2,5,none⟩ = some (.slice a4 edom.length c4)∧X.cell? ⟨N2,6,none⟩ = some (.int .i64 epk)∧X.cell? ⟨N2,7,none⟩ = some (.int .i64 eob)∧w.heap.size < X.heap.size∧N1 < X.heap.size∧N2 < X.heap.size:=fun X hX=>by
  have z1:=b5'.out.mod hX id;have z2:=b7.out.mod hX id;have z3:=hB.out X (hmx.out.trans hX);exact ⟨z3.cell 0,z1.cell 0,z1.cell 1,z1.cell 2,z1.cell 3,z1.cell 4,z1.cell 5,z1.cell 6,z1.cell 7,z2.cell 0,z2.cell 1,z2.cell 2,z2.cell 3,z2.cell 4,z2.cell 5,z2.cell 6,z2.cell 7,z3.lt,z1.lt,z2.lt⟩
 obtain ⟨x0,v0,v1,v2,v3,v4,v5,v6,v7,y0,y1,y2,y3,y4,y5,y6,y7,xl,vl,yl⟩:=hF w8 (Mod.refl _ _);have hdr:=(Mod.refl Nowhere w8).drew;have hff:(fo == fo) = true:=by simp
 have hLi1:=hLi.out w8.drew (hmw.trans hdr);refine hid4 ?_ hmw hF hdr hLi1;clear hmw hF hdr hLi1;intro hmw hF hdr hLi1;go_wp2_with fail
 go_region_held3 (fun W=>W.cell? ⟨w.heap.size,0,none⟩ = some (.slice va L.length vc)∧W.cell? ⟨N1,0,none⟩ = some (.slice a1 eaid.length c1)∧W.cell? ⟨N1,1,none⟩ = some (.int .i64 ek)∧W.cell? ⟨N1,2,none⟩ = some (.int .i64 est)∧W.cell? ⟨N1,3,none⟩ = some (.int .i64 ebf)∧W.cell? ⟨N1,4,none⟩ = some (.int .i64 epr)∧W.cell? ⟨N1,5,none⟩ = some (.slice a2 edom.length c2)∧W.cell? ⟨N1,6,none⟩ = some (.int .i64 epk)∧W.cell? ⟨N1,7,none⟩ = some (.int .i64 eob)∧W.cell? ⟨N2,0,none⟩ = some (.slice a3 eaid.length c3)∧W.cell? ⟨N2,1,none⟩ = some (.int .i64 ek)∧W.cell? ⟨N2,2,none⟩ = some (.int .i64 est)∧W.cell? ⟨N2,3,none⟩ = some (.int .i64 ebf)∧W.cell? ⟨N2,4,none⟩ = some (.int .i64 epr)∧W.cell? ⟨N2,5,none⟩ = some (.slice a4 edom.length c4)∧W.cell? ⟨N2,6,none⟩ = some (.int .i64 epk)∧W.cell? ⟨N2,7,none⟩ = some (.int .i64 eob)) (simp [*,World.cell?_alloc_some,World.cell?_setCell_far,World.cell?_setCell_other])
  (first
  | (go_at_call 24;(with_reducible refine hLi1.out.mono ?_);rintro e w9 hp;obtain ⟨la,lc,rfl,hl9,hm9⟩:=EPost.el hp;clear hp;have hmA:=hdr.out.trans hm9;obtain ⟨z1_0,z1_1,z1_2,z1_3,z1_4,z1_5,z1_6,z1_7,z1_8,z1_9,z1_10,z1_11,z1_12,z1_13,z1_14,z1_15,z1_16,z1_17,z1_18,z1_19⟩:=hF.out w9 hmA;replace hmA:=Lib.hid hmA;replace hl9:=Lib.hid hl9;clear hm9)
  | (go_at_call 80;(with_reducible refine (hQ.out _ _ _ (hmw.out.trans hmA.out) hl9.out).mono ?_);rintro e w10 ⟨rfl,hm10⟩;have hmB:=hmA.out.trans hm10;obtain ⟨z2_0,z2_1,z2_2,z2_3,z2_4,z2_5,z2_6,z2_7,z2_8,z2_9,z2_10,z2_11,z2_12,z2_13,z2_14,z2_15,z2_16,z2_17,z2_18,z2_19⟩:=hF.out w10 hmB;replace hmB:=Lib.hid hmB;clear hm10)
  | (go_at_call 14;(with_reducible refine (hS.out _ _ _ _ _ (d1'.out.fresh hmB.out) (d2'.out.fresh hmB.out) (d3.out.fresh hmB.out) (d4.out.fresh hmB.out)).mono ?_);rintro e w11 ⟨rfl,hm11⟩;have hmC:=hmB.out.trans hm11;obtain ⟨z3_0,z3_1,z3_2,z3_3,z3_4,z3_5,z3_6,z3_7,z3_8,z3_9,z3_10,z3_11,z3_12,z3_13,z3_14,z3_15,z3_16,z3_17,z3_18,z3_19⟩:=hF.out w11 hmC;replace hmC:=Lib.hid hmC;clear hm11)
  | fail)
 all_goals go_wp2
 all_goals go_ret
 all_goals exact ⟨rfl,hmw.out.trans hmC.out⟩
end Go.Proofs.YthmahbfmfpjjcaaGreat
