/-
  The laws of chapter 21: a call of the vault or of the PINs.
-/
import Derived.Test.YtjanpegbemepgaaGreatTG44
set_option linter.unusedVariables false
set_option linter.unusedSimpArgs false
set_option maxRecDepth 100000
namespace Go.Proofs.YtjanpegbemepgaaGreat
open Go.RowKit
open Jn Vn
attribute [local go_sem] Oper.semAt_some
def PGa (D:Items→Prop) (w:World) (A:VAt) (m:Mem) (s':VSt) (left er n:Nat) (e:Ending) (w':World):Prop :=
 (∃ m' k,e = .returned (.agg #[.int .i64 left,errno er])∧VRep w' A m' s'∧k≤n∧Runs m m' k∧Mod A.S w w') ∨
 (∃ m' f,e = .returned (.agg #[.int .i64 0,errno 7])∧D f∧PGone w' A m' f∧Stopped m m' n∧Mod A.S w w')
theorem boxes3 (w:World) (l0 l1 l2:List Value) (T0 T1 T2:TypeId) :
  ∃ W,((w.alloc (.cells l0.toArray T0)).alloc (.cells l1.toArray T1)).alloc (.cells l2.toArray T2) = W∧Blk W w.heap.size l0 T0∧Blk W (w.heap.size + 1) l1 T1∧Blk W (w.heap.size + 1 + 1) l2 T2∧Mod Nowhere w W∧W.heap.size = w.heap.size + 1 + 1 + 1:=by
 obtain ⟨b0,b1,hm⟩:=boxes2 w l0 l1 T0 T1;have z:((w.alloc (.cells l0.toArray T0)).alloc (.cells l1.toArray T1)).heap.size = w.heap.size + 1 + 1:=by simp
 have b2:=Blk.new ((w.alloc (.cells l0.toArray T0)).alloc (.cells l1.toArray T1)) l2 T2;rw [z] at b2;exact ⟨_,rfl,b0.alloc _,b1.alloc _,b2,hm.alloc _,by simp⟩
def put2 (W:World) (B:Nat) (c0 c1:Value):World:=(W.setCell ⟨B,0,none⟩ c0).setCell ⟨B,1,none⟩ c1
theorem blk2 {W:World} {B:Nat} {T:TypeId} {o0 o1:Value} (hb:Blk W B [o0,o1] T) (c0 c1:Value):Blk (put2 W B c0 c1) B [c0,c1] T∧Mod (fun j=>j = B) W (put2 W B c0 c1) :=
 ⟨(hb.setCell 0 c0).setCell 1 c1,((Mod.refl (fun j=>j = B) W).setCell (p:=⟨B,0,none⟩) (fun _=>rfl) c0).setCell (p:=⟨B,1,none⟩) (fun _=>rfl) c1⟩
theorem ret_ans {fn:Func} {p:Tmp} (h:fn.results = #[.cell p 52]) (tmps:Array Value) (w:World) (b:Nat) (c0 c1:Value) (hp:tmps.getD p undef = ptr b) (hb:Blk w b [c0,c1] 52) :
  (results fn tmps).run Tryz.prog w = .ok (.agg #[c0,c1]) w:=by
 have hp':tmps[p]?.getD undef = ptr b:=by simpa using hp
 have k0:=hb.cell 0;have k1:=hb.cell 1;simp only [List.getElem?_cons_zero,List.getElem?_cons_succ] at k0 k1;simp only [results,h];simp [Sem.run_bind,Result.andThen,hp']
 go_simp
theorem PGe.modS {D:Items→Prop} {w w':World} {A:VAt} {m:Mem} {s':VSt} {er n:Nat} {e:Ending} (h:PGe D w A m s' er n e w'):Mod A.S w w':=by
 rcases h with ⟨_,_,_,_,_,_,g⟩ | ⟨_,_,_,_,_,_,g⟩ <;> exact g
theorem VSure.ge {D:Items→Prop} {w w':World} {A:VAt} {m:Mem} {s s':VSt} {er n:Nat} {e:Ending} (h:VSure w A m s s' er 0 e w'):PGe D w A m s' er n e w':=by
 obtain ⟨e1,hv,hm⟩:=h;exact .inl ⟨m,0,e1,hv,Nat.zero_le _,by obtain ⟨P,p,pc,J,bank,end_,ib,lv,xs,hV⟩:=hv.ex;exact hV.jr.runs,hm⟩
section
variable {D : Items → Prop} {w W w2 : World} {A : VAt} {m : Mem} {s' : VSt} {left er n B : Nat} {e : Ending} {x y : Value}
theorem keep_ans {s:VSt} (h:VRep w2 A m s) (hb:Blk w2 B [x,y] 52) (a b:Value):VRep (put2 w2 B a b) A m s:=h.keepB (blk2 hb a b).2 hb (by decide)
theorem gone_ans {f:Items} (h:PGone w2 A m f) (hb:Blk w2 B [x,y] 52) (hn:¬ A.S B) (a b:Value):PGone (put2 w2 B a b) A m f:=h.keep (blk2 hb a b).2 hb (by decide) hn
theorem mod_ans (hm:Mod Nowhere w W) (h:Mod A.S W w2) (hb:Blk w2 B [x,y] 52) (hB:w.heap.size≤B) (a b:Value):Mod A.S w (put2 w2 B a b) :=
 (hm.nowhere.trans h).step (blk2 hb a b).2 fun i hi e=>by have e:i = B:=e;omega
theorem PGd.ans (h:PGd D W A m s' left er n e w2) (hm:Mod Nowhere w W) (hb:Blk w2 B [x,y] 52) (hn:¬ A.S B) (hB:w.heap.size≤B) :
  ∃ i j:Int,e = .returned (.tuple #[.int .i64 i,errno j])∧Blk (put2 w2 B (.int .i64 i) (errno j)) B [.int .i64 i,errno j] 52∧PGa D w A m s' left er n (.returned (.agg #[.int .i64 i,errno j])) (put2 w2 B (.int .i64 i) (errno j)):=by
 rcases h with ⟨m',k,a1,b1,c,d,f⟩ | ⟨m',g,a1,b1,c,d,f⟩
 ·exact ⟨_,_,a1,(blk2 hb _ _).1,.inl ⟨m',k,rfl,keep_ans b1 hb _ _,c,d,mod_ans hm f hb hB _ _⟩⟩
 ·exact ⟨_,_,a1,(blk2 hb _ _).1,.inr ⟨m',g,rfl,b1,gone_ans c hb hn _ _,d,mod_ans hm f hb hB _ _⟩⟩
theorem PGe.ans (h:PGe D W A m s' er n e w2) (hm:Mod Nowhere w W) (hb:Blk w2 B [x,y] 52) (hn:¬ A.S B) (hB:w.heap.size≤B) :
  ∃ j:Int,e = .returned (errno j)∧Blk (put2 w2 B (.int .i64 0) (errno j)) B [.int .i64 0,errno j] 52∧PGa D w A m s' 0 er n (.returned (.agg #[.int .i64 0,errno j])) (put2 w2 B (.int .i64 0) (errno j)):=by
 rcases h with ⟨m',k,a1,b1,c,d,f⟩ | ⟨m',g,a1,b1,c,d,f⟩
 ·exact ⟨_,a1,(blk2 hb _ _).1,.inl ⟨m',k,rfl,keep_ans b1 hb _ _,c,d,mod_ans hm f hb hB _ _⟩⟩
 ·exact ⟨_,a1,(blk2 hb _ _).1,.inr ⟨m',g,rfl,b1,gone_ans c hb hn _ _,d,mod_ans hm f hb hB _ _⟩⟩
theorem PGa.modS (h:PGa D w A m s' left er n e w2):Mod A.S w w2:=by
 rcases h with ⟨_,_,_,_,_,_,g⟩ | ⟨_,_,_,_,_,_,g⟩ <;> exact g
theorem PGa.form (h:PGa D w A m s' left er n e w2):∃ i j:Int,e = .returned (.agg #[.int .i64 i,errno j]):=by
 rcases h with ⟨_,_,e,_⟩ | ⟨_,_,e,_⟩ <;> exact ⟨_,_,e⟩
end
theorem pGd_lift {D D':Items→Prop} {w w':World} {A:VAt} {m:Mem} {s':VSt} {left er a b:Nat} {e:Ending} (h:PGd D w A m s' left er a e w') (hD:∀ f,D f→D' f) (hn:a≤b):PGd D' w A m s' left er b e w':=h.of hD hn (Mod.refl _ _)
theorem PGe.lift {D D':Items→Prop} {w w':World} {A:VAt} {m:Mem} {s':VSt} {er a b:Nat} {e:Ending} (h:PGe D w A m s' er a e w') (hD:∀ f,D f→D' f) (hn:a≤b):PGe D' w A m s' er b e w':=by
 rcases h with ⟨m',k,a1,b1,c,d,f⟩ | ⟨m',g,a1,b1,c,d,f⟩
 ·exact .inl ⟨m',k,a1,b1,Nat.le_trans c hn,d,f⟩
 ·exact .inr ⟨m',g,a1,hD _ b1,c,d.mono hn,f⟩
theorem mid_or {a b:Items}:∀ f:Items,(f = a ∨ f = b)→f ∈ [a,b]:=fun f h=>by rcases h with rfl | rfl <;> simp
def cost5 (A:VAt):Nat:=vcost A + vcost A + (vcost A + vcost A + vcost A)
theorem cost5_3 (A:VAt):vcost A + vcost A + vcost A≤cost5 A:=by unfold cost5;omega
theorem cost5_2 (A:VAt):vcost A + vcost A≤cost5 A:=by unfold cost5;omega
theorem cost5_1 (A:VAt):vcost A≤cost5 A:=by unfold cost5;omega
set_option maxHeartbeats 16000000 in
theorem call21_ok {w:World} {pb:Nat} {A:VAt} {m:Mem} {s:VSt} (hp:PnAt w pb A.vb) (h:VRep w A m s) (hxn:s.l.length≤90000) (hS:PS s) (hZ:1800≤A.Z / 2) (hA:A.count + 2≤A.frames) {x:Pop} (hx:PopAt w x) (hsa:SrcS A w x.av x.a) (hsb:SrcS A w x.bv x.b) (hs1:SrcS A w x.d.vv x.d.v) (hs2:SrcS A w x.d.uv x.d.u) (hrm:Room m (cost5 A)) (mb:Nat) :
  Calls Tryz.prog 19 #[.agg #[ptr mb,ptr A.vb,ptr pb],.agg x.cells.toArray] w (PGa (midIn (pOp A.Z s x)) w A m (pOp A.Z s x).s (pOp A.Z s x).left (pOp A.Z s x).e (cost5 A)):=by
 obtain ⟨G,hG⟩:∃ G,pOp A.Z s x = G:=⟨_,rfl⟩;rw [hG];have hd:=hx.d;have hba:=hx.ba;have hbb:=hx.bb;have hid:=hx.id;clear hx;obtain ⟨op,id,⟨did,vv,v,li,lo,hi,uv,u,cl⟩,av,a,bv,b⟩:=x;dsimp only at hsa hsb hs1 hs2 hba hbb hid hd;have hF:=hd.pok;have hok:Pin7.ok ⟨did,vv,v,li,lo,hi,uv,u,cl⟩ = pinValidB did v.length li lo hi u.length cl:=rfl;have hlt:=h.lt;have hsa0:=hsa;have hsb0:=hsb;have hs10:=hs1;have hs20:=hs2;obtain ⟨aa,ac,rfl,-,-,-⟩:=hsa.src;obtain ⟨ba,bc,rfl,-,-,-⟩:=hsb.src;obtain ⟨va,vc,rfl,-,-,-⟩:=hs1.src;obtain ⟨ua,uc,rfl,-,-,-⟩:=hs2.src;obtain ⟨W,hW,b0,b1,b2,hmW,hzW⟩:=boxes3 w [ptr mb,ptr A.vb,ptr pb] [.int .i64 op,.int .i64 id,.int .i64 did,.slice va v.length vc,.int .i64 li,.int .i64 lo,.int .i64 hi,.slice ua u.length uc,.int .i64 cl,.slice aa a.length ac,.slice ba b.length bc] [.int .i64 0,errno 0] 28 37 52
 have hpW:=hp.fresh hmW;have hW':=h.fresh hmW;have nB:¬ A.S (w.heap.size + 1 + 1):=fun e=>by have:=hlt _ e;omega
 have hBw:w.heap.size≤w.heap.size + 1 + 1:=by omega
 have hmS:Mod A.S w W:=hmW.nowhere;have k1:=b0.cell 1;have k2:=b0.cell 2;have p0:=b1.cell 0;have p1:=b1.cell 1;have p2:=b1.cell 2;have p3:=b1.cell 3;have p4:=b1.cell 4;have p5:=b1.cell 5;have p6:=b1.cell 6;have p7:=b1.cell 7;have p8:=b1.cell 8;have p9:=b1.cell 9;have p10:=b1.cell 10;simp only [List.getElem?_cons_zero,List.getElem?_cons_succ] at k1 k2 p0 p1 p2 p3 p4 p5 p6 p7 p8 p9 p10;have kl:=b0.lt;have pl:=b1.lt;have ql:=b2.lt;have qf:=b2.frozen;refine hid12 ?_ hp h hxn hS hZ hA hsa hsb hs1 hs2 hsa0 hsb0;clear hp h hxn hS hZ hA hsa hsb hs1 hs2 hsa0 hsb0;intro hp h hxn hS hZ hA hsa hsb hs1 hs2 hsa0 hsb0;refine hid12 ?_ hs10 hs20 hba hbb hid hd hF hok hrm hG b0 b1;clear hs10 hs20 hba hbb hid hd hF hok hrm hG b0 b1;intro hs10 hs20 hba hbb hid hd hF hok hrm hG b0 b1
 refine hid9 ?_ b2 hmW hzW hpW hW' nB hBw hmS hlt;clear b2 hmW hzW hpW hW' nB hBw hmS hlt;intro b2 hmW hzW hpW hW' nB hBw hmS hlt;unfold Pop.cells Pin7.cells;by_cases h0:op = 0
 ·subst h0;by_cases hv:pinValidB did v.length li lo hi u.length cl = true
  ·have hv':Pin7.ok ⟨did,.slice va v.length vc,v,li,lo,hi,.slice ua u.length uc,u,cl⟩ = true:=hv;obtain ⟨hok1,e1,e2,e3,e4,e5⟩:=hF.out hv';dsimp only at e1 e2 e3 e4 e5;obtain ⟨d,hd0⟩:∃ d,Pin7.pd ⟨did,.slice va v.length vc,v,li,lo,hi,.slice ua u.length uc,u,cl⟩ = d:=⟨_,rfl⟩;have hG1:G = ⟨(pCreate A.Z s d true).1,0,(pCreate A.Z s d true).2,[s.f,(pCreate A.Z s d true).1.f]⟩:=by rw [← hG.out,← hd0];unfold pOp;rw [if_pos rfl,if_pos hv']
   have hC:=pinCreate_ok (d:=d) (by rw [← hd0];exact hok1) (u1:=.slice va v.length vc) (u2:=.slice ua u.length uc) (by rw [← hd0];exact hs10.out.mod hmS.out) (by rw [← hd0];exact hs20.out.mod hmS.out) hpW.out hW'.out hxn.out hS.out (hrm.out.mono (cost5_3 A));have hpv:pinV d (.slice va v.length vc) (.slice ua u.length uc) = .agg #[.int .i64 did,.slice va v.length vc,.int .i64 li,.int .i64 lo,.int .i64 hi,.slice ua u.length uc,.int .i64 cl]:=by rw [← hd0];unfold pinV Pin7.pd;dsimp only;rw [e1,e2,e3,e4,e5]
   rw [hpv] at hC;clear hpv hd0 e1 e2 e3 e4 e5 hv hv' hok1;refine hid2 ?_ hC hG1;clear hC hG1;intro hC hG1;go_enter Tryz.func19,Tryz.ntmps19;go_wp2_with fail;refine hC.out.mono ?_;rintro e w2 hc0;have hc:=PGe.lift (D':=midIn G) (b:=cost5 A) hc0 (fun f hf=>by show f ∈ G.mid;rw [hG1.out];exact mid_or f hf) (cost5_3 A);clear hc0;obtain ⟨j,rfl,hb3,hfin⟩:=hc.ans hmW.out (b2.out.mod hc.modS nB.out) nB.out hBw.out;have y2:=b2.out.mod hc.modS nB.out;have yl:=y2.lt;have yf:=y2.frozen;have y0:=y2.cell 0;have y1:=y2.cell 1;simp only [List.getElem?_cons_zero,List.getElem?_cons_succ] at y0 y1
   clear hc;unfold put2 at hb3 hfin;refine hid3 ?_ hb3 hfin y2;clear hb3 hfin y2;intro hb3 hfin y2;go_wp2;refine bodyPost_ret (ret_ans rfl _ _ (w.heap.size + 1 + 1) _ _ rfl hb3.out) rfl ?_;have hz:=hfin.out;rw [hG1.out] at hz ⊢;exact hz
  ·have hvf:pinValidB did v.length li lo hi u.length cl = false:=by simpa using hv
   have hG1:G = ⟨s,0,1,[s.f]⟩:=by rw [← hG.out];unfold pOp;rw [if_pos rfl,if_neg (show ¬ Pin7.ok ⟨did,.slice va v.length vc,v,li,lo,hi,.slice ua u.length uc,u,cl⟩ = true from hv)]
   have hC:=pinCreate_bad hpW.out hW'.out did va v.length vc li lo hi ua u.length uc cl hvf (cost5 A);clear hv hvf;refine hid2 ?_ hC hG1;clear hC hG1;intro hC hG1;go_enter Tryz.func19,Tryz.ntmps19;go_wp2_with fail;refine hC.out.mono ?_;rintro e w2 hc0;have hc:=PGe.lift (D':=midIn G) (b:=cost5 A) hc0 (fun f hf=>by show f ∈ G.mid;rw [hG1.out,hf];simp) (Nat.le_refl _);clear hc0;obtain ⟨j,rfl,hb3,hfin⟩:=hc.ans hmW.out (b2.out.mod hc.modS nB.out) nB.out hBw.out;have y2:=b2.out.mod hc.modS nB.out;have yl:=y2.lt;have yf:=y2.frozen;have y0:=y2.cell 0;have y1:=y2.cell 1;simp only [List.getElem?_cons_zero,List.getElem?_cons_succ] at y0 y1
   clear hc;unfold put2 at hb3 hfin;refine hid3 ?_ hb3 hfin y2;clear hb3 hfin y2;intro hb3 hfin y2;go_wp2;refine bodyPost_ret (ret_ans rfl _ _ (w.heap.size + 1 + 1) _ _ rfl hb3.out) rfl ?_;have hz:=hfin.out;rw [hG1.out] at hz ⊢;exact hz
 have q0:(op == 0) = false:=by simpa using h0
 by_cases h1:op = 1
 ·subst h1;have hG1:G = ⟨(pDelI A.Z s id).1,0,(pDelI A.Z s id).2,[s.f,(pDelI A.Z s id).1.f]⟩:=by rw [← hG.out];unfold pOp;rw [if_neg (show ¬ (1:Int) = 0 by decide),if_pos rfl]
  have hC:=pinDelete_ok hpW.out hW'.out hxn.out hS.out id hid.out.1 hid.out.2 (hrm.out.mono (cost5_3 A));refine hid2 ?_ hC hG1;clear hC hG1;intro hC hG1;go_enter Tryz.func19,Tryz.ntmps19;go_wp2_with fail;refine hC.out.mono ?_;rintro e w2 hc0;have hc:=PGe.lift (D':=midIn G) (b:=cost5 A) hc0 (fun f hf=>by show f ∈ G.mid;rw [hG1.out];exact mid_or f hf) (cost5_3 A);clear hc0;obtain ⟨j,rfl,hb3,hfin⟩:=hc.ans hmW.out (b2.out.mod hc.modS nB.out) nB.out hBw.out;have y2:=b2.out.mod hc.modS nB.out;have yl:=y2.lt;have yf:=y2.frozen;have y0:=y2.cell 0;have y1:=y2.cell 1;simp only [List.getElem?_cons_zero,List.getElem?_cons_succ] at y0 y1
  clear hc;unfold put2 at hb3 hfin;refine hid3 ?_ hb3 hfin y2;clear hb3 hfin y2;intro hb3 hfin y2;go_wp2;refine bodyPost_ret (ret_ans rfl _ _ (w.heap.size + 1 + 1) _ _ rfl hb3.out) rfl ?_;have hz:=hfin.out;rw [hG1.out] at hz ⊢;exact hz
 have q1:(op == 1) = false:=by simpa using h1
 by_cases h2:op = 2
 ·subst h2;have hG1:G = pVer A.Z s id a:=by rw [← hG.out];unfold pOp;rw [if_neg (show ¬ (2:Int) = 0 by decide),if_neg (show ¬ (2:Int) = 1 by decide),if_pos rfl]
  have hC:=pinVerify_ok hpW.out hW'.out hxn.out hS.out hZ.out hA.out id hid.out.1 hid.out.2 (hsa0.out.mod hmS.out) hba.out (hrm.out.mono (cost5_2 A));refine hid2 ?_ hC hG1;clear hC hG1;intro hC hG1;go_enter Tryz.func19,Tryz.ntmps19;go_wp2_with fail;refine hC.out.mono ?_;rintro e w2 hc0;have hc:=pGd_lift (D':=midIn G) (b:=cost5 A) hc0 (fun f hf=>by show f ∈ G.mid;rw [hG1.out];exact hf) (cost5_2 A);clear hc0;obtain ⟨i,j,rfl,hb3,hfin⟩:=hc.ans hmW.out (b2.out.mod hc.modS nB.out) nB.out hBw.out;have y2:=b2.out.mod hc.modS nB.out;have yl:=y2.lt;have yf:=y2.frozen;have y0:=y2.cell 0;have y1:=y2.cell 1
  simp only [List.getElem?_cons_zero,List.getElem?_cons_succ] at y0 y1;clear hc;unfold put2 at hb3 hfin;refine hid3 ?_ hb3 hfin y2;clear hb3 hfin y2;intro hb3 hfin y2;go_wp2;refine bodyPost_ret (ret_ans rfl _ _ (w.heap.size + 1 + 1) _ _ rfl hb3.out) rfl ?_;have hz:=hfin.out;rw [hG1.out] at hz ⊢;exact hz
 have q2:(op == 2) = false:=by simpa using h2
 by_cases h3:op = 3
 ·subst h3;have hG1:G = pChg A.Z s id a b:=by rw [← hG.out];unfold pOp;rw [if_neg (show ¬ (3:Int) = 0 by decide),if_neg (show ¬ (3:Int) = 1 by decide),if_neg (show ¬ (3:Int) = 2 by decide),if_pos rfl]
  have hC:=pinChange_ok hpW.out hW'.out hxn.out hS.out hZ.out hA.out id hid.out.1 hid.out.2 (hsa0.out.mod hmS.out) (hsb0.out.mod hmS.out) hba.out hbb.out hrm.out;refine hid2 ?_ hC hG1;clear hC hG1;intro hC hG1;go_enter Tryz.func19,Tryz.ntmps19;go_wp2_with fail;refine hC.out.mono ?_;rintro e w2 hc0;have hc:=pGd_lift (D':=midIn G) (b:=cost5 A) hc0 (fun f hf=>by show f ∈ G.mid;rw [hG1.out];exact hf) (Nat.le_refl _);clear hc0;obtain ⟨i,j,rfl,hb3,hfin⟩:=hc.ans hmW.out (b2.out.mod hc.modS nB.out) nB.out hBw.out;have y2:=b2.out.mod hc.modS nB.out;have yl:=y2.lt;have yf:=y2.frozen;have y0:=y2.cell 0
  have y1:=y2.cell 1;simp only [List.getElem?_cons_zero,List.getElem?_cons_succ] at y0 y1;clear hc;unfold put2 at hb3 hfin;refine hid3 ?_ hb3 hfin y2;clear hb3 hfin y2;intro hb3 hfin y2;go_wp2;refine bodyPost_ret (ret_ans rfl _ _ (w.heap.size + 1 + 1) _ _ rfl hb3.out) rfl ?_;have hz:=hfin.out;rw [hG1.out] at hz ⊢;exact hz
 have q3:(op == 3) = false:=by simpa using h3
 by_cases h4:op = 4
 ·subst h4;have hG1:G = pUnb A.Z s id a b:=by rw [← hG.out];unfold pOp;rw [if_neg (show ¬ (4:Int) = 0 by decide),if_neg (show ¬ (4:Int) = 1 by decide),if_neg (show ¬ (4:Int) = 2 by decide),if_neg (show ¬ (4:Int) = 3 by decide),if_pos rfl]
  have hC:=pinUnblock_ok hpW.out hW'.out hxn.out hS.out hZ.out hA.out id hid.out.1 hid.out.2 (hsa0.out.mod hmS.out) (hsb0.out.mod hmS.out) hba.out hbb.out hrm.out;refine hid2 ?_ hC hG1;clear hC hG1;intro hC hG1;go_enter Tryz.func19,Tryz.ntmps19;go_wp2_with fail;refine hC.out.mono ?_;rintro e w2 hc0;have hc:=pGd_lift (D':=midIn G) (b:=cost5 A) hc0 (fun f hf=>by show f ∈ G.mid;rw [hG1.out];exact hf) (Nat.le_refl _);clear hc0;obtain ⟨i,j,rfl,hb3,hfin⟩:=hc.ans hmW.out (b2.out.mod hc.modS nB.out) nB.out hBw.out;have y2:=b2.out.mod hc.modS nB.out;have yl:=y2.lt;have yf:=y2.frozen;have y0:=y2.cell 0
  have y1:=y2.cell 1;simp only [List.getElem?_cons_zero,List.getElem?_cons_succ] at y0 y1;clear hc;unfold put2 at hb3 hfin;refine hid3 ?_ hb3 hfin y2;clear hb3 hfin y2;intro hb3 hfin y2;go_wp2;refine bodyPost_ret (ret_ans rfl _ _ (w.heap.size + 1 + 1) _ _ rfl hb3.out) rfl ?_;have hz:=hfin.out;rw [hG1.out] at hz ⊢;exact hz
 have q4:(op == 4) = false:=by simpa using h4
 by_cases h5:op = 5
 ·subst h5;have hG1:G = ⟨(pSet A.Z s id a).1,0,(pSet A.Z s id a).2,[s.f,(pSet A.Z s id a).1.f]⟩:=by rw [← hG.out];unfold pOp;rw [if_neg (show ¬ (5:Int) = 0 by decide),if_neg (show ¬ (5:Int) = 1 by decide),if_neg (show ¬ (5:Int) = 2 by decide),if_neg (show ¬ (5:Int) = 3 by decide),if_neg (show ¬ (5:Int) = 4 by decide),if_pos rfl]
  have hC:=pinSet_ok hpW.out hW'.out hxn.out hS.out hZ.out hA.out id hid.out.1 hid.out.2 (hsa0.out.mod hmS.out) hba.out (hrm.out.mono (cost5_3 A));refine hid2 ?_ hC hG1;clear hC hG1;intro hC hG1;go_enter Tryz.func19,Tryz.ntmps19;go_wp2_with fail;refine hC.out.mono ?_;rintro e w2 hc0;have hc:=PGe.lift (D':=midIn G) (b:=cost5 A) hc0 (fun f hf=>by show f ∈ G.mid;rw [hG1.out];exact mid_or f hf) (cost5_3 A);clear hc0;obtain ⟨j,rfl,hb3,hfin⟩:=hc.ans hmW.out (b2.out.mod hc.modS nB.out) nB.out hBw.out;have y2:=b2.out.mod hc.modS nB.out;have yl:=y2.lt;have yf:=y2.frozen;have y0:=y2.cell 0;have y1:=y2.cell 1
  simp only [List.getElem?_cons_zero,List.getElem?_cons_succ] at y0 y1;clear hc;unfold put2 at hb3 hfin;refine hid3 ?_ hb3 hfin y2;clear hb3 hfin y2;intro hb3 hfin y2;go_wp2;refine bodyPost_ret (ret_ans rfl _ _ (w.heap.size + 1 + 1) _ _ rfl hb3.out) rfl ?_;have hz:=hfin.out;rw [hG1.out] at hz ⊢;exact hz
 have q5:(op == 5) = false:=by simpa using h5
 by_cases h6:op = 6
 ·subst h6;have hG1:G = ⟨(vBegin s).1,0,(vBegin s).2,[]⟩:=by rw [← hG.out];unfold pOp;rw [if_neg (show ¬ (6:Int) = 0 by decide),if_neg (show ¬ (6:Int) = 1 by decide),if_neg (show ¬ (6:Int) = 2 by decide),if_neg (show ¬ (6:Int) = 3 by decide),if_neg (show ¬ (6:Int) = 4 by decide),if_neg (show ¬ (6:Int) = 5 by decide),if_pos rfl]
  have hC:=vBegin_is hW'.out;refine hid2 ?_ hC hG1;clear hC hG1;intro hC hG1;go_enter Tryz.func19,Tryz.ntmps19;go_wp2_with fail;refine hC.out.mono ?_;rintro e w2 hc0;have hc:=hc0.ge (D:=midIn G) (n:=cost5 A);clear hc0;obtain ⟨j,rfl,hb3,hfin⟩:=hc.ans hmW.out (b2.out.mod hc.modS nB.out) nB.out hBw.out;have y2:=b2.out.mod hc.modS nB.out;have yl:=y2.lt;have yf:=y2.frozen;have y0:=y2.cell 0;have y1:=y2.cell 1;simp only [List.getElem?_cons_zero,List.getElem?_cons_succ] at y0 y1;clear hc;unfold put2 at hb3 hfin;refine hid3 ?_ hb3 hfin y2;clear hb3 hfin y2;intro hb3 hfin y2
  go_wp2;refine bodyPost_ret (ret_ans rfl _ _ (w.heap.size + 1 + 1) _ _ rfl hb3.out) rfl ?_;have hz:=hfin.out;rw [hG1.out] at hz ⊢;exact hz
 have q6:(op == 6) = false:=by simpa using h6
 by_cases h7:op = 7
 ·subst h7;have hG1:G = ⟨(vCommit A.Z s).1,0,(vCommit A.Z s).2,[s.f,(vCommit A.Z s).1.f]⟩:=by rw [← hG.out];unfold pOp;rw [if_neg (show ¬ (7:Int) = 0 by decide),if_neg (show ¬ (7:Int) = 1 by decide),if_neg (show ¬ (7:Int) = 2 by decide),if_neg (show ¬ (7:Int) = 3 by decide),if_neg (show ¬ (7:Int) = 4 by decide),if_neg (show ¬ (7:Int) = 5 by decide),if_neg (show ¬ (7:Int) = 6 by decide),if_pos rfl]
  have hC:=vCommit_ok hW'.out (Nat.le_trans hxn.out (by decide)) (hrm.out.mono (cost5_1 A));refine hid2 ?_ hC hG1;clear hC hG1;intro hC hG1;go_enter Tryz.func19,Tryz.ntmps19;go_wp2_with fail;refine hC.out.mono ?_;rintro e w2 hc0;have hc:=(PC.ge (VCall.pc hc0) (fun f hf=>by show f ∈ G.mid;rw [hG1.out];exact mid_or f hf) (cost5_1 A) (Mod.refl _ _):PGe (midIn G) W A m _ _ (cost5 A) _ _);clear hc0;obtain ⟨j,rfl,hb3,hfin⟩:=hc.ans hmW.out (b2.out.mod hc.modS nB.out) nB.out hBw.out;have y2:=b2.out.mod hc.modS nB.out;have yl:=y2.lt;have yf:=y2.frozen;have y0:=y2.cell 0;have y1:=y2.cell 1;simp only [List.getElem?_cons_zero,List.getElem?_cons_succ] at y0 y1
  clear hc;unfold put2 at hb3 hfin;refine hid3 ?_ hb3 hfin y2;clear hb3 hfin y2;intro hb3 hfin y2;go_wp2;refine bodyPost_ret (ret_ans rfl _ _ (w.heap.size + 1 + 1) _ _ rfl hb3.out) rfl ?_;have hz:=hfin.out;rw [hG1.out] at hz ⊢;exact hz
 have q7:(op == 7) = false:=by simpa using h7
 by_cases h8:op = 8
 ·subst h8;have hG1:G = ⟨(vAbort s).1,0,(vAbort s).2,[]⟩:=by rw [← hG.out];unfold pOp;rw [if_neg (show ¬ (8:Int) = 0 by decide),if_neg (show ¬ (8:Int) = 1 by decide),if_neg (show ¬ (8:Int) = 2 by decide),if_neg (show ¬ (8:Int) = 3 by decide),if_neg (show ¬ (8:Int) = 4 by decide),if_neg (show ¬ (8:Int) = 5 by decide),if_neg (show ¬ (8:Int) = 6 by decide),if_neg (show ¬ (8:Int) = 7 by decide),if_pos rfl]
  have hC:=vAbort_is hW'.out;refine hid2 ?_ hC hG1;clear hC hG1;intro hC hG1;go_enter Tryz.func19,Tryz.ntmps19;go_wp2_with fail;refine hC.out.mono ?_;rintro e w2 hc0;have hc:=hc0.ge (D:=midIn G) (n:=cost5 A);clear hc0;obtain ⟨j,rfl,hb3,hfin⟩:=hc.ans hmW.out (b2.out.mod hc.modS nB.out) nB.out hBw.out;have y2:=b2.out.mod hc.modS nB.out;have yl:=y2.lt;have yf:=y2.frozen;have y0:=y2.cell 0;have y1:=y2.cell 1;simp only [List.getElem?_cons_zero,List.getElem?_cons_succ] at y0 y1;clear hc;unfold put2 at hb3 hfin;refine hid3 ?_ hb3 hfin y2;clear hb3 hfin y2;intro hb3 hfin y2
  go_wp2;refine bodyPost_ret (ret_ans rfl _ _ (w.heap.size + 1 + 1) _ _ rfl hb3.out) rfl ?_;have hz:=hfin.out;rw [hG1.out] at hz ⊢;exact hz
 have q8:(op == 8) = false:=by simpa using h8
 have hG1:G = ⟨s,0,0,[]⟩:=by rw [← hG.out];unfold pOp;rw [if_neg h0,if_neg h1,if_neg h2,if_neg h3,if_neg h4,if_neg h5,if_neg h6,if_neg h7,if_neg h8]
 clear h0 h1 h2 h3 h4 h5 h6 h7 h8;have hc:PGe (midIn G) W A m s 0 (cost5 A) (.returned (errno 0)) W:=PGe.same hW'.out (Mod.refl _ _);obtain ⟨j,hj,hb3,hfin⟩:=hc.ans hmW.out b2.out nB.out hBw.out;obtain rfl:j = 0:=by have:=errno_inj hj;simpa using this.symm
 unfold put2 at hb3 hfin;clear hc hj;have y0:=b2.out.cell 0;have y1:=b2.out.cell 1;simp only [List.getElem?_cons_zero,List.getElem?_cons_succ] at y0 y1;refine hid3 ?_ hb3 hfin hG1;clear hb3 hfin hG1;intro hb3 hfin hG1;go_enter Tryz.func19,Tryz.ntmps19;go_wp2;refine bodyPost_ret (ret_ans rfl _ _ (w.heap.size + 1 + 1) _ _ rfl hb3.out) rfl ?_;have hz:=hfin.out;rw [hG1.out] at hz ⊢;exact hz
def StAns (w:World) (R:QF × Nat × Nat) (e:Ending) (w':World):Prop:=∃ u,e = .returned (.tuple #[u,.agg #[.int .i64 R.2.1,errno R.2.2]])∧QRep w' u R.1∧Mod Nowhere w w'
theorem StAns.drew {w X:World} {R:QF × Nat × Nat} {e:Ending} (h:StAns w R e X):StAns w R e X.drew:=by
 obtain ⟨u,e1,q,m⟩:=h;exact ⟨u,e1,q.fresh ((Mod.refl _ _).drew),m.drew⟩
def zst:List Value:=[.slice none 0 0,.bool false,.slice none 0 0]
structure StA (w wx:World) (n:Nat) (R:QF × Nat × Nat) (lv ov:Value):Prop where
 b0:Blk wx n [lv,.bool R.1.act,ov] 50
 ls:QLs wx lv ov R.1
 b2:Blk wx (n + 1 + 1) zst 50
 b3:Blk wx (n + 1 + 1 + 1) [.int .i64 0,errno 0] 52
 b4:Blk wx (n + 1 + 1 + 1 + 1) [.int .i64 R.2.1,errno R.2.2] 52
 mod:Mod Nowhere w wx
theorem ret_step {fn:Func} {p q:Tmp} (h:fn.results = #[.cell p 50,.cell q 52]) (tmps:Array Value) (w:World) (b c:Nat) (c0 c1 c2 d0 d1:Value) (hp:tmps.getD p undef = ptr b) (hq:tmps.getD q undef = ptr c) (hb:Blk w b [c0,c1,c2] 50) (hc:Blk w c [d0,d1] 52) :
  (results fn tmps).run Tryz.prog w = .ok (.tuple #[.agg #[c0,c1,c2],.agg #[d0,d1]]) w:=by
 have hp':tmps[p]?.getD undef = ptr b:=by simpa using hp
 have hq':tmps[q]?.getD undef = ptr c:=by simpa using hq
 have k0:=hb.cell 0;have k1:=hb.cell 1;have k2:=hb.cell 2;have j0:=hc.cell 0;have j1:=hc.cell 1;simp only [List.getElem?_cons_zero,List.getElem?_cons_succ] at k0 k1 k2 j0 j1;simp only [results,h];simp [Sem.run_bind,Result.andThen,hp',hq']
 go_simp
section
variable {w W w2 : World} {n : Nat} {S : QF} {R : QF × Nat × Nat} {lv ov lv2 ov2 : Value}
theorem StA.st (h:StA w W n (S,0,0) lv ov) (hn:w.heap.size≤n) (hm:Mod Nowhere W w2) {S':QF} (hl:QLs w2 lv2 ov2 S'):StA w (put3 w2 n lv2 (.bool S'.act) ov2) n (S',0,0) lv2 ov2:=by
 obtain ⟨e1,m1⟩:=blk3 (h.b0.mod hm (fun e=>e)) lv2 (.bool S'.act) ov2;exact ⟨e1,hl.box (h.b0.mod hm (fun e=>e)) (by decide) m1,(h.b2.mod hm (fun e=>e)).mod m1 (fun e=>by have e:n + 1 + 1 = n:=e;omega),(h.b3.mod hm (fun e=>e)).mod m1 (fun e=>by have e:n + 1 + 1 + 1 = n:=e;omega),(h.b4.mod hm (fun e=>e)).mod m1 (fun e=>by have e:n + 1 + 1 + 1 + 1 = n:=e;omega),(h.mod.trans hm).newb m1 hn⟩
theorem StA.err (h:StA w W n (S,0,0) lv ov) (hn:w.heap.size≤n) (E:Nat):StA w (W.setCell ⟨n + 1 + 1 + 1 + 1,1,none⟩ (errno E)) n (S,0,E) lv ov:=by
 have m1:Mod (fun j=>j = n + 1 + 1 + 1 + 1) W (W.setCell ⟨n + 1 + 1 + 1 + 1,1,none⟩ (errno E)):=(Mod.refl (fun j=>j = n + 1 + 1 + 1 + 1) W).setCell (p:=⟨n + 1 + 1 + 1 + 1,1,none⟩) (fun _=>rfl) _;exact ⟨h.b0.mod m1 (fun e=>by have e:n = n + 1 + 1 + 1 + 1:=e;omega),h.ls.box h.b4 (by decide) m1,h.b2.mod m1 (fun e=>by have e:n + 1 + 1 = n + 1 + 1 + 1 + 1:=e;omega),h.b3.mod m1 (fun e=>by have e:n + 1 + 1 + 1 = n + 1 + 1 + 1 + 1:=e;omega),h.b4.setCell 1 _,h.mod.newb m1 (by omega)⟩
theorem StA.two (h:StA w W n (S,0,0) lv ov) (hn:w.heap.size≤n) (N E:Nat):StA w (put2 W (n + 1 + 1 + 1 + 1) (.int .i64 N) (errno E)) n (S,N,E) lv ov:=by
 obtain ⟨e1,m1⟩:=blk2 h.b4 (.int .i64 N) (errno E);exact ⟨h.b0.mod m1 (fun e=>by have e:n = n + 1 + 1 + 1 + 1:=e;omega),h.ls.box h.b4 (by decide) m1,h.b2.mod m1 (fun e=>by have e:n + 1 + 1 = n + 1 + 1 + 1 + 1:=e;omega),h.b3.mod m1 (fun e=>by have e:n + 1 + 1 + 1 = n + 1 + 1 + 1 + 1:=e;omega),e1,h.mod.newb m1 (by omega)⟩
theorem StA.ret (h:StA w W n R lv ov) (hn:w.heap.size≤n) (N E:Nat) :
  Blk (put2 (put3 W (n + 1 + 1) lv (.bool R.1.act) ov) (n + 1 + 1 + 1) (.int .i64 N) (errno E)) (n + 1 + 1) [lv,.bool R.1.act,ov] 50∧Blk (put2 (put3 W (n + 1 + 1) lv (.bool R.1.act) ov) (n + 1 + 1 + 1) (.int .i64 N) (errno E)) (n + 1 + 1 + 1) [.int .i64 N,errno E] 52∧StAns w (R.1,N,E) (.returned (.tuple #[.agg #[lv,.bool R.1.act,ov],.agg #[.int .i64 N,errno E]])) (put2 (put3 W (n + 1 + 1) lv (.bool R.1.act) ov) (n + 1 + 1 + 1) (.int .i64 N) (errno E)):=by
 obtain ⟨e1,m1⟩:=blk3 h.b2 lv (.bool R.1.act) ov;have b3:=h.b3.mod m1 (fun e=>by have e:n + 1 + 1 + 1 = n + 1 + 1:=e;omega);obtain ⟨e2,m2⟩:=blk2 b3 (.int .i64 N) (errno E);exact ⟨e1.mod m2 (fun e=>by have e:n + 1 + 1 = n + 1 + 1 + 1:=e;omega),e2,_,rfl,⟨_,_,rfl,(h.ls.box h.b2 (by decide) m1).box b3 (by decide) m2⟩,(h.mod.newb m1 (by omega)).newb m2 (by omega)⟩
end
theorem boxes5q (w:World) (l0 l1 l2 l3 l4:List Value) (T0 T1 T2 T3 T4:TypeId) :
  ∃ W,((((w.alloc (.cells l0.toArray T0)).alloc (.cells l1.toArray T1)).alloc (.cells l2.toArray T2)).alloc (.cells l3.toArray T3)).alloc (.cells l4.toArray T4) = W∧Blk W w.heap.size l0 T0∧Blk W (w.heap.size + 1) l1 T1∧Blk W (w.heap.size + 1 + 1) l2 T2∧Blk W (w.heap.size + 1 + 1 + 1) l3 T3∧Blk W (w.heap.size + 1 + 1 + 1 + 1) l4 T4∧Mod Nowhere w W:=by
 obtain ⟨W0,e0,b0,b1,b2,hm,hz⟩:=boxes3 w l0 l1 l2 T0 T1 T2;rw [e0];obtain ⟨b3,b4,hm2⟩:=boxes2 W0 l3 l4 T3 T4;rw [hz] at b3 b4;exact ⟨_,rfl,b0.mod hm2 (fun e=>e),b1.mod hm2 (fun e=>e),b2.mod hm2 (fun e=>e),b3,b4,hm.trans hm2⟩
set_option maxHeartbeats 16000000 in
theorem step21_ok {w:World} {v0:Value} {S:QF} (h:QRep w v0 S) (hS:S.Ok) (hbd:∀ k p,S.g k = some p→p.t≤15∧p.u≤15) {x:Pop} (hx:PopAt w x) (hla:x.a.length≤1000) (hlb:x.b.length≤1000) :
  Calls Tryz.prog 20 #[v0,.agg x.cells.toArray] w (StAns w (qOp S x)):=by
 obtain ⟨R,hR⟩:∃ R,qOp S x = R:=⟨_,rfl⟩;rw [hR];obtain ⟨lv,ov,rfl,hL⟩:=h;obtain ⟨la,ln,lc,oa,om,oc,rfl,rfl⟩:=hL.form;obtain ⟨sa,ba,sb,bb,hd,hop,hid⟩:=hx;obtain ⟨op,id,⟨did,vv,v,li,lo,hi,uv,u,cl⟩,av,a,bv,b⟩:=x;dsimp only at sa ba sb bb hd hop hid hla hlb;have hF:=hd.pok;have s1:=hd.sv;have s2:=hd.su;dsimp only at s1 s2;clear hd hop;have hsa0:=sa;have hsb0:=sb;have hs10:=s1;have hs20:=s2;obtain ⟨aa,ac,rfl,-,-,-⟩:=sa;obtain ⟨xb,bc,rfl,-,-,-⟩:=sb;obtain ⟨va,vc,rfl,-,-,-⟩:=s1;obtain ⟨ua,uc,rfl,-,-,-⟩:=s2;obtain ⟨W,hW,b0,b1,b2,b3,b4,hmW⟩:=boxes5q w [.slice la ln lc,.bool S.act,.slice oa om oc] [.int .i64 op,.int .i64 id,.int .i64 did,.slice va v.length vc,.int .i64 li,.int .i64 lo,.int .i64 hi,.slice ua u.length uc,.int .i64 cl,.slice aa a.length ac,.slice xb b.length bc] zst [.int .i64 0,errno 0] [.int .i64 0,errno 0] 50 37 50 52 52;have hA0:StA w W w.heap.size (S,0,0) (.slice la ln lc) (.slice oa om oc):=⟨b0,hL.fresh hmW,b2,b3,b4,hmW⟩
 have hq:QRep W (.agg #[.slice la ln lc,.bool S.act,.slice oa om oc]) S:=⟨_,_,rfl,hL.fresh hmW⟩;obtain ⟨act,hac⟩:∃ act,S.act = act:=⟨_,rfl⟩;rw [hac] at b0 hq hW ⊢;have hsaW:=hsa0.fresh hmW;have hsbW:=hsb0.fresh hmW;have hs1W:=hs10.fresh hmW;have hs2W:=hs20.fresh hmW;have k0:=b0.cell 0;have k1:=b0.cell 1;have k2:=b0.cell 2;have p0:=b1.cell 0;have p1:=b1.cell 1;have p2:=b1.cell 2;have p3:=b1.cell 3;have p4:=b1.cell 4;have p5:=b1.cell 5;have p6:=b1.cell 6;have p7:=b1.cell 7;have p8:=b1.cell 8;have p9:=b1.cell 9;have p10:=b1.cell 10;simp only [List.getElem?_cons_zero,List.getElem?_cons_succ] at k0 k1 k2 p0 p1 p2 p3 p4 p5 p6 p7 p8 p9 p10;have kl:=b0.lt
 have kf:=b0.frozen;have pl:=b1.lt;have l2:=b2.lt;have f2:=b2.frozen;have l3:=b3.lt;have f3:=b3.frozen;have l4:=b4.lt;have f4:=b4.frozen;have hBn:w.heap.size≤w.heap.size:=Nat.le_refl _;unfold zst errno at hW;refine hid12 ?_ hW hR hL hF hid hsa0 hsb0 hs10 hs20 ba bb hsaW;clear hW hR hL hF hid hsa0 hsb0 hs10 hs20 ba bb hsaW;intro hW hR hL hF hid hsa0 hsb0 hs10 hs20 ba bb hsaW;refine hid12 ?_ hsbW hs1W hs2W b0 b1 b2 b3 b4 hmW hA0 hq hac;clear hsbW hs1W hs2W b0 b1 b2 b3 b4 hmW hA0 hq hac;intro hsbW hs1W hs2W b0 b1 b2 b3 b4 hmW hA0 hq hac;refine hid5 ?_ hS hbd hla hlb hBn;clear hS hbd hla hlb hBn;intro hS hbd hla hlb hBn
 unfold Pop.cells Pin7.cells;go_enter Tryz.func20,Tryz.ntmps20
 go_upto_block 0 with (fail)
 rw [hW.out]
 go_cut [] (fun wx=>∃ lv ov,StA w wx w.heap.size R lv ov)
 case first =>
  by_cases h0:op = 0
  ·subst h0;by_cases hv:pinValidB did v.length li lo hi u.length cl = true
   ·have hv':Pin7.ok ⟨did,.slice va v.length vc,v,li,lo,hi,.slice ua u.length uc,u,cl⟩ = true:=hv;obtain ⟨hok1,e1,e2,e3,e4,e5⟩:=hF.out hv';dsimp only at e1 e2 e3 e4 e5;obtain ⟨d,hd0⟩:∃ d,Pin7.pd ⟨did,.slice va v.length vc,v,li,lo,hi,.slice ua u.length uc,u,cl⟩ = d:=⟨_,rfl⟩;have hC:=qCreate_ok (d:=d) hq.out hS.out (by rw [← hd0];exact hok1) (u1:=.slice va v.length vc) (u2:=.slice ua u.length uc) (by rw [← hd0];exact hs1W.out) (by rw [← hd0];exact hs2W.out);obtain ⟨R1,hR1⟩:∃ R1,qCreate S d = R1:=⟨_,rfl⟩;have hRe:R = (R1.1,0,R1.2):=by rw [← hR.out,← hR1,← hd0];unfold qOp;rw [if_pos rfl,if_pos hv']
    have hpv:pinV d (.slice va v.length vc) (.slice ua u.length uc) = .agg #[.int .i64 did,.slice va v.length vc,.int .i64 li,.int .i64 lo,.int .i64 hi,.slice ua u.length uc,.int .i64 cl]:=by rw [← hd0];unfold pinV Pin7.pd;dsimp only;rw [e1,e2,e3,e4,e5]
    rw [hpv,hR1] at hC;clear hpv hd0 e1 e2 e3 e4 e5 hv hv' hok1 hR1;refine hid2 ?_ hC hRe;clear hC hRe;intro hC hRe;go_wp2_with fail;refine hC.out.mono ?_;rintro e w2 ⟨v2,rfl,⟨lv2,ov2,rfl,hL2⟩,hm2⟩;obtain ⟨la2,ln2,lc2,oa2,om2,oc2,rfl,rfl⟩:=hL2.form;have c0:=b0.out.mod hm2 (fun e=>e);have c4:=b4.out.mod hm2 (fun e=>e);clear k0 k1 k2 kl kf l4 f4;have kl:=c0.lt;have kf:=c0.frozen;have l4:=c4.lt;have f4:=c4.frozen;have g0:=c0.cell 0;have g1:=c0.cell 1;have g2:=c0.cell 2;have y0:=c4.cell 0;have y1:=c4.cell 1;simp only [List.getElem?_cons_zero,List.getElem?_cons_succ] at g0 g1 g2 y0 y1;have hfin:=(hA0.out.st hBn.out hm2 hL2).err hBn.out R1.2
    unfold put3 at hfin;clear hL2;refine hid4 ?_ hm2 c0 c4 hfin;clear hm2 c0 c4 hfin;intro hm2 c0 c4 hfin;go_wp2;go_meet
    case rel =>
     exact ⟨_,_,by rw [hRe.out];exact hfin.out⟩
   ·have hvf:pinValidB did v.length li lo hi u.length cl = false:=by simpa using hv
    have hC:=qCreate_bad hq.out did va v.length vc li lo hi ua u.length uc cl hvf;obtain ⟨R1,hR1⟩:∃ R1,((S,1):QF × Nat) = R1:=⟨_,rfl⟩;have hRe:R = (R1.1,0,R1.2):=by rw [← hR.out,← hR1];unfold qOp;rw [if_pos rfl,if_neg (show ¬ Pin7.ok ⟨did,.slice va v.length vc,v,li,lo,hi,.slice ua u.length uc,u,cl⟩ = true from hv)]
    rw [hR1] at hC;clear hv hvf hR1;refine hid2 ?_ hC hRe;clear hC hRe;intro hC hRe;go_wp2_with fail;refine hC.out.mono ?_;rintro e w2 ⟨v2,rfl,⟨lv2,ov2,rfl,hL2⟩,hm2⟩;obtain ⟨la2,ln2,lc2,oa2,om2,oc2,rfl,rfl⟩:=hL2.form;have c0:=b0.out.mod hm2 (fun e=>e);have c4:=b4.out.mod hm2 (fun e=>e);clear k0 k1 k2 kl kf l4 f4;have kl:=c0.lt;have kf:=c0.frozen;have l4:=c4.lt;have f4:=c4.frozen;have g0:=c0.cell 0;have g1:=c0.cell 1;have g2:=c0.cell 2;have y0:=c4.cell 0;have y1:=c4.cell 1;simp only [List.getElem?_cons_zero,List.getElem?_cons_succ] at g0 g1 g2 y0 y1;have hfin:=(hA0.out.st hBn.out hm2 hL2).err hBn.out R1.2
    unfold put3 at hfin;clear hL2;refine hid4 ?_ hm2 c0 c4 hfin;clear hm2 c0 c4 hfin;intro hm2 c0 c4 hfin;go_wp2;go_meet
    case rel =>
     exact ⟨_,_,by rw [hRe.out];exact hfin.out⟩
  have q0:(op == 0) = false:=by simpa using h0
  by_cases h1:op = 1
  ·subst h1;have hC:=qDelete_ok hq.out hS.out id;obtain ⟨R1,hR1⟩:∃ R1,qDelete S id = R1:=⟨_,rfl⟩;have hRe:R = (R1.1,0,R1.2):=by rw [← hR.out,← hR1];unfold qOp;rw [if_neg (show ¬ (1:Int) = 0 by decide),if_pos rfl]
   rw [hR1] at hC;clear hR1;refine hid2 ?_ hC hRe;clear hC hRe;intro hC hRe;go_wp2_with fail;refine hC.out.mono ?_;rintro e w2 ⟨v2,rfl,⟨lv2,ov2,rfl,hL2⟩,hm2⟩;obtain ⟨la2,ln2,lc2,oa2,om2,oc2,rfl,rfl⟩:=hL2.form;have c0:=b0.out.mod hm2 (fun e=>e);have c4:=b4.out.mod hm2 (fun e=>e);clear k0 k1 k2 kl kf l4 f4;have kl:=c0.lt;have kf:=c0.frozen;have l4:=c4.lt;have f4:=c4.frozen;have g0:=c0.cell 0;have g1:=c0.cell 1;have g2:=c0.cell 2;have y0:=c4.cell 0;have y1:=c4.cell 1;simp only [List.getElem?_cons_zero,List.getElem?_cons_succ] at g0 g1 g2 y0 y1;have hfin:=(hA0.out.st hBn.out hm2 hL2).err hBn.out R1.2
   unfold put3 at hfin;clear hL2;refine hid4 ?_ hm2 c0 c4 hfin;clear hm2 c0 c4 hfin;intro hm2 c0 c4 hfin;go_wp2;go_meet
   case rel =>
    exact ⟨_,_,by rw [hRe.out];exact hfin.out⟩
  have q1:(op == 1) = false:=by simpa using h1
  by_cases h2:op = 2
  ·subst h2;have hRe:R = qVerify S id a:=by rw [← hR.out];unfold qOp;rw [if_neg (show ¬ (2:Int) = 0 by decide),if_neg (show ¬ (2:Int) = 1 by decide),if_pos rfl]
   have hC:=qVerify_ok hq.out hS.out id hsaW.out ba.out hla.out hbd.out;rw [← hRe] at hC;clear hRe;replace hC:=Lib.hid hC;go_wp2_with fail;refine hC.out.mono ?_;rintro e w2 ⟨v2,rfl,⟨lv2,ov2,rfl,hL2⟩,hm2⟩;obtain ⟨la2,ln2,lc2,oa2,om2,oc2,rfl,rfl⟩:=hL2.form;have c0:=b0.out.mod hm2 (fun e=>e);have c4:=b4.out.mod hm2 (fun e=>e);clear k0 k1 k2 kl kf l4 f4;have kl:=c0.lt;have kf:=c0.frozen;have l4:=c4.lt;have f4:=c4.frozen;have g0:=c0.cell 0;have g1:=c0.cell 1;have g2:=c0.cell 2;have y0:=c4.cell 0;have y1:=c4.cell 1;simp only [List.getElem?_cons_zero,List.getElem?_cons_succ] at g0 g1 g2 y0 y1;have hfin:=(hA0.out.st hBn.out hm2 hL2).two hBn.out R.2.1 R.2.2
   unfold put2 put3 at hfin;clear hL2;refine hid4 ?_ hm2 c0 c4 hfin;clear hm2 c0 c4 hfin;intro hm2 c0 c4 hfin;go_wp2;go_meet
   case rel =>
    exact ⟨_,_,hfin.out⟩
  have q2:(op == 2) = false:=by simpa using h2
  by_cases h3:op = 3
  ·subst h3;have hRe:R = qChange S id a b:=by rw [← hR.out];unfold qOp;rw [if_neg (show ¬ (3:Int) = 0 by decide),if_neg (show ¬ (3:Int) = 1 by decide),if_neg (show ¬ (3:Int) = 2 by decide),if_pos rfl]
   have hC:=qChange_ok hq.out hS.out id hsaW.out ba.out hla.out hsbW.out hlb.out hbd.out;rw [← hRe] at hC;clear hRe;replace hC:=Lib.hid hC;go_wp2_with fail;refine hC.out.mono ?_;rintro e w2 ⟨v2,rfl,⟨lv2,ov2,rfl,hL2⟩,hm2⟩;obtain ⟨la2,ln2,lc2,oa2,om2,oc2,rfl,rfl⟩:=hL2.form;have c0:=b0.out.mod hm2 (fun e=>e);have c4:=b4.out.mod hm2 (fun e=>e);clear k0 k1 k2 kl kf l4 f4;have kl:=c0.lt;have kf:=c0.frozen;have l4:=c4.lt;have f4:=c4.frozen;have g0:=c0.cell 0;have g1:=c0.cell 1;have g2:=c0.cell 2;have y0:=c4.cell 0;have y1:=c4.cell 1;simp only [List.getElem?_cons_zero,List.getElem?_cons_succ] at g0 g1 g2 y0 y1;have hfin:=(hA0.out.st hBn.out hm2 hL2).two hBn.out R.2.1 R.2.2
   unfold put2 put3 at hfin;clear hL2;refine hid4 ?_ hm2 c0 c4 hfin;clear hm2 c0 c4 hfin;intro hm2 c0 c4 hfin;go_wp2;go_meet
   case rel =>
    exact ⟨_,_,hfin.out⟩
  have q3:(op == 3) = false:=by simpa using h3
  by_cases h4:op = 4
  ·subst h4;have hRe:R = qUnblock S id a b:=by rw [← hR.out];unfold qOp;rw [if_neg (show ¬ (4:Int) = 0 by decide),if_neg (show ¬ (4:Int) = 1 by decide),if_neg (show ¬ (4:Int) = 2 by decide),if_neg (show ¬ (4:Int) = 3 by decide),if_pos rfl]
   have hC:=qUnblock_ok hq.out hS.out id hsaW.out ba.out hla.out hsbW.out hlb.out hbd.out;rw [← hRe] at hC;clear hRe;replace hC:=Lib.hid hC;go_wp2_with fail;refine hC.out.mono ?_;rintro e w2 ⟨v2,rfl,⟨lv2,ov2,rfl,hL2⟩,hm2⟩;obtain ⟨la2,ln2,lc2,oa2,om2,oc2,rfl,rfl⟩:=hL2.form;have c0:=b0.out.mod hm2 (fun e=>e);have c4:=b4.out.mod hm2 (fun e=>e);clear k0 k1 k2 kl kf l4 f4;have kl:=c0.lt;have kf:=c0.frozen;have l4:=c4.lt;have f4:=c4.frozen;have g0:=c0.cell 0;have g1:=c0.cell 1;have g2:=c0.cell 2;have y0:=c4.cell 0;have y1:=c4.cell 1;simp only [List.getElem?_cons_zero,List.getElem?_cons_succ] at g0 g1 g2 y0 y1;have hfin:=(hA0.out.st hBn.out hm2 hL2).two hBn.out R.2.1 R.2.2
   unfold put2 put3 at hfin;clear hL2;refine hid4 ?_ hm2 c0 c4 hfin;clear hm2 c0 c4 hfin;intro hm2 c0 c4 hfin;go_wp2;go_meet
   case rel =>
    exact ⟨_,_,hfin.out⟩
  have q4:(op == 4) = false:=by simpa using h4
  by_cases h5:op = 5
  ·subst h5;have hC:=qSet_ok hq.out hS.out id hsaW.out hla.out;obtain ⟨R1,hR1⟩:∃ R1,qSet S id a = R1:=⟨_,rfl⟩;have hRe:R = (R1.1,0,R1.2):=by rw [← hR.out,← hR1];unfold qOp;rw [if_neg (show ¬ (5:Int) = 0 by decide),if_neg (show ¬ (5:Int) = 1 by decide),if_neg (show ¬ (5:Int) = 2 by decide),if_neg (show ¬ (5:Int) = 3 by decide),if_neg (show ¬ (5:Int) = 4 by decide),if_pos rfl]
   rw [hR1] at hC;clear hR1;refine hid2 ?_ hC hRe;clear hC hRe;intro hC hRe;go_wp2_with fail;refine hC.out.mono ?_;rintro e w2 ⟨v2,rfl,⟨lv2,ov2,rfl,hL2⟩,hm2⟩;obtain ⟨la2,ln2,lc2,oa2,om2,oc2,rfl,rfl⟩:=hL2.form;have c0:=b0.out.mod hm2 (fun e=>e);have c4:=b4.out.mod hm2 (fun e=>e);clear k0 k1 k2 kl kf l4 f4;have kl:=c0.lt;have kf:=c0.frozen;have l4:=c4.lt;have f4:=c4.frozen;have g0:=c0.cell 0;have g1:=c0.cell 1;have g2:=c0.cell 2;have y0:=c4.cell 0;have y1:=c4.cell 1;simp only [List.getElem?_cons_zero,List.getElem?_cons_succ] at g0 g1 g2 y0 y1;have hfin:=(hA0.out.st hBn.out hm2 hL2).err hBn.out R1.2
   unfold put3 at hfin;clear hL2;refine hid4 ?_ hm2 c0 c4 hfin;clear hm2 c0 c4 hfin;intro hm2 c0 c4 hfin;go_wp2;go_meet
   case rel =>
    exact ⟨_,_,by rw [hRe.out];exact hfin.out⟩
  have q5:(op == 5) = false:=by simpa using h5
  by_cases h6:op = 6
  ·subst h6
   cases act
   ·have hRe:R = (qBegin S,0,0):=by rw [← hR.out];unfold qOp;rw [if_neg (show ¬ (6:Int) = 0 by decide),if_neg (show ¬ (6:Int) = 1 by decide),if_neg (show ¬ (6:Int) = 2 by decide),if_neg (show ¬ (6:Int) = 3 by decide),if_neg (show ¬ (6:Int) = 4 by decide),if_neg (show ¬ (6:Int) = 5 by decide),if_pos rfl,if_neg (by rw [hac.out];decide)]
    have hC:=qBegin_ok hq.out;refine hid2 ?_ hC hRe;clear hC hRe;intro hC hRe;go_wp2_with fail;refine hC.out.mono ?_;rintro e w2 ⟨v2,rfl,⟨lv2,ov2,rfl,hL2⟩,hm2⟩;obtain ⟨la2,ln2,lc2,oa2,om2,oc2,rfl,rfl⟩:=hL2.form;have c0:=b0.out.mod hm2 (fun e=>e);have c4:=b4.out.mod hm2 (fun e=>e);clear k0 k1 k2 kl kf l4 f4;have kl:=c0.lt;have kf:=c0.frozen;have l4:=c4.lt;have f4:=c4.frozen;have g0:=c0.cell 0;have g1:=c0.cell 1;have g2:=c0.cell 2;have y0:=c4.cell 0;have y1:=c4.cell 1;simp only [List.getElem?_cons_zero,List.getElem?_cons_succ] at g0 g1 g2 y0 y1;have hfin:=hA0.out.st hBn.out hm2 hL2
    unfold put3 at hfin;clear hL2;refine hid4 ?_ hm2 c0 c4 hfin;clear hm2 c0 c4 hfin;intro hm2 c0 c4 hfin;go_wp2;go_meet
    case rel =>
     exact ⟨_,_,by rw [hRe.out];exact hfin.out⟩
   ·have hRe:R = (S,0,14):=by rw [← hR.out];unfold qOp;rw [if_neg (show ¬ (6:Int) = 0 by decide),if_neg (show ¬ (6:Int) = 1 by decide),if_neg (show ¬ (6:Int) = 2 by decide),if_neg (show ¬ (6:Int) = 3 by decide),if_neg (show ¬ (6:Int) = 4 by decide),if_neg (show ¬ (6:Int) = 5 by decide),if_pos rfl,if_pos hac.out]
    obtain ⟨h1,h2,h3⟩:=hA0.out.ret (Nat.le_refl _) 0 14;rw [hac.out] at h1 h2 h3;rw [show ((0:Nat):Int) = 0 from rfl,show ((14:Nat):Int) = 14 from rfl] at h1 h2 h3;unfold put2 put3 at h1 h2 h3;have z0:=b2.out.cell 0;have z1:=b2.out.cell 1;have z2:=b2.out.cell 2;have x0:=b3.out.cell 0;have x1:=b3.out.cell 1;simp only [zst,List.getElem?_cons_zero,List.getElem?_cons_succ] at z0 z1 z2 x0 x1;refine hid4 ?_ h1 h2 h3 hRe;clear h1 h2 h3 hRe;intro h1 h2 h3 hRe;go_wp2;refine bodyPost_ret (ret_step rfl _ _ (w.heap.size + 1 + 1) (w.heap.size + 1 + 1 + 1) _ _ _ _ _ rfl rfl h1.out h2.out) rfl ?_;rw [hRe.out]
    exact h3.out
  have q6:(op == 6) = false:=by simpa using h6
  by_cases h7:op = 7
  ·subst h7
   cases act
   ·have hRe:R = (S,0,14):=by rw [← hR.out];unfold qOp;rw [if_neg (show ¬ (7:Int) = 0 by decide),if_neg (show ¬ (7:Int) = 1 by decide),if_neg (show ¬ (7:Int) = 2 by decide),if_neg (show ¬ (7:Int) = 3 by decide),if_neg (show ¬ (7:Int) = 4 by decide),if_neg (show ¬ (7:Int) = 5 by decide),if_neg (show ¬ (7:Int) = 6 by decide),if_pos rfl,if_neg (by rw [hac.out];decide)]
    obtain ⟨h1,h2,h3⟩:=hA0.out.ret (Nat.le_refl _) 0 14;rw [hac.out] at h1 h2 h3;rw [show ((0:Nat):Int) = 0 from rfl,show ((14:Nat):Int) = 14 from rfl] at h1 h2 h3;unfold put2 put3 at h1 h2 h3;have z0:=b2.out.cell 0;have z1:=b2.out.cell 1;have z2:=b2.out.cell 2;have x0:=b3.out.cell 0;have x1:=b3.out.cell 1;simp only [zst,List.getElem?_cons_zero,List.getElem?_cons_succ] at z0 z1 z2 x0 x1;refine hid4 ?_ h1 h2 h3 hRe;clear h1 h2 h3 hRe;intro h1 h2 h3 hRe;go_wp2;refine bodyPost_ret (ret_step rfl _ _ (w.heap.size + 1 + 1) (w.heap.size + 1 + 1 + 1) _ _ _ _ _ rfl rfl h1.out h2.out) rfl ?_;rw [hRe.out]
    exact h3.out
   ·have hRe:R = (qCommit S,0,0):=by rw [← hR.out];unfold qOp;rw [if_neg (show ¬ (7:Int) = 0 by decide),if_neg (show ¬ (7:Int) = 1 by decide),if_neg (show ¬ (7:Int) = 2 by decide),if_neg (show ¬ (7:Int) = 3 by decide),if_neg (show ¬ (7:Int) = 4 by decide),if_neg (show ¬ (7:Int) = 5 by decide),if_neg (show ¬ (7:Int) = 6 by decide),if_pos rfl,if_pos hac.out]
    have hC:=qCommit_ok hq.out;refine hid2 ?_ hC hRe;clear hC hRe;intro hC hRe;go_wp2_with fail;refine hC.out.mono ?_;rintro e w2 ⟨v2,rfl,⟨lv2,ov2,rfl,hL2⟩,hm2⟩;obtain ⟨la2,ln2,lc2,oa2,om2,oc2,rfl,rfl⟩:=hL2.form;have c0:=b0.out.mod hm2 (fun e=>e);have c4:=b4.out.mod hm2 (fun e=>e);clear k0 k1 k2 kl kf l4 f4;have kl:=c0.lt;have kf:=c0.frozen;have l4:=c4.lt;have f4:=c4.frozen;have g0:=c0.cell 0;have g1:=c0.cell 1;have g2:=c0.cell 2;have y0:=c4.cell 0;have y1:=c4.cell 1;simp only [List.getElem?_cons_zero,List.getElem?_cons_succ] at g0 g1 g2 y0 y1;have hfin:=hA0.out.st hBn.out hm2 hL2
    unfold put3 at hfin;clear hL2;refine hid4 ?_ hm2 c0 c4 hfin;clear hm2 c0 c4 hfin;intro hm2 c0 c4 hfin;go_wp2;go_meet
    case rel =>
     exact ⟨_,_,by rw [hRe.out];exact hfin.out⟩
  have q7:(op == 7) = false:=by simpa using h7
  by_cases h8:op = 8
  ·subst h8
   cases act
   ·have hRe:R = (S,0,14):=by rw [← hR.out];unfold qOp;rw [if_neg (show ¬ (8:Int) = 0 by decide),if_neg (show ¬ (8:Int) = 1 by decide),if_neg (show ¬ (8:Int) = 2 by decide),if_neg (show ¬ (8:Int) = 3 by decide),if_neg (show ¬ (8:Int) = 4 by decide),if_neg (show ¬ (8:Int) = 5 by decide),if_neg (show ¬ (8:Int) = 6 by decide),if_neg (show ¬ (8:Int) = 7 by decide),if_pos rfl,if_neg (by rw [hac.out];decide)]
    obtain ⟨h1,h2,h3⟩:=hA0.out.ret (Nat.le_refl _) 0 14;rw [hac.out] at h1 h2 h3;rw [show ((0:Nat):Int) = 0 from rfl,show ((14:Nat):Int) = 14 from rfl] at h1 h2 h3;unfold put2 put3 at h1 h2 h3;have z0:=b2.out.cell 0;have z1:=b2.out.cell 1;have z2:=b2.out.cell 2;have x0:=b3.out.cell 0;have x1:=b3.out.cell 1;simp only [zst,List.getElem?_cons_zero,List.getElem?_cons_succ] at z0 z1 z2 x0 x1;refine hid4 ?_ h1 h2 h3 hRe;clear h1 h2 h3 hRe;intro h1 h2 h3 hRe;go_wp2;refine bodyPost_ret (ret_step rfl _ _ (w.heap.size + 1 + 1) (w.heap.size + 1 + 1 + 1) _ _ _ _ _ rfl rfl h1.out h2.out) rfl ?_;rw [hRe.out]
    exact h3.out
   ·have hRe:R = (qAbort S,0,0):=by rw [← hR.out];unfold qOp;rw [if_neg (show ¬ (8:Int) = 0 by decide),if_neg (show ¬ (8:Int) = 1 by decide),if_neg (show ¬ (8:Int) = 2 by decide),if_neg (show ¬ (8:Int) = 3 by decide),if_neg (show ¬ (8:Int) = 4 by decide),if_neg (show ¬ (8:Int) = 5 by decide),if_neg (show ¬ (8:Int) = 6 by decide),if_neg (show ¬ (8:Int) = 7 by decide),if_pos rfl,if_pos hac.out]
    have hC:=qAbort_ok hq.out;refine hid2 ?_ hC hRe;clear hC hRe;intro hC hRe;go_wp2_with fail;refine hC.out.mono ?_;rintro e w2 ⟨v2,rfl,⟨lv2,ov2,rfl,hL2⟩,hm2⟩;obtain ⟨la2,ln2,lc2,oa2,om2,oc2,rfl,rfl⟩:=hL2.form;have c0:=b0.out.mod hm2 (fun e=>e);have c4:=b4.out.mod hm2 (fun e=>e);clear k0 k1 k2 kl kf l4 f4;have kl:=c0.lt;have kf:=c0.frozen;have l4:=c4.lt;have f4:=c4.frozen;have g0:=c0.cell 0;have g1:=c0.cell 1;have g2:=c0.cell 2;have y0:=c4.cell 0;have y1:=c4.cell 1;simp only [List.getElem?_cons_zero,List.getElem?_cons_succ] at g0 g1 g2 y0 y1;have hfin:=hA0.out.st hBn.out hm2 hL2
    unfold put3 at hfin;clear hL2;refine hid4 ?_ hm2 c0 c4 hfin;clear hm2 c0 c4 hfin;intro hm2 c0 c4 hfin;go_wp2;go_meet
    case rel =>
     exact ⟨_,_,by rw [hRe.out];exact hfin.out⟩
  have q8:(op == 8) = false:=by simpa using h8
  have hRe:R = (S,0,0):=by rw [← hR.out];unfold qOp;rw [if_neg h0,if_neg h1,if_neg h2,if_neg h3,if_neg h4,if_neg h5,if_neg h6,if_neg h7,if_neg h8]
  clear h0 h1 h2 h3 h4 h5 h6 h7 h8;replace hRe:=Lib.hid hRe;go_wp2;go_meet
  case rel =>
   exact ⟨_,_,by rw [hRe.out];exact hA0.out⟩
 case rest =>
  obtain ⟨lv,ov,hX⟩:=hcut;obtain ⟨la2,ln2,lc2,oa2,om2,oc2,rfl,rfl⟩:=hX.ls.form;obtain ⟨h1,h2,h3⟩:=hX.ret (Nat.le_refl _) R.2.1 R.2.2;have c0:=hX.b0;have c4:=hX.b4;have l2:=hX.b2.lt;have f2:=hX.b2.frozen;have l3:=hX.b3.lt;have f3:=hX.b3.frozen;unfold put2 put3 at h1 h2 h3;obtain ⟨av2,hav2⟩:∃ av2,R.1.act = av2:=⟨_,rfl⟩;rw [hav2] at c0 h1 h2 h3;have k0:=c0.cell 0;have k1:=c0.cell 1;have k2:=c0.cell 2;have y0:=c4.cell 0;have y1:=c4.cell 1;simp only [List.getElem?_cons_zero,List.getElem?_cons_succ] at k0 k1 k2 y0 y1;have kl:=c0.lt;have yl:=c4.lt;have z0:=hX.b2.cell 0;have z1:=hX.b2.cell 1
  have z2:=hX.b2.cell 2;have x0:=hX.b3.cell 0;have x1:=hX.b3.cell 1;simp only [zst,List.getElem?_cons_zero,List.getElem?_cons_succ] at z0 z1 z2 x0 x1;refine hid7 ?_ hX h1 h2 h3 c0 c4 hav2;clear hX h1 h2 h3 c0 c4 hav2;intro hX h1 h2 h3 c0 c4 hav2;go_wp2
  go_region
  go_wp2;refine bodyPost_ret (ret_step rfl _ _ (w.heap.size + 1 + 1) (w.heap.size + 1 + 1 + 1) _ _ _ _ _ rfl rfl (h1.out.mod ((Mod.refl Nowhere _).drew) (fun e=>e)) (h2.out.mod ((Mod.refl Nowhere _).drew) (fun e=>e))) rfl ?_;exact h3.out.drew
end Go.Proofs.YtjanpegbemepgaaGreat
