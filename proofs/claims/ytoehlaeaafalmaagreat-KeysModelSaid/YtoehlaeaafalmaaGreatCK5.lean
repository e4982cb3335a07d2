/-
  Keys: calls that change them; a key is put in.
-/
import Derived.Test.YtoehlaeaafalmaaGreatCK4
import Derived.Test.YtoehlaeaafalmaaGreatCG50
set_option linter.unusedVariables false
set_option linter.unusedSimpArgs false
set_option maxHeartbeats 8000000
set_option maxRecDepth 100000
namespace Go.Proofs.YtoehlaeaafalmaaGreat
open Go.RowKit
open Jn Vn Rg Ky
attribute [local go_sem] Oper.semAt_some
namespace Ky
structure KySt (s:VSt):Prop where
 f:KIt s.f
 v:KIt (view s)
 x:XS 64 72 18 s
theorem inR {e:KEn} (he:KOk e):InR 64 72 18 ((64 + pl e,some (kB e)):Rec):=⟨Nat.le_add_right _ _,by have:=he.pl_lt;show 64 + pl e < 64 + 72;omega,by show (kB e).length≤18;rw [he.len];exact Nat.le_refl _⟩
theorem KySt.app {s:VSt} (h:KySt s) {e:KEn} (he:KOk e):KySt (xApp s (64 + pl e,some (kB e)))∧view (xApp s (64 + pl e,some (kB e))) = set1 (view s) (64 + pl e,some (kB e)):=by
 have h1:=Ze9 h.x (64 + pl e,some (kB e));refine ⟨⟨?_,by rw [h1];exact h.v.set he,h.x.app (inR he)⟩,h1⟩;unfold xApp
 split
 ·exact h.f
 ·exact h.f.set he
structure RK where
 set:Int
 kind:Int
 lim:Int
 val:List Nat
def RK.ok (x:RK):Bool:=okP x.set x.kind && decide (x.val.length = 16) && decide (1≤x.lim) && decide (x.lim≤15)
def RK.en (x:RK):KEn:=⟨x.set.toNat,x.kind.toNat,x.lim.toNat,x.lim.toNat,x.val⟩
theorem RK.okk {x:RK} (h:x.ok = true) (hb:Bytes x.val):KOk x.en∧((x.en.set:Nat):Int) = x.set∧((x.en.kind:Nat):Int) = x.kind∧((x.en.lim:Nat):Int) = x.lim:=by
 unfold RK.ok okP at h;simp only [Bool.and_eq_true,decide_eq_true_eq] at h;obtain ⟨⟨⟨⟨⟨⟨a1,a2⟩,a3⟩,a4⟩,a5⟩,a6⟩,a7⟩:=h;refine ⟨⟨?_,?_,?_,?_,?_,?_,?_,a5,hb⟩,?_,?_,?_⟩ <;> unfold RK.en <;> dsimp only <;> omega
def kPut (s:VSt) (x:RK):VSt × Nat:=if x.ok = true then (xApp s (64 + pl x.en,some (kB x.en)),0) else (s,1)
end Ky
def KS (A:VAt) (mb:Nat):Nat→Prop:=fun k=>k = mb ∨ A.S k
def KCall (w:World) (kb mb:Nat) (A:VAt) (m:Mem) (s s':VSt) (n:Nat) (ro rc:Value) (e:Ending) (w':World):Prop :=
 (∃ m' k,e = .returned ro∧KyR w' kb mb A m' s'∧k≤n∧Runs m m' k∧Mod (KS A mb) w w') ∨
 (∃ m' f,e = .returned rc∧(f = s.f ∨ f = s'.f)∧VDead w' A m' f∧Stopped m m' n∧KAt w' kb A.vb mb∧MapIs w' mb∧Mod (KS A mb) w w')
section
variable {w w1 w' : World} {kb mb : Nat} {A : VAt} {m : Mem} {s s' : VSt} {n : Nat} {ro rc : Value} {e : Ending}
theorem VCall.k {er:Nat} (hc:VCall w1 A m s s' er n e w') (hm:Mod (KS A mb) w w1) (h1:KyR w1 kb mb A m s) (hit:KIt (view s')) (hl:s'.l.length≤900000):KCall w kb mb A m s s' n (Go.Proofs.YtoehlaeaafalmaaGreat.errno er) (Go.Proofs.YtoehlaeaafalmaaGreat.errno 7) e w':=by
 have hk:∀ {w2:World},Mod A.S w1 w2→KAt w2 kb A.vb mb∧MapIs w2 mb:=fun h2=>by
  obtain ⟨n',f,hf⟩:=h1.map;exact ⟨Blk.mod h1.at_ h2 (h1.rep.noS h1.at_ (by decide) (by decide)),n',f,hf.mod h2 (h1.rep.noMap hf.map)⟩
 rcases hc with ⟨m',k,a,b,c,d,f⟩ | ⟨m',g,a,b,c,d,f⟩
 ·obtain ⟨k1,k2⟩:=hk f;exact .inl ⟨m',k,a,⟨k1,b,h1.x,k2,hl,hit⟩,c,d,hm.trans (f.mono fun _ _ e=>.inr e)⟩
 ·obtain ⟨k1,k2⟩:=hk f;exact .inr ⟨m',g,a,b,c,d,k1,k2,hm.trans (f.mono fun _ _ e=>.inr e)⟩
theorem KCall.same {er:Value} (h:KyR w' kb mb A m s) (hm:Mod (KS A mb) w w'):KCall w kb mb A m s s n er rc (.returned er) w':=by
 refine .inl ⟨m,0,rfl,h,Nat.zero_le _,?_,hm⟩;obtain ⟨P,p,pc,J,bank,end_,ib,lv,xs,hV⟩:=h.rep.ex;exact hV.jr.runs
end
theorem blk2a (w:World) (cs ds:List Value) (T U:TypeId):∀ W,Mod Nowhere ((w.alloc (.cells cs.toArray T)).alloc (.cells ds.toArray U)) W→W.cell? ⟨w.heap.size,2,none⟩ = cs[2]?∧W.cell? ⟨w.heap.size,3,none⟩ = cs[3]?∧w.heap.size < W.heap.size:=fun W hm=>by
 have hb:Blk W w.heap.size cs T:=((Blk.new w cs T).mod ((Mod.refl Nowhere _).alloc _) id).mod hm id;exact ⟨hb.cell 2,hb.cell 3,hb.lt⟩
theorem ZgR {w:World} {kb mb:Nat} {A:VAt} {m:Mem} {s:VSt} (h:KyR w kb mb A m s) {x:RK} {va:Option Addr} {n vc:Nat} (hn:x.val.length = n) (hx:x.ok = false) :
  Calls Tryz.prog 17 #[ptr kb,.agg #[.int .i64 x.set,.int .i64 x.kind,.slice va n vc,.int .i64 x.lim]] w (KCall w kb mb A m s s (vcost A) (errno 1) (errno 7)):=by
 have hV:=fun W=>Zb2 W x.set x.kind;have hfin:=fun W (hm:Mod Nowhere w W)=>KCall.same (n:=vcost A) (rc:=Go.Proofs.YtoehlaeaafalmaaGreat.errno 7) (er:=Go.Proofs.YtoehlaeaafalmaaGreat.errno 1) (h.fresh hm) (hm.nowhere (S:=KS A mb));obtain ⟨k0,k1,kbl⟩:=h.at_.c w (Mod.refl _ _);have hm2:Mod Nowhere w ((w.alloc (.cells #[.int .i64 x.set,.int .i64 x.kind,.slice va n vc,.int .i64 x.lim] 39)).alloc (.cells #[.int .i64 x.set,.int .i64 x.kind] 88)):=((Mod.refl _ w).alloc _).alloc _;have hb1:=blk2a w [.int .i64 x.set,.int .i64 x.kind,.slice va n vc,.int .i64 x.lim] [.int .i64 x.set,.int .i64 x.kind] 39 88;simp only [gz0,gs0] at hb1
 generalize KCall w kb mb A m s s (vcost A) (errno 1) (errno 7) = R at *;have hx':(okP x.set x.kind && decide (n = 16) && decide (1≤x.lim) && decide (x.lim≤15)) = false:=by rw [← hn];exact hx
 clear h hx hn;obtain ⟨st,kd,lm,vl⟩:=x;dsimp only at *
 have hcase:okP st kd = false ∨ (okP st kd = true∧¬ n = 16) ∨ (okP st kd = true∧n = 16∧lm < 1) ∨ (okP st kd = true∧n = 16∧1≤lm∧15 < lm):=by
  cases ho:okP st kd with
  | false=>exact .inl rfl
  | true =>
   rw [ho] at hx';simp only [Bool.true_and,Bool.and_eq_false_iff,decide_eq_false_iff_not] at hx';refine .inr ?_;have hr:(true = true) = True:=eq_self true;rw [hr,true_and,true_and,true_and];omega
 clear hx';refine hid4 ?_ hV hfin hm2 hb1;clear hV hfin hm2 hb1;intro hV hfin hm2 hb1;rcases hcase with ho | ⟨ho,h1⟩ | ⟨ho,rfl,h2⟩ | ⟨ho,rfl,h2,h3⟩
 ·rw [ho] at hV;replace ho:=Lib.hid ho;go_enter Tryz.func17,Tryz.ntmps17;go_wp2_with fail;refine (hV.out _).mono ?_;rintro r w3 ⟨rfl,hm3⟩;have hf:=hfin.out w3 (hm2.out.trans hm3);obtain ⟨c2,c3,cl⟩:=hb1.out w3 hm3;refine hid2 ?_ hf hm3;clear hf hm3;intro hf hm3;go_wp2;exact hf.out
 ·rw [ho] at hV;replace ho:=Lib.hid ho;go_enter Tryz.func17,Tryz.ntmps17;go_wp2_with fail;refine (hV.out _).mono ?_;rintro r w3 ⟨rfl,hm3⟩;have h1i:¬ (n:Int) = 16:=by omega
  have hf:=hfin.out w3 (hm2.out.trans hm3);obtain ⟨c2,c3,cl⟩:=hb1.out w3 hm3;refine hid2 ?_ hf hm3;clear hf hm3;intro hf hm3;go_wp2;exact hf.out
 ·rw [ho] at hV;replace ho:=Lib.hid ho;go_enter Tryz.func17,Tryz.ntmps17;go_wp2_with fail;refine (hV.out _).mono ?_;rintro r w3 ⟨rfl,hm3⟩;have hf:=hfin.out w3 (hm2.out.trans hm3);obtain ⟨c2,c3,cl⟩:=hb1.out w3 hm3;refine hid2 ?_ hf hm3;clear hf hm3;intro hf hm3;go_wp2;exact hf.out
 ·rw [ho] at hV;replace ho:=Lib.hid ho;go_enter Tryz.func17,Tryz.ntmps17;go_wp2_with fail;refine (hV.out _).mono ?_;rintro r w3 ⟨rfl,hm3⟩;have h2i:¬ lm < 1:=by omega
  have hf:=hfin.out w3 (hm2.out.trans hm3);obtain ⟨c2,c3,cl⟩:=hb1.out w3 hm3;refine hid2 ?_ hf hm3;clear hf hm3;intro hf hm3;go_wp2;exact hf.out
end Go.Proofs.YtoehlaeaafalmaaGreat
namespace Go.Proofs.YtoehlaeaafalmaaGreat
open Go.RowKit
open Jn Vn Rg Ky
attribute [local go_sem] Oper.semAt_some
theorem ZgS {w:World} {kb mb:Nat} {A:VAt} {m:Mem} {s:VSt} (h:KyR w kb mb A m s) (hs:KySt s) (hB:XB 64 72 18 A.Z) (hl:s.l.length≤899999) {e:KEn} (he:KOk e) (het:e.tries = e.lim) {va:Option Addr} {vc:Nat} (hv:Src w (.slice va 16 vc) e.val) (hrm:Room m (vcost A)) :
  Calls Tryz.prog 17 #[ptr kb,.agg #[.int .i64 (e.set:Int),.int .i64 (e.kind:Int),.slice va 16 vc,.int .i64 (e.lim:Int)]] w (KCall w kb mb A m s (xApp s (64 + pl e,some (kB e))) (vcost A) (errno 0) (errno 7)):=by
 have hV:=fun W=>Zb2 W (e.set:Int) (e.kind:Int)
 have hok:okP (e.set:Int) (e.kind:Int) = true:=by
  obtain ⟨a1,a2,a3,a4,-⟩:=he;unfold okP;rw [decide_eq_true (by omega),decide_eq_true (by omega),decide_eq_true (by omega),decide_eq_true (by omega)]
  rfl
 rw [hok] at hV;have hR:=fun W (hm:Mod Nowhere w W)=>Z1 (h.fresh hm).at_ (h.fresh hm).rep;have hK0:=fun W (hm:Mod Nowhere w W)=>h.at_.c W hm;have hI:=fun W=>Z0 W e.set e.kind (by have:=he.s8;omega) (by have:=he.k6;omega);have hE:=fun W (hm:Mod Nowhere w W)=>X1 (e:=e) (hv.fresh hm) he;rw [het] at hE;obtain ⟨happ,hview⟩:=hs.app he
 have hP:∀ W u,Mod Nowhere w W→DSl W u (kB e)→Calls Tryz.prog 51 #[ptr A.vb,.int .i64 ((64 + pl e:Nat):Int),u] W (KCall w kb mb A m s (xApp s (64 + pl e,some (kB e))) (vcost A) (errno 0) (errno 7)):=fun W u hm hd=>by
  have h1:=ZgD (h.rep.fresh hm) (by have:=h.len;omega) ((64 + pl e:Nat):Int) hd.src he.bytes (by rw [he.len];decide) hrm;rw [Zfa hs.x (inR he) hB] at h1;exact h1.mono fun r w' hc=>hc.k (hm.nowhere) (h.fresh hm) happ.v (by have:=Zba s (64 + pl e,some (kB e));show (xApp s (64 + pl e,some (kB e))).l.length≤_;omega)
 have hre:∀ (r:Ending) (W:World),KCall w kb mb A m s (xApp s (64 + pl e,some (kB e))) (vcost A) (errno 0) (errno 7) r W→∃ n:Int,r = .returned (errno n):=fun r W hc=>by
  rcases hc with ⟨_,_,a,_⟩ | ⟨_,_,a,_⟩
  ·exact ⟨0,a⟩
  ·exact ⟨7,a⟩
 generalize KCall w kb mb A m s (xApp s (64 + pl e,some (kB e))) (vcost A) (errno 0) (errno 7) = R at *;have hm2:Mod Nowhere w ((w.alloc (.cells #[.int .i64 (e.set:Int),.int .i64 (e.kind:Int),.slice va 16 vc,.int .i64 (e.lim:Int)] 39)).alloc (.cells #[.int .i64 (e.set:Int),.int .i64 (e.kind:Int)] 88)):=((Mod.refl _ w).alloc _).alloc _
 have hb1:∀ W,Mod Nowhere ((w.alloc (.cells #[.int .i64 (e.set:Int),.int .i64 (e.kind:Int),.slice va 16 vc,.int .i64 (e.lim:Int)] 39)).alloc (.cells #[.int .i64 (e.set:Int),.int .i64 (e.kind:Int)] 88)) W→Blk W w.heap.size [.int .i64 (e.set:Int),.int .i64 (e.kind:Int),.slice va 16 vc,.int .i64 (e.lim:Int)] 39∧Blk W (w.heap.size + 1) [.int .i64 (e.set:Int),.int .i64 (e.kind:Int)] 88:=fun W hm=>by
  refine ⟨((Blk.new w [.int .i64 (e.set:Int),.int .i64 (e.kind:Int),.slice va 16 vc,.int .i64 (e.lim:Int)] 39).mod ((Mod.refl Nowhere _).alloc _) id).mod hm id,?_⟩;have:=(Blk.new (w.alloc (.cells #[.int .i64 (e.set:Int),.int .i64 (e.kind:Int),.slice va 16 vc,.int .i64 (e.lim:Int)] 39)) [.int .i64 (e.set:Int),.int .i64 (e.kind:Int)] 88).mod hm id;simpa using this
 have hl1:¬ (e.lim:Int) < 1:=by have:=he.l1;omega
 have hl2:¬ (15:Int) < (e.lim:Int):=by have:=he.l15;omega
 have hpe:64 + (8 * e.set + e.kind) = 64 + pl e:=rfl;rw [hpe] at hI;obtain ⟨k0,k1,kbl⟩:=hK0 w (Mod.refl _ _);clear h hs hB hrm hv he het hok hpe happ hview;generalize 64 + pl e = num at *;generalize kB e = bs at *;generalize e.set = S at *;generalize e.kind = T at *;generalize e.lim = l at *;refine hid9 ?_ hV hR hK0 hI hE hP hre hm2 hb1;clear hV hR hK0 hI hE hP hre hm2 hb1;intro hV hR hK0 hI hE hP hre hm2 hb1;go_enter Tryz.func17,Tryz.ntmps17;go_wp2_with fail;refine (hV.out _).mono ?_;rintro r w3 ⟨rfl,hm3⟩;have hm03:=hm2.out.trans hm3;obtain ⟨b1,b2⟩:=hb1.out w3 hm3;have hR3:=hR.out w3 hm03;have c2:=b1.cell 2;have c3:=b1.cell 3;have cl:=b1.lt
 simp only [gz0,gs0] at c2 c3;refine hid5 ?_ hR3 b1 b2 hm3 hm03;clear hR3 b1 b2 hm3 hm03;intro hR3 b1 b2 hm3 hm03;go_wp2_with fail;refine hR3.out.mono ?_;rintro r w4 ⟨rfl,hm4⟩;have hm04:=hm03.out.trans hm4;have hb4:=b1.out.mod hm4 id;have hp4:=b2.out.mod hm4 id;clear b1 b2 hR3 hm3 hm03 c2 c3 cl k0 k1 kbl hV hR hm2 hb1;refine hid4 ?_ hm04 hb4 hp4 hm4;clear hm04 hb4 hp4 hm4;intro hm04 hb4 hp4 hm4;go_wp2_with fail;generalize w.heap.size = kp at *;refine ZD 14 (fun i v w'=>match i with | 0=>(v = ptr kb) | 1=>(v = ptr kb) | 2=>(v = .pointer (some ⟨kb,0,none⟩)) | 3=>(v = ptr A.vb) | 4=>(v = .agg #[.int .i64 (S:Int),.int .i64 (T:Int)]) | 5=>(v = .int .i64 (num:Int)) | 6=>(v = .pointer (some ⟨kp,3,none⟩)) | 7=>(v = .int .i64 (l:Int)) | 8=>(v = .pointer (some ⟨kp,3,none⟩)) | 9=>(v = .int .i64 (l:Int)) | 10=>(v = .pointer (some ⟨kp,2,none⟩)) | 11=>(v = .slice va 16 vc) | 12=>(v = .agg #[.int .i64 (l:Int),.int .i64 (l:Int),.slice va 16 vc]) | 13=>(∃ (a:Option Addr) (n c:Nat),v = .slice a n c∧DSl w' (.slice a n c) bs) | _=>True) ?A_ (by first | assumption | kernel_rfl) (by kernel_rfl) (by kernel_rfl) (by kernel_rfl) (by decide) ?hA_ ?hS_ ?hE_
 case hA_=>intro xs;simp [putAll,List.range,List.range.loop,Act.put] <;> rfl
 case hS_ =>
  refine ⟨?_,?_,?_,?_,?_,?_,?_,?_,?_,?_,?_,?_,?_,?_,trivial⟩
  ·-- 0: t47:=move(t0)
   intro yv w' hR hF K hK;clear hF
   go_simp
   exact hK _ _ (fun _ _=>by first | trivial | rfl | simp [*]) (Mod.refl _ _)
  ·-- 1: t48:=nilCheck(t47)
   intro yv w' hR hF K hK;have f0:(yv 0) = ptr kb:=hF 0 (by kernel_rfl) w' (Mod.refl _ _);clear hF;generalize yv 0 = y0 at *;subst f0
   go_simp
   exact hK _ _ (fun _ _=>by first | trivial | rfl | simp [*]) (Mod.refl _ _)
  ·-- 2: t49:=fieldAddr(55,t48,0)
   intro yv w' hR hF K hK;have f1:(yv 1) = ptr kb:=hF 1 (by kernel_rfl) w' (Mod.refl _ _);clear hF;generalize yv 1 = y1 at *;subst f1
   go_simp
   exact hK _ _ (fun _ _=>by first | trivial | rfl | simp [*]) (Mod.refl _ _)
  ·-- 3: t50:=load(26,t49)
   intro yv w' hR hF K hK;have f2:(yv 2) = .pointer (some ⟨kb,0,none⟩):=hF 2 (by kernel_rfl) w' (Mod.refl _ _);clear hF;generalize yv 2 = y2 at *;subst f2;obtain ⟨z0,z1,zl⟩:=hK0.out w' (hm04.out.trans ((Mod.refl Nowhere _).drew.trans hR))
   go_simp
   exact hK _ _ (fun _ _=>rfl) (Mod.refl _ _)
  ·-- 4: t51:=load(88,t5)
   intro yv w' hR hF K hK;clear hF;have b2:=hp4.out.mod ((Mod.refl Nowhere _).drew.trans hR) (fun e=>e);have z0:=b2.cell 0;have z1:=b2.cell 1;have zl:=b2.lt;simp only [gz0,gs0] at z0 z1;clear b2
   go_simp
   exact hK _ _ (fun _ _=>rfl) (Mod.refl _ _)
  ·-- 5: t52:=CALL F42 (t51)
   intro yv w' hR hF K hK;have f4:(yv 4) = .agg #[.int .i64 (S:Int),.int .i64 (T:Int)]:=hF 4 (by kernel_rfl) w' (Mod.refl _ _);clear hF;generalize yv 4 = y4 at *;subst f4;have hc:=hI.out w';replace hc:=Lib.hid hc
   go_simp
   go_at_call 42
   refine hc.out.mono ?_;rintro e w9 ⟨rfl,hm9⟩;exact hK _ _ (fun _ _=>rfl) hm9
  ·-- 6: t53:=fieldAddr(39,t3,3)
   intro yv w' hR hF K hK;clear hF
   go_simp
   exact hK _ _ (fun _ _=>by first | trivial | rfl | simp [*]) (Mod.refl _ _)
  ·-- 7: t54:=load(3,t53)
   intro yv w' hR hF K hK;have f6:(yv 6) = .pointer (some ⟨kp,3,none⟩):=hF 6 (by kernel_rfl) w' (Mod.refl _ _);clear hF;generalize yv 6 = y6 at *;subst f6;have b2:=hb4.out.mod ((Mod.refl Nowhere _).drew.trans hR) (fun e=>e);have z0:=b2.cell 3;have zl:=b2.lt;simp only [gz0,gs0] at z0;clear b2
   go_simp
   exact hK _ _ (fun _ _=>rfl) (Mod.refl _ _)
  ·-- 8: t55:=fieldAddr(39,t3,3)
   intro yv w' hR hF K hK;clear hF
   go_simp
   exact hK _ _ (fun _ _=>by first | trivial | rfl | simp [*]) (Mod.refl _ _)
  ·-- 9: t56:=load(3,t55)
   intro yv w' hR hF K hK;have f8:(yv 8) = .pointer (some ⟨kp,3,none⟩):=hF 8 (by kernel_rfl) w' (Mod.refl _ _);clear hF;generalize yv 8 = y8 at *;subst f8;have b2:=hb4.out.mod ((Mod.refl Nowhere _).drew.trans hR) (fun e=>e);have z0:=b2.cell 3;have zl:=b2.lt;simp only [gz0,gs0] at z0;clear b2
   go_simp
   exact hK _ _ (fun _ _=>rfl) (Mod.refl _ _)
  ·-- 10: t57:=fieldAddr(39,t3,2)
   intro yv w' hR hF K hK;clear hF
   go_simp
   exact hK _ _ (fun _ _=>by first | trivial | rfl | simp [*]) (Mod.refl _ _)
  ·-- 11: t58:=load(37,t57)
   intro yv w' hR hF K hK;have f10:(yv 10) = .pointer (some ⟨kp,2,none⟩):=hF 10 (by kernel_rfl) w' (Mod.refl _ _);clear hF;generalize yv 10 = y10 at *;subst f10;have b2:=hb4.out.mod ((Mod.refl Nowhere _).drew.trans hR) (fun e=>e);have z0:=b2.cell 2;have zl:=b2.lt;simp only [gz0,gs0] at z0;clear b2
   go_simp
   exact hK _ _ (fun _ _=>rfl) (Mod.refl _ _)
  ·-- 12: t59:=build(93,[(0,t54),(1,t56),(2,t58)])
   intro yv w' hR hF K hK;have f7:(yv 7) = .int .i64 (l:Int):=hF 7 (by kernel_rfl) w' (Mod.refl _ _);have f9:(yv 9) = .int .i64 (l:Int):=hF 9 (by kernel_rfl) w' (Mod.refl _ _);have f11:(yv 11) = .slice va 16 vc:=hF 11 (by kernel_rfl) w' (Mod.refl _ _);clear hF;generalize yv 7 = y7 at *;subst f7;generalize yv 9 = y9 at *;subst f9;generalize yv 11 = y11 at *;subst f11
   go_simp
   exact hK _ _ (fun _ _=>by first | trivial | rfl | simp [*]) (Mod.refl _ _)
  ·-- 13: t60:=CALL F52 (t59)
   intro yv w' hR hF K hK;have f12:(yv 12) = .agg #[.int .i64 (l:Int),.int .i64 (l:Int),.slice va 16 vc]:=hF 12 (by kernel_rfl) w' (Mod.refl _ _);have f5:(yv 5) = .int .i64 (num:Int):=hF 5 (by kernel_rfl) w' (Mod.refl _ _);clear hF;generalize yv 12 = y12 at *;subst f12;generalize yv 5 = y5 at *;subst f5;have hc:=hE.out w' (hm04.out.trans ((Mod.refl Nowhere _).drew.trans hR));replace hc:=Lib.hid hc
   go_simp
   go_at_call 52
   refine hc.out.mono ?_;rintro e w9 ⟨u,rfl,hd,hm9⟩;obtain ⟨a,c,rfl,-⟩:=Sl.len hd;exact hK _ _ (fun W hW=>⟨a,_,c,rfl,hd.fresh hW⟩) hm9
 case hE_ =>
  intro yv w' hR hF;have f0:(yv 0) = ptr kb:=hF 0 (by simp) w' (Mod.refl _ _);have f1:(yv 1) = ptr kb:=hF 1 (by simp) w' (Mod.refl _ _);have f2:(yv 2) = .pointer (some ⟨kb,0,none⟩):=hF 2 (by simp) w' (Mod.refl _ _);have f3:(yv 3) = ptr A.vb:=hF 3 (by simp) w' (Mod.refl _ _);have f4:(yv 4) = .agg #[.int .i64 (S:Int),.int .i64 (T:Int)]:=hF 4 (by simp) w' (Mod.refl _ _);have f5:(yv 5) = .int .i64 (num:Int):=hF 5 (by simp) w' (Mod.refl _ _);have f6:(yv 6) = .pointer (some ⟨kp,3,none⟩):=hF 6 (by simp) w' (Mod.refl _ _);have f7:(yv 7) = .int .i64 (l:Int):=hF 7 (by simp) w' (Mod.refl _ _);have f8:(yv 8) = .pointer (some ⟨kp,3,none⟩):=hF 8 (by simp) w' (Mod.refl _ _)
  have f9:(yv 9) = .int .i64 (l:Int):=hF 9 (by simp) w' (Mod.refl _ _);have f10:(yv 10) = .pointer (some ⟨kp,2,none⟩):=hF 10 (by simp) w' (Mod.refl _ _);have f11:(yv 11) = .slice va 16 vc:=hF 11 (by simp) w' (Mod.refl _ _);have f12:(yv 12) = .agg #[.int .i64 (l:Int),.int .i64 (l:Int),.slice va 16 vc]:=hF 12 (by simp) w' (Mod.refl _ _);have f13:∃ (a:Option Addr) (n c:Nat),(yv 13) = .slice a n c∧DSl w' (.slice a n c) bs:=hF 13 (by simp) w' (Mod.refl _ _);clear hF;generalize yv 0 = y0 at *;subst f0;generalize yv 1 = y1 at *;subst f1;generalize yv 2 = y2 at *;subst f2
  generalize yv 3 = y3 at *;subst f3;generalize yv 4 = y4 at *;subst f4;generalize yv 5 = y5 at *;subst f5;generalize yv 6 = y6 at *;subst f6;generalize yv 7 = y7 at *;subst f7;generalize yv 8 = y8 at *;subst f8;generalize yv 9 = y9 at *;subst f9;generalize yv 10 = y10 at *;subst f10;generalize yv 11 = y11 at *;subst f11;generalize yv 12 = y12 at *;subst f12;generalize yv 13 = y13 at *;simp only [List.drop_succ_cons,List.drop_zero];obtain ⟨a,n,c,rfl,hd⟩:=f13;have hc:=hP.out w' _ (hm04.out.trans ((Mod.refl Nowhere _).drew.trans hR)) hd;clear hR hd hm04 hb4 hp4 hK0 hI hE hm4;replace hc:=Lib.hid hc
  go_wp2_with fail;refine hc.out.mono ?_;intro r w9 hr;obtain ⟨n,rfl⟩:=hre.out _ _ hr;replace hr:=Lib.hid hr;go_wp2;exact hr.out
theorem Zcb {w:World} {kb mb:Nat} {A:VAt} {m:Mem} {s:VSt} (h:KyR w kb mb A m s) (hs:KySt s) (hB:XB 64 72 18 A.Z) (hl:s.l.length≤899999) {x:RK} {v:Value} (hv:Src w v x.val) (bv:Bytes x.val) (hrm:Room m (vcost A)) :
  Calls Tryz.prog 17 #[ptr kb,.agg #[.int .i64 x.set,.int .i64 x.kind,v,.int .i64 x.lim]] w (KCall w kb mb A m s (kPut s x).1 (vcost A) (errno ((kPut s x).2:Nat)) (errno 7)):=by
 unfold kPut
 cases hx:x.ok with
 | true =>
  rw [if_pos rfl];obtain ⟨he,e1,e2,e3⟩:=RK.okk hx bv;obtain ⟨a,c,rfl,-⟩:=id hv;have h16:x.val.length = 16:=he.v16;rw [h16] at hv ⊢;have:=ZgS h hs hB hl he rfl (hv:Src w (.slice a 16 c) x.en.val) hrm;rw [e1,e2,e3] at this;exact this
 | false =>
  rw [if_neg (by decide)];obtain ⟨a,c,rfl,-⟩:=id hv;exact ZgR h rfl hx
namespace Ky
def kNow (s:VSt) (e:KEn):VSt × Nat:=if (s.l.any fun r=>decide (r.1 = 64 + pl e)) = true then (s,14) else ({ s with f:=set1 s.f (64 + pl e,some (kB e)) },0)
def KEn.less (e:KEn):KEn:={ e with tries:=e.tries - 1 }
def KEn.full (e:KEn):KEn:={ e with tries:=e.lim }
def kSpend (s:VSt) (st kd:Int):VSt × Nat × Nat:=match kfind (kl (view s)) st kd with
 | none=>(s,0,19)
 | some e=>if e.tries = 0 then (s,0,18) else ((kNow s e.less).1,if (kNow s e.less).2 = 0 then e.tries - 1 else 0,(kNow s e.less).2)
def kRestore (s:VSt) (st kd:Int):VSt × Nat:=match kfind (kl (view s)) st kd with
 | none=>(s,19)
 | some e=>kNow s e.full
theorem KOk.less {e:KEn} (h:KOk e):KOk e.less:=⟨h.s1,h.s8,h.k1,h.k6,h.l1,h.l15,by have:=h.tl;unfold KEn.less;dsimp only;omega,h.v16,h.bv⟩
theorem KOk.full {e:KEn} (h:KOk e):KOk e.full:=⟨h.s1,h.s8,h.k1,h.k6,h.l1,h.l15,Nat.le_refl _,h.v16,h.bv⟩
theorem KySt.now {s:VSt} (h:KySt s) {e:KEn} (he:KOk e):KySt (kNow s e).1∧(kNow s e).1.l = s.l:=by
 unfold kNow
 split
 ·exact ⟨h,rfl⟩
 ·rename_i hn
  refine ⟨⟨h.f.set he,?_,⟨h.x.f.set (inR he),h.x.l,h.x.idle⟩⟩,rfl⟩
  show KIt (sets (set1 s.f (64 + pl e,some (kB e))) s.l)
  rw [← Za6 s.f (64 + pl e,some (kB e)) s.l fun x hx hq=>hn (List.any_eq_true.2 ⟨x,hx,decide_eq_true hq⟩)];exact h.v.set he
end Ky
def KRel (mb:Nat) (L:List KEn) (X Y:World):Prop:=Mod (OneB mb) X Y∧(KLk X mb L→KLk Y mb L)∧(MapIs X mb→MapIs Y mb)
theorem KRel.refl (mb:Nat) (L:List KEn) (X:World):KRel mb L X X:=⟨Mod.refl _ _,id,id⟩
theorem KRel.trans (mb:Nat) (L:List KEn) (X Y Z:World) (h:KRel mb L X Y) (k:KRel mb L Y Z):KRel mb L X Z:=⟨h.1.trans k.1,fun x=>k.2.1 (h.2.1 x),fun x=>k.2.2 (h.2.2 x)⟩
theorem KRel.calm {mb:Nat} {L:List KEn} {X Y:World} (h:Mod Nowhere X Y):KRel mb L X Y:=⟨h.nowhere,fun x=>x.fresh h,fun x=>x.fresh h⟩
theorem DSl.only {w w':World} {mb:Nat} {v:Value} {d:List Nat} (h:DSl w v d) (hmi:MapIs w mb) (hm:Mod (OneB mb) w w'):DSl w' v d:=by
 obtain ⟨n,f,hf⟩:=hmi
 exact DSl.mod h hm fun k e cs hb=>by
  have e:k = mb:=e;rw [e] at hb;exact Ze hf.map hb
theorem Blk.only {w w':World} {mb b:Nat} {cs:List Value} {T:TypeId} (h:Blk w b cs T) (hmi:MapIs w mb) (hm:Mod (OneB mb) w w'):Blk w' b cs T:=by
 obtain ⟨n,f,hf⟩:=hmi;refine h.mod hm fun e=>?_;have e:b = mb:=e;rw [e] at h;exact Ze hf.map h
theorem VCall.modS {w w':World} {A:VAt} {m:Mem} {s s':VSt} {er n:Nat} {e:Ending} (h:VCall w A m s s' er n e w'):Mod A.S w w':=by
 rcases h with ⟨m',k,-,-,-,-,a⟩ | ⟨m',f,-,-,-,-,a⟩ <;> exact a
theorem KCall.re {w w':World} {kb mb:Nat} {A:VAt} {m:Mem} {s s':VSt} {n:Nat} {ro rc:Value} {e:Ending} (h:KCall w kb mb A m s s' n ro rc e w') :
  (e = .returned ro∧∀ ro' rc',KCall w kb mb A m s s' n ro' rc' (.returned ro') w') ∨ (e = .returned rc∧∀ ro' rc',KCall w kb mb A m s s' n ro' rc' (.returned rc') w'):=by
 rcases h with ⟨m',k,a,b⟩ | ⟨m',f,a,b⟩
 ·exact .inl ⟨a,fun ro' rc'=>.inl ⟨m',k,rfl,b⟩⟩
 ·exact .inr ⟨a,fun ro' rc'=>.inr ⟨m',f,rfl,b⟩⟩
theorem set3 {w2:World} {B:Nat} {T:TypeId} {c0 c1 c2:Value} (hb:Blk w2 B [c0,c1,c2] T) (v0:Value):Blk (w2.setCell ⟨B,0,none⟩ v0) B [v0,c1,c2] T∧Mod (fun j=>j = B) w2 (w2.setCell ⟨B,0,none⟩ v0) :=
 ⟨hb.setCell 0 v0,(Mod.refl (fun j=>j = B) w2).setCell (p:=⟨B,0,none⟩) (fun _=>rfl) v0⟩
theorem Zcc {w W:World} {kb mb:Nat} {A:VAt} {m:Mem} {s:VSt} (h:KyR W kb mb A m s) (hm:Mod (KS A mb) w W) (hs:KySt s) (hB:XB 64 72 18 A.Z) {e:KEn} (he:KOk e) {u:Value} (hu:DSl W u (kB e)) (hrm:Room m (vcost A)) :
  Calls Tryz.prog 54 #[ptr A.vb,.int .i64 ((64 + pl e:Nat):Int),u] W fun r w'=>KCall w kb mb A m s (kNow s e).1 (vcost A) (errno (kNow s e).2) (errno 7) r w'∧Mod A.S W w':=by
 have h1:=ZgQ h.rep (by have:=h.len;omega) ((64 + pl e:Nat):Int) hu.src he.bytes (by rw [he.len];decide) hrm;rw [Zfe hs.x (inR he) hB] at h1;obtain ⟨g1,g2⟩:=hs.now he;refine h1.mono fun r w' hc=>⟨?_,hc.modS⟩;exact hc.k hm h g1.v (by show (kNow s e).1.l.length≤_;rw [g2];exact h.len)
theorem Zcd {w:World} {kb mb:Nat} {A:VAt} {m:Mem} {s:VSt} (h:KyR w kb mb A m s) (hs:KySt s) (hB:XB 64 72 18 A.Z) (st kd:Int) (hst:I64 st) (hkd:I64 kd) (hrm:Room m (vcost A)) :
  Calls Tryz.prog 18 #[ptr kb,.int .i64 st,.int .i64 kd] w (KCall w kb mb A m s (kSpend s st kd).1 (vcost A) (.tuple #[.int .i64 ((kSpend s st kd).2.1:Nat),errno ((kSpend s st kd).2.2:Nat)]) (.tuple #[.int .i64 0,errno 7])):=by
 have hR:=Z1 h.at_ h.rep;have hA:=fun W (hm:Mod (OneB mb) w W) (hmi:MapIs W mb)=>Yw (h.only hm hmi);have hL:=kl_KL h.it;have hmi:=h.mapIs;have hKs:=fun W (hm:Mod (OneB mb) w W) (hmi:MapIs W mb)=>(h.only hm hmi).at_;have hKr:=fun W (hm:Mod (OneB mb) w W) (hmi:MapIs W mb)=>(h.only hm hmi);obtain ⟨R,hRe⟩:∃ R,KCall w kb mb A m s (kSpend s st kd).1 (vcost A) (.tuple #[.int .i64 ((kSpend s st kd).2.1:Nat),errno ((kSpend s st kd).2.2:Nat)]) (.tuple #[.int .i64 0,errno 7]) = R:=⟨_,rfl⟩;rw [hRe];obtain ⟨L,hLe⟩:∃ L,kl (view s) = L:=⟨_,rfl⟩;rw [hLe] at hA hL;obtain ⟨f,hfe⟩:∃ f,kfind L st kd = f:=⟨_,rfl⟩
 obtain ⟨tr,htr⟩:∃ x:Nat,(f.map (·.tries)).getD 0 = x:=⟨_,rfl⟩
 obtain ⟨li,hli⟩:∃ x:Nat,(f.map (·.lim)).getD 0 = x:=⟨_,rfl⟩
 obtain ⟨vl,hvl⟩:∃ x:List Nat,(f.map (·.val)).getD [] = x:=⟨_,rfl⟩
 obtain ⟨bo,hbo⟩:∃ x:Bool,f.isSome = x:=⟨_,rfl⟩;refine hid12 ?_ hR hA hL hmi hKs hKr hRe hLe hfe htr hli hvl;clear hR hA hL hmi hKs hKr hRe hLe hfe htr hli hvl;intro hR hA hL hmi hKs hKr hRe hLe hfe htr hli hvl;refine hid2 ?_ hbo h;clear hbo h;intro hbo h;go_enter Tryz.func18,Tryz.ntmps18;go_wp2_with fail;refine (hR.out).mono ?_;rintro e w1 ⟨rfl,hm1⟩;have hmA:=hm1.alloc (.cells #[.int .i64 st,.int .i64 kd] 88);have hbp:=Blk.new w1 [.int .i64 st,.int .i64 kd] 88;have hmi1:=(hmi.out.fresh hmA).fresh (Mod.refl Nowhere _).drew;have hszA:w.heap.size≤(w1.alloc (.cells #[.int .i64 st,.int .i64 kd] 88)).heap.size:=hmA.size;refine hid5 ?_ hmA hbp hmi1 hm1 hszA;clear hmA hbp hmi1 hm1 hszA;intro hmA hbp hmi1 hm1 hszA
 go_wp2_with fail;refine Zbr 8 6 _ (by rfl) (by decide) (fun i v W0=>∀ w',(KRel mb L) W0 w'→match i with | 0=>(v = ptr kb) | 1=>(KLk w' mb L∧v = .map (some mb)) | 2=>(v = .agg #[.int .i64 st,.int .i64 kd]) | 3=>(∃ (a:Option Addr) (n c:Nat),v = .tuple #[.agg #[.int .i64 (tr:Int),.int .i64 (li:Int),.slice a n c],.bool bo]∧DSl w' (.slice a n c) vl) | 4=>(∃ (a:Option Addr) (n c:Nat),v = .tuple #[.agg #[.int .i64 (tr:Int),.int .i64 (li:Int),.slice a n c],.bool bo]∧DSl w' (.slice a n c) vl) | 5=>(∃ (a:Option Addr) (n c:Nat),v = .agg #[.int .i64 (tr:Int),.int .i64 (li:Int),.slice a n c]∧DSl w' (.slice a n c) vl) | 6=>(v = .bool bo) | 7=>(∃ B:Nat,v = ptr B∧w.heap.size≤B∧Blk w' B [.int .i64 0,.int .i64 0,.slice none 0 0] 93) | _=>True) (KRel mb L) ?A_ (by first | assumption | kernel_rfl) (by kernel_rfl) (by kernel_rfl) (by kernel_rfl) (by decide) (by kernel_rfl) (by kernel_rfl) (by kernel_rfl) (by exact fun _ _ _ _ h=>h) (KRel.refl mb L) (KRel.trans mb L) (fun i v w1 w2 h hR Z hZ=>h Z (KRel.trans mb L _ _ _ hR hZ)) ?hA_ ?hS_ ?hP_ ?hE_
 case hA_=>intro xs;simp [putAll,List.range,List.range.loop,Act.put] <;> rfl
 case hS_ =>
  refine ⟨?_,?_,?_,?_,?_,?_,?_,?_,trivial⟩
  ·-- 0: t22:=move(t0)
   intro yv w' hR hF K hK;clear hF
   go_simp
   exact hK _ _ (fun _ _=>by first | trivial | rfl | simp [*]) (KRel.refl mb L _)
  ·-- 1: t23:=CALL F53 (t22)
   intro yv w' hR hF K hK;have f0:(yv 0) = ptr kb:=hF 0 (by kernel_rfl) w' (KRel.refl mb L w');clear hF;generalize yv 0 = y0 at *;subst f0;have hmx:=(hmA.out.nowhere (S:=OneB mb)).drew.trans hR.1;have hc:=hA.out w' hmx (hR.2.2 hmi1.out);replace hc:=Lib.hid hc
   go_simp
   go_at_call 53
   refine hc.out.mono ?_;rintro e w9 ⟨rfl,hk9,hm9⟩;exact hK _ _ (fun W hW=>⟨hW.2.1 hk9,rfl⟩) ⟨hm9,fun _=>hk9,fun _=>hk9.map⟩
  ·-- 2: t24:=load(88,t9)
   intro yv w' hR hF K hK;clear hF;have b2:=Blk.only (w:=World.drew _) hbp.out.drew hmi1.out hR.1;have z0:=b2.cell 0;have z1:=b2.cell 1;have zl:=b2.lt;simp only [gz0,gs0] at z0 z1;clear b2
   go_simp
   exact hK _ _ (fun _ _=>rfl) (KRel.refl mb L _)
  ·-- 3: t25:=lookup(53,t23,t24,true)
   intro yv w' hR hF K hK;have f1:KLk w' mb L∧(yv 1) = .map (some mb):=hF 1 (by kernel_rfl) w' (KRel.refl mb L w');have f2:(yv 2) = .agg #[.int .i64 st,.int .i64 kd]:=hF 2 (by kernel_rfl) w' (KRel.refl mb L w');clear hF;generalize yv 1 = y1 at *;generalize yv 2 = y2 at *;subst f2;obtain ⟨hk,rfl⟩:=f1;obtain ⟨u,hlook,hdu⟩:=hk.look hL.out hst hkd;have hl1:=hlook w' (Mod.refl _ _);rw [hfe.out,htr.out,hli.out,hbo.out] at hl1;rw [hfe.out,hvl.out] at hdu;obtain ⟨ua,uc,rfl,-⟩:=Sl.len hdu;clear hlook;have hfin:=fun W (hW:KRel mb L w' W)=>hdu.only hk.map hW.1;refine hid3 ?_ hfin hk hdu;clear hfin hk hdu;intro hfin hk hdu
   go_simp
   exact hK _ _ (fun W hW=>⟨ua,_,uc,rfl,hfin.out W hW⟩) (KRel.refl mb L _)
  ·-- 4: t21:=move(t25)
   intro yv w' hR hF K hK;have f3:∃ (a:Option Addr) (n c:Nat),(yv 3) = .tuple #[.agg #[.int .i64 (tr:Int),.int .i64 (li:Int),.slice a n c],.bool bo]∧DSl w' (.slice a n c) vl:=hF 3 (by kernel_rfl) w' (KRel.refl mb L w');clear hF;generalize yv 3 = y3 at *;obtain ⟨a,n,c,rfl,hd⟩:=f3;have hfin:=fun W (hW:KRel mb L w' W)=>hd.only (hR.2.2 hmi1.out) hW.1;refine hid2 ?_ hfin hd;clear hfin hd;intro hfin hd
   go_simp
   exact hK _ _ (fun W hW=>⟨a,n,c,rfl,hfin.out W hW⟩) (KRel.refl mb L _)
  ·-- 5: t26:=extract(t21,0)
   intro yv w' hR hF K hK;have f4:∃ (a:Option Addr) (n c:Nat),(yv 4) = .tuple #[.agg #[.int .i64 (tr:Int),.int .i64 (li:Int),.slice a n c],.bool bo]∧DSl w' (.slice a n c) vl:=hF 4 (by kernel_rfl) w' (KRel.refl mb L w');clear hF;generalize yv 4 = y4 at *;obtain ⟨a,n,c,rfl,hd⟩:=f4;have hfin:=fun W (hW:KRel mb L w' W)=>hd.only (hR.2.2 hmi1.out) hW.1;refine hid2 ?_ hfin hd;clear hfin hd;intro hfin hd
   go_simp
   exact hK _ _ (fun W hW=>⟨a,n,c,rfl,hfin.out W hW⟩) (KRel.refl mb L _)
  ·-- 6: t27:=extract(t21,1)
   intro yv w' hR hF K hK;have f4:∃ (a:Option Addr) (n c:Nat),(yv 4) = .tuple #[.agg #[.int .i64 (tr:Int),.int .i64 (li:Int),.slice a n c],.bool bo]∧DSl w' (.slice a n c) vl:=hF 4 (by kernel_rfl) w' (KRel.refl mb L w');clear hF;generalize yv 4 = y4 at *;obtain ⟨a,n,c,rfl,hd⟩:=f4;replace hd:=Lib.hid hd
   go_simp
   exact hK _ _ (fun W hW=>rfl) (KRel.refl mb L _)
  ·-- 7: t10:=alloc(93)
   intro yv w' hR hF K hK;clear hF;have hB9:=Blk.new w' [.int .i64 0,.int .i64 0,.slice none 0 0] 93;have hmB:Mod Nowhere w' (w'.alloc (.cells #[.int .i64 0,.int .i64 0,.slice none 0 0] 93)):=(Mod.refl _ w').alloc _;have hmiB:=MapIs.fresh (hR.2.2 hmi1.out) hmB;have hszB:=Nat.le_trans hszA.out hR.1.size;have hfin:=fun W (hW:KRel mb L (w'.alloc (.cells #[.int .i64 0,.int .i64 0,.slice none 0 0] 93)) W)=>hB9.only hmiB hW.1;have hrel:=KRel.calm (mb:=mb) (L:=L) hmB;refine hid6 ?_ hfin hmB hmiB hB9 hszB hrel;clear hfin hmB hmiB hB9 hszB hrel;intro hfin hmB hmiB hB9 hszB hrel
   go_simp
   exact hK _ _ (fun W hW=>⟨w'.heap.size,rfl,hszB.out,hfin.out W hW⟩) hrel.out
 case hP_ =>
  intro yv w' hR hF;have f4:∃ (a:Option Addr) (n c:Nat),(yv 4) = .tuple #[.agg #[.int .i64 (tr:Int),.int .i64 (li:Int),.slice a n c],.bool bo]∧DSl w' (.slice a n c) vl:=hF 4 (by kernel_rfl) w' (KRel.refl mb L w');clear hF;generalize yv 4 = y4 at *;obtain ⟨a,n,c,rfl,hd⟩:=f4;replace hd:=Lib.hid hd;refine ⟨.bool bo,fun _ _=>rfl,Or.inl ⟨by rfl,fun W=>?_⟩⟩
  go_simp
 case hE_ =>
  intro yv w' hR hF;have f0:(yv 0) = ptr kb:=hF 0 (by decide) w' (KRel.refl mb L w');have f1:KLk w' mb L∧(yv 1) = .map (some mb):=hF 1 (by decide) w' (KRel.refl mb L w');have f2:(yv 2) = .agg #[.int .i64 st,.int .i64 kd]:=hF 2 (by decide) w' (KRel.refl mb L w');have f3:∃ (a:Option Addr) (n c:Nat),(yv 3) = .tuple #[.agg #[.int .i64 (tr:Int),.int .i64 (li:Int),.slice a n c],.bool bo]∧DSl w' (.slice a n c) vl:=hF 3 (by decide) w' (KRel.refl mb L w');have f4:∃ (a:Option Addr) (n c:Nat),(yv 4) = .tuple #[.agg #[.int .i64 (tr:Int),.int .i64 (li:Int),.slice a n c],.bool bo]∧DSl w' (.slice a n c) vl:=hF 4 (by decide) w' (KRel.refl mb L w');have f5:∃ (a:Option Addr) (n c:Nat),(yv 5) = .agg #[.int .i64 (tr:Int),.int .i64 (li:Int),.slice a n c]∧DSl w' (.slice a n c) vl:=hF 5 (by decide) w' (KRel.refl mb L w')
  have f6:(yv 6) = .bool bo:=hF 6 (by decide) w' (KRel.refl mb L w');have f7:∃ B:Nat,(yv 7) = ptr B∧w.heap.size≤B∧Blk w' B [.int .i64 0,.int .i64 0,.slice none 0 0] 93:=hF 7 (by decide) w' (KRel.refl mb L w');clear hF;generalize yv 0 = y0 at *;subst f0;generalize yv 1 = y1 at *;generalize yv 2 = y2 at *;subst f2;generalize yv 3 = y3 at *;generalize yv 4 = y4 at *;generalize yv 5 = y5 at *;generalize yv 6 = y6 at *;subst f6;generalize yv 7 = y7 at *;simp only [List.drop_succ_cons,List.drop_zero];obtain ⟨B,rfl,hBs,hB0⟩:=f7;obtain ⟨a,n,c,rfl,hd⟩:=f5;obtain ⟨hk,rfl⟩:=f1
  clear f3 f4;have hmx:=(hmA.out.nowhere (S:=OneB mb)).drew.trans hR.1;have hbx:=Blk.only (w:=World.drew _) hbp.out.drew hmi1.out hR.1;obtain ⟨hB1,hmB⟩:=setw3' hB0 (.int .i64 (tr:Int)) (.int .i64 (li:Int)) (.slice a n c);have hmiB:=MapIs.keep hk.map hB0 hmB;have hmF:=hmx.step hmB fun i hi e=>absurd e (by omega);have hd1:=DSl.mod hd hmB (fun k hk cs hb=>by rw [hk] at hb;exact absurd (hb.inj hB0).2 (by decide));have hb1:=hbx.mod hmB (fun e=>by have e:w1.heap.size = B:=e;rw [e] at hbx;exact absurd (hbx.inj hB0).2 (by decide));have z0:=hB0.cell 0;have z1:=hB0.cell 1;have z2:=hB0.cell 2;have zl:=hB0.lt;have zf:=hB0.frozen;simp only [gz0,gs0] at z0 z1 z2
  obtain ⟨w5,hw5⟩:∃ W,((w'.setCell ⟨B,0,none⟩ (.int .i64 (tr:Int))).setCell ⟨B,1,none⟩ (.int .i64 (li:Int))).setCell ⟨B,2,none⟩ (.slice a n c) = W:=⟨_,rfl⟩;rw [hw5] at hB1 hmiB hmF hd1 hb1;generalize hpb:w1.heap.size = pb at *;have z3:=hB1.cell 0;have zl3:=hB1.lt;simp only [gz0] at z3;have hKy5:=hKr.out w5 hmF hmiB;have hbl:pb < w5.heap.size:=hb1.lt;have hpB:pb ≠ B:=fun e=>by rw [e] at hb1;exact absurd (hb1.inj hB1).2 (by decide)
  clear hR hmA hbp hmi1 hm1 hszA hmx hbx hmB hd hk hA hmi hB0 hKr hKs;refine hid8 ?_ hB1 hmiB hmF hd1 hb1 hKy5 hbl hpB;clear hB1 hmiB hmF hd1 hb1 hKy5 hbl hpB;intro hB1 hmiB hmF hd1 hb1 hKy5 hbl hpB;clear hpb
  cases bo with
  | false =>
   have hf0:f = none:=by have:=hbo.out;simpa using this
   have hsp:kSpend s st kd = (s,0,19):=by
    unfold kSpend;rw [hLe.out,hfe.out,hf0]
   have hfin:R (.returned (.tuple #[.int .i64 0,errno 19])) w5:=by
    rw [← hRe.out,hsp];exact KCall.same hKy5.out (hmF.out.mono fun _ _ e=>.inl e)
   clear hf0 hsp;replace hfin:=Lib.hid hfin;go_wp2;exact hfin.out
  | true =>
   obtain ⟨e,hfs⟩:∃ e,f = some e:=Option.isSome_iff_exists.1 hbo.out;have htr':e.tries = tr:=by have:=htr.out;rw [hfs] at this;exact this
   have hli':e.lim = li:=by have:=hli.out;rw [hfs] at this;exact this
   have hvl':e.val = vl:=by have:=hvl.out;rw [hfs] at this;exact this
   have hek:=Zp hL.out (hfe.out.trans hfs)
   have hsp:kSpend s st kd = if e.tries = 0 then (s,0,18) else ((kNow s e.less).1,if (kNow s e.less).2 = 0 then e.tries - 1 else 0,(kNow s e.less).2):=by
    unfold kSpend;rw [hLe.out,hfe.out,hfs]
   have h15:tr≤15:=by have:=hek.2.1.tl;have:=hek.2.1.l15;omega
   clear hfs;by_cases ht0:tr = 0
   ·rw [if_pos (htr'.trans ht0)] at hsp;have hti:((tr:Int) == 0) = true:=by rw [ht0];rfl
    have hfin:R (.returned (.tuple #[.int .i64 0,errno 18])) w5:=by
     rw [← hRe.out,hsp];exact KCall.same hKy5.out (hmF.out.mono fun _ _ e=>.inl e)
    refine hid8 ?_ hfin hsp hek htr' hli' hvl' ht0 h15;clear hfin hsp hek htr' hli' hvl' ht0 h15;intro hfin hsp hek htr' hli' hvl' ht0 h15;go_wp2;exact hfin.out
   ·rw [if_neg (by omega)] at hsp;have hti:((tr:Int) == 0) = false:=by simpa using ht0
    have hw:IntKind.i64.wrap ((tr:Int) - 1) = ((tr - 1:Nat):Int):=by rw [IntKind.wrap_i64];omega
    have ht1:e.less.tries = tr - 1:=by show e.tries - 1 = _;rw [htr']
    have zf3:=hB1.out.frozen;obtain ⟨hB6,hm6⟩:=set3 hB1.out (.int .i64 ((tr - 1:Nat):Int));have hKy6m:MapIs _ mb:=MapIs.keep hmiB.out hB1.out hm6;have hmF6:=hmF.out.step hm6 fun i hi e=>absurd e (by have:=hBs;omega);have hd6:=DSl.mod hd1.out hm6 (fun k hk cs hb=>by rw [hk] at hb;exact absurd (hb.inj hB1.out).2 (by decide));have hb6:=hb1.out.mod hm6 (fun e=>hpB.out e);have hKy6:=h.out.only hmF6 hKy6m;have hid:=hek.2.1.less
    have hI:∀ W,Calls Tryz.prog 42 #[.agg #[.int .i64 st,.int .i64 kd]] W fun e' w'=>e' = .returned (.int .i64 ((64 + pl e.less:Nat):Int))∧Mod Nowhere W w':=fun W=>by
     have:=Z0 W e.set e.kind (by have:=hek.2.1.s8;omega) (by have:=hek.2.1.k6;omega);rw [← hek.2.2.1,← hek.2.2.2] at this;exact this
    have hE:=fun W u (hd:DSl W u vl)=>X1 (e:=e.less) (v:=u) (by show Src W u e.val;rw [hvl'];exact hd.src) hid;rw [ht1,show e.less.lim = li from hli'] at hE;obtain ⟨w6,hw6⟩:∃ W,w5.setCell ⟨B,0,none⟩ (.int .i64 ((tr - 1:Nat):Int)) = W:=⟨_,rfl⟩;rw [hw6] at hB6 hKy6m hmF6 hd6 hb6 hKy6;obtain ⟨t1,ht1e⟩:∃ x,tr - 1 = x:=⟨_,rfl⟩;rw [ht1e] at hw hw6 hB6 hE;have hN:=fun W (hm:Mod Nowhere w6 W) u (hu:DSl W u (kB e.less))=>Zcc (hKy6.fresh hm) ((hmF6.trans hm.nowhere).mono fun _ _ e=>.inl e:Mod (KS A mb) w W) hs hB hid hu hrm;have her:(kNow s e.less).2 = 0 ∨ (kNow s e.less).2 = 14:=by unfold kNow;split <;> simp
    have hns:∀ W,Mod Nowhere w6 W→∀ {b:Nat} {cs:List Value},Blk W b cs 93→¬ A.S b:=fun W hm b cs hb=>(hKy6.fresh hm).rep.noS hb (by decide) (by decide);have hK6:=hKy6.at_.c;have hfin:∀ (r:Value) (er:Nat) (W:World),(∀ ro' rc',KCall w kb mb A m s (kNow s e.less).1 (vcost A) ro' rc' (.returned r) W)→True:=fun _ _ _ _=>trivial
    have hRo:∀ er:Nat,(kNow s e.less).2 = er→∀ W,KCall w kb mb A m s (kNow s e.less).1 (vcost A) (.tuple #[.int .i64 ((if er = 0 then t1 else 0:Nat):Int),errno (er:Nat)]) (.tuple #[.int .i64 0,errno 7]) (.returned (.tuple #[.int .i64 ((if er = 0 then t1 else 0:Nat):Int),errno (er:Nat)])) W→R (.returned (.tuple #[.int .i64 ((if er = 0 then t1 else 0:Nat):Int),errno (er:Nat)])) W:=fun er he W hk=>by
     rw [← hRe.out,hsp,he,htr',ht1e];exact hk
    have hRc:∀ er:Nat,(kNow s e.less).2 = er→∀ W,KCall w kb mb A m s (kNow s e.less).1 (vcost A) (.tuple #[.int .i64 ((if er = 0 then t1 else 0:Nat):Int),errno (er:Nat)]) (.tuple #[.int .i64 0,errno 7]) (.returned (.tuple #[.int .i64 0,errno 7])) W→R (.returned (.tuple #[.int .i64 0,errno 7])) W:=fun er he W hk=>by
     rw [← hRe.out,hsp,he,htr',ht1e];exact hk
    clear hfin;generalize hnum:64 + pl e.less = num at *;generalize hbs:kB e.less = bs at *;clear hKy6m hKy6 hm6 hid hek;refine hid12 ?_ hB6 hmF6 hd6 hb6 hI hE hN her hns hK6 hRo hRc;clear hB6 hmF6 hd6 hb6 hI hE hN her hns hK6 hRo hRc;intro hB6 hmF6 hd6 hb6 hI hE hN her hns hK6 hRo hRc;refine hid10 ?_ hsp htr' hli' hvl' ht0 h15 ht1 ht1e hnum hbs;clear hsp htr' hli' hvl' ht0 h15 ht1 ht1e hnum hbs;intro hsp htr' hli' hvl' ht0 h15 ht1 ht1e hnum hbs;go_wp2_with fail;clear z0 z1 z2 zl zf z3 zl3 zf3 hw5 hw6;refine ZD 8 (fun i v w'=>match i with | 0=>(v = ptr kb) | 1=>(v = ptr kb) | 2=>(v = .pointer (some ⟨kb,0,none⟩)) | 3=>(v = ptr A.vb) | 4=>(v = .agg #[.int .i64 st,.int .i64 kd]) | 5=>(v = .int .i64 (num:Int)) | 6=>(v = .agg #[.int .i64 (t1:Int),.int .i64 (li:Int),.slice a n c]) | 7=>(∃ (a:Option Addr) (n c:Nat),v = .slice a n c∧DSl w' (.slice a n c) bs) | _=>True) ?A_11_1 (by first | assumption | kernel_rfl) (by kernel_rfl) (by kernel_rfl) (by kernel_rfl) (by decide) ?hA_11_1 ?hS_11_1 ?hE_11_1
    case hA_11_1=>intro xs;simp [putAll,List.range,List.range.loop,Act.put] <;> rfl
    case hS_11_1 =>
     refine ⟨?_,?_,?_,?_,?_,?_,?_,?_,trivial⟩
     ·-- 0: t39:=move(t0)
      intro yv w' hR hF K hK;clear hF
      go_simp
      exact hK _ _ (fun _ _=>by first | trivial | rfl | simp [*]) (Mod.refl _ _)
     ·-- 1: t40:=nilCheck(t39)
      intro yv w' hR hF K hK;have f0:(yv 0) = ptr kb:=hF 0 (by kernel_rfl) w' (Mod.refl _ _);clear hF;generalize yv 0 = y0 at *;subst f0
      go_simp
      exact hK _ _ (fun _ _=>by first | trivial | rfl | simp [*]) (Mod.refl _ _)
     ·-- 2: t41:=fieldAddr(55,t40,0)
      intro yv w' hR hF K hK;have f1:(yv 1) = ptr kb:=hF 1 (by kernel_rfl) w' (Mod.refl _ _);clear hF;generalize yv 1 = y1 at *;subst f1
      go_simp
      exact hK _ _ (fun _ _=>by first | trivial | rfl | simp [*]) (Mod.refl _ _)
     ·-- 3: t42:=load(26,t41)
      intro yv w' hR hF K hK;have f2:(yv 2) = .pointer (some ⟨kb,0,none⟩):=hF 2 (by kernel_rfl) w' (Mod.refl _ _);clear hF;generalize yv 2 = y2 at *;subst f2;obtain ⟨z0,z1,zl⟩:=hK6.out w' ((Mod.refl Nowhere _).drew.trans hR)
      go_simp
      exact hK _ _ (fun _ _=>rfl) (Mod.refl _ _)
     ·-- 4: t43:=load(88,t9)
      intro yv w' hR hF K hK;clear hF;have b2:=hb6.out.mod ((Mod.refl Nowhere _).drew.trans hR) (fun e=>e);have z0:=b2.cell 0;have z1:=b2.cell 1;have zl:=b2.lt;simp only [gz0,gs0] at z0 z1;clear b2
      go_simp
      exact hK _ _ (fun _ _=>rfl) (Mod.refl _ _)
     ·-- 5: t44:=CALL F42 (t43)
      intro yv w' hR hF K hK;have f4:(yv 4) = .agg #[.int .i64 st,.int .i64 kd]:=hF 4 (by kernel_rfl) w' (Mod.refl _ _);clear hF;generalize yv 4 = y4 at *;subst f4;have hc:=hI.out w';replace hc:=Lib.hid hc
      go_simp
      go_at_call 42
      refine hc.out.mono ?_;rintro e w9 ⟨rfl,hm9⟩;exact hK _ _ (fun _ _=>rfl) hm9
     ·-- 6: t45:=load(93,t10)
      intro yv w' hR hF K hK;clear hF;have b2:=hB6.out.mod ((Mod.refl Nowhere _).drew.trans hR) (fun e=>e);have z0:=b2.cell 0;have z1:=b2.cell 1;have z2:=b2.cell 2;have zl:=b2.lt;simp only [gz0,gs0] at z0 z1 z2;clear b2
      go_simp
      exact hK _ _ (fun _ _=>rfl) (Mod.refl _ _)
     ·-- 7: t46:=CALL F52 (t45)
      intro yv w' hR hF K hK;have f6:(yv 6) = .agg #[.int .i64 (t1:Int),.int .i64 (li:Int),.slice a n c]:=hF 6 (by kernel_rfl) w' (Mod.refl _ _);have f5:(yv 5) = .int .i64 (num:Int):=hF 5 (by kernel_rfl) w' (Mod.refl _ _);clear hF;generalize yv 6 = y6 at *;subst f6;generalize yv 5 = y5 at *;subst f5;have hc:=hE.out w' _ (hd6.out.fresh ((Mod.refl Nowhere _).drew.trans hR));replace hc:=Lib.hid hc
      go_simp
      go_at_call 52
      refine hc.out.mono ?_;rintro e w9 ⟨u,rfl,hd,hm9⟩;obtain ⟨a',c',rfl,-⟩:=Sl.len hd;exact hK _ _ (fun W hW=>⟨a',_,c',rfl,hd.fresh hW⟩) hm9
    case hE_11_1 =>
     intro yv w' hR hF;have f0:(yv 0) = ptr kb:=hF 0 (by simp) w' (Mod.refl _ _);have f1:(yv 1) = ptr kb:=hF 1 (by simp) w' (Mod.refl _ _);have f2:(yv 2) = .pointer (some ⟨kb,0,none⟩):=hF 2 (by simp) w' (Mod.refl _ _);have f3:(yv 3) = ptr A.vb:=hF 3 (by simp) w' (Mod.refl _ _);have f4:(yv 4) = .agg #[.int .i64 st,.int .i64 kd]:=hF 4 (by simp) w' (Mod.refl _ _);have f5:(yv 5) = .int .i64 (num:Int):=hF 5 (by simp) w' (Mod.refl _ _);have f6:(yv 6) = .agg #[.int .i64 (t1:Int),.int .i64 (li:Int),.slice a n c]:=hF 6 (by simp) w' (Mod.refl _ _);have f7:∃ (a:Option Addr) (n c:Nat),(yv 7) = .slice a n c∧DSl w' (.slice a n c) bs:=hF 7 (by simp) w' (Mod.refl _ _)
     clear hF;generalize yv 0 = y0 at *;subst f0;generalize yv 1 = y1 at *;subst f1;generalize yv 2 = y2 at *;subst f2;generalize yv 3 = y3 at *;subst f3;generalize yv 4 = y4 at *;subst f4;generalize yv 5 = y5 at *;subst f5;generalize yv 6 = y6 at *;subst f6;generalize yv 7 = y7 at *;simp only [List.drop_succ_cons,List.drop_zero];obtain ⟨a',n',c',rfl,hd⟩:=f7;have hm7:=(Mod.refl Nowhere w6).drew.trans hR;have hc:=hN.out w' hm7 _ hd;have hB7:=hB6.out.mod hm7 (fun e=>e);have hns7:=hns.out w' hm7 hB7;clear hR hd hK6 hI hE hm7 hN hns hd6 hb6 hB6 hmF6;refine hid3 ?_ hc hB7 hns7;clear hc hB7 hns7;intro hc hB7 hns7
     go_wp2_with fail;refine hc.out.mono ?_;rintro r w9 ⟨hk,hm9⟩;have hB9:=hB7.out.mod hm9 hns7.out;have z0:=hB9.cell 0;have zl:=hB9.lt;simp only [gz0] at z0;clear hm9;obtain ⟨er,here⟩:∃ er,(kNow s e.less).2 = er:=⟨_,rfl⟩;rcases hk.re with ⟨rfl,hk2⟩ | ⟨rfl,hk2⟩
     ·rw [here];rcases her.out with h0 | h0
      ·obtain rfl:0 = er:=h0.symm.trans here;have hf:=hRo.out 0 here w9 (hk2 _ _);rw [if_pos rfl] at hf;clear hk hk2 here h0;refine hid2 ?_ hf hB9;clear hf hB9;intro hf hB9;go_wp2;exact hf.out
      ·obtain rfl:14 = er:=h0.symm.trans here;have hf:=hRo.out 14 here w9 (hk2 _ _);rw [if_neg (by decide)] at hf;clear hk hk2 here h0;refine hid2 ?_ hf hB9;clear hf hB9;intro hf hB9;go_wp2;exact hf.out
     ·have hf:=hRc.out er here w9 (hk2 _ _);clear hk hk2 here;refine hid2 ?_ hf hB9;clear hf hB9;intro hf hB9;go_wp2;exact hf.out
end Go.Proofs.YtoehlaeaafalmaaGreat
namespace Go.Proofs.YtoehlaeaafalmaaGreat
open Go.RowKit
open Jn Vn Rg Ky
attribute [local go_sem] Oper.semAt_some
theorem Zce {w:World} {kb mb:Nat} {A:VAt} {m:Mem} {s:VSt} (h:KyR w kb mb A m s) (hs:KySt s) (hB:XB 64 72 18 A.Z) (st kd:Int) (hst:I64 st) (hkd:I64 kd) (hrm:Room m (vcost A)) :
  Calls Tryz.prog 31 #[ptr kb,.int .i64 st,.int .i64 kd] w (KCall w kb mb A m s (kRestore s st kd).1 (vcost A) (errno ((kRestore s st kd).2:Nat)) (errno 7)):=by
 have hR:=Z1 h.at_ h.rep;have hA:=fun W (hm:Mod (OneB mb) w W) (hmi:MapIs W mb)=>Yw (h.only hm hmi);have hL:=kl_KL h.it;have hmi:=h.mapIs;have hKs:=fun W (hm:Mod (OneB mb) w W) (hmi:MapIs W mb)=>(h.only hm hmi).at_;have hKr:=fun W (hm:Mod (OneB mb) w W) (hmi:MapIs W mb)=>(h.only hm hmi);obtain ⟨R,hRe⟩:∃ R,KCall w kb mb A m s (kRestore s st kd).1 (vcost A) (errno ((kRestore s st kd).2:Nat)) (errno 7) = R:=⟨_,rfl⟩;rw [hRe];obtain ⟨L,hLe⟩:∃ L,kl (view s) = L:=⟨_,rfl⟩;rw [hLe] at hA hL;obtain ⟨f,hfe⟩:∃ f,kfind L st kd = f:=⟨_,rfl⟩
 obtain ⟨tr,htr⟩:∃ x:Nat,(f.map (·.tries)).getD 0 = x:=⟨_,rfl⟩
 obtain ⟨li,hli⟩:∃ x:Nat,(f.map (·.lim)).getD 0 = x:=⟨_,rfl⟩
 obtain ⟨vl,hvl⟩:∃ x:List Nat,(f.map (·.val)).getD [] = x:=⟨_,rfl⟩
 obtain ⟨bo,hbo⟩:∃ x:Bool,f.isSome = x:=⟨_,rfl⟩;refine hid12 ?_ hR hA hL hmi hKs hKr hRe hLe hfe htr hli hvl;clear hR hA hL hmi hKs hKr hRe hLe hfe htr hli hvl;intro hR hA hL hmi hKs hKr hRe hLe hfe htr hli hvl;refine hid2 ?_ hbo h;clear hbo h;intro hbo h;go_enter Tryz.func31,Tryz.ntmps31;go_wp2_with fail;refine (hR.out).mono ?_;rintro e w1 ⟨rfl,hm1⟩;have hmA:=hm1.alloc (.cells #[.int .i64 st,.int .i64 kd] 88);have hbp:=Blk.new w1 [.int .i64 st,.int .i64 kd] 88;have hmi1:=(hmi.out.fresh hmA).fresh (Mod.refl Nowhere _).drew;have hszA:w.heap.size≤(w1.alloc (.cells #[.int .i64 st,.int .i64 kd] 88)).heap.size:=hmA.size;refine hid5 ?_ hmA hbp hmi1 hm1 hszA;clear hmA hbp hmi1 hm1 hszA;intro hmA hbp hmi1 hm1 hszA
 go_wp2_with fail;refine Zbr 8 6 _ (by rfl) (by decide) (fun i v W0=>∀ w',(KRel mb L) W0 w'→match i with | 0=>(v = ptr kb) | 1=>(KLk w' mb L∧v = .map (some mb)) | 2=>(v = .agg #[.int .i64 st,.int .i64 kd]) | 3=>(∃ (a:Option Addr) (n c:Nat),v = .tuple #[.agg #[.int .i64 (tr:Int),.int .i64 (li:Int),.slice a n c],.bool bo]∧DSl w' (.slice a n c) vl) | 4=>(∃ (a:Option Addr) (n c:Nat),v = .tuple #[.agg #[.int .i64 (tr:Int),.int .i64 (li:Int),.slice a n c],.bool bo]∧DSl w' (.slice a n c) vl) | 5=>(∃ (a:Option Addr) (n c:Nat),v = .agg #[.int .i64 (tr:Int),.int .i64 (li:Int),.slice a n c]∧DSl w' (.slice a n c) vl) | 6=>(v = .bool bo) | 7=>(∃ B:Nat,v = ptr B∧w.heap.size≤B∧Blk w' B [.int .i64 0,.int .i64 0,.slice none 0 0] 93) | _=>True) (KRel mb L) ?A_ (by first | assumption | kernel_rfl) (by kernel_rfl) (by kernel_rfl) (by kernel_rfl) (by decide) (by kernel_rfl) (by kernel_rfl) (by kernel_rfl) (by exact fun _ _ _ _ h=>h) (KRel.refl mb L) (KRel.trans mb L) (fun i v w1 w2 h hR Z hZ=>h Z (KRel.trans mb L _ _ _ hR hZ)) ?hA_ ?hS_ ?hP_ ?hE_
 case hA_=>intro xs;simp [putAll,List.range,List.range.loop,Act.put] <;> rfl
 case hS_ =>
  refine ⟨?_,?_,?_,?_,?_,?_,?_,?_,trivial⟩
  ·-- 0: t20:=move(t0)
   intro yv w' hR hF K hK;clear hF
   go_simp
   exact hK _ _ (fun _ _=>by first | trivial | rfl | simp [*]) (KRel.refl mb L _)
  ·-- 1: t21:=CALL F53 (t20)
   intro yv w' hR hF K hK;have f0:(yv 0) = ptr kb:=hF 0 (by kernel_rfl) w' (KRel.refl mb L w');clear hF;generalize yv 0 = y0 at *;subst f0;have hmx:=(hmA.out.nowhere (S:=OneB mb)).drew.trans hR.1;have hc:=hA.out w' hmx (hR.2.2 hmi1.out);replace hc:=Lib.hid hc
   go_simp
   go_at_call 53
   refine hc.out.mono ?_;rintro e w9 ⟨rfl,hk9,hm9⟩;exact hK _ _ (fun W hW=>⟨hW.2.1 hk9,rfl⟩) ⟨hm9,fun _=>hk9,fun _=>hk9.map⟩
  ·-- 2: t22:=load(88,t8)
   intro yv w' hR hF K hK;clear hF;have b2:=Blk.only (w:=World.drew _) hbp.out.drew hmi1.out hR.1;have z0:=b2.cell 0;have z1:=b2.cell 1;have zl:=b2.lt;simp only [gz0,gs0] at z0 z1;clear b2
   go_simp
   exact hK _ _ (fun _ _=>rfl) (KRel.refl mb L _)
  ·-- 3: t23:=lookup(53,t21,t22,true)
   intro yv w' hR hF K hK;have f1:KLk w' mb L∧(yv 1) = .map (some mb):=hF 1 (by kernel_rfl) w' (KRel.refl mb L w');have f2:(yv 2) = .agg #[.int .i64 st,.int .i64 kd]:=hF 2 (by kernel_rfl) w' (KRel.refl mb L w');clear hF;generalize yv 1 = y1 at *;generalize yv 2 = y2 at *;subst f2;obtain ⟨hk,rfl⟩:=f1;obtain ⟨u,hlook,hdu⟩:=hk.look hL.out hst hkd;have hl1:=hlook w' (Mod.refl _ _);rw [hfe.out,htr.out,hli.out,hbo.out] at hl1;rw [hfe.out,hvl.out] at hdu;obtain ⟨ua,uc,rfl,-⟩:=Sl.len hdu;clear hlook;have hfin:=fun W (hW:KRel mb L w' W)=>hdu.only hk.map hW.1;refine hid3 ?_ hfin hk hdu;clear hfin hk hdu;intro hfin hk hdu
   go_simp
   exact hK _ _ (fun W hW=>⟨ua,_,uc,rfl,hfin.out W hW⟩) (KRel.refl mb L _)
  ·-- 4: t19:=move(t23)
   intro yv w' hR hF K hK;have f3:∃ (a:Option Addr) (n c:Nat),(yv 3) = .tuple #[.agg #[.int .i64 (tr:Int),.int .i64 (li:Int),.slice a n c],.bool bo]∧DSl w' (.slice a n c) vl:=hF 3 (by kernel_rfl) w' (KRel.refl mb L w');clear hF;generalize yv 3 = y3 at *;obtain ⟨a,n,c,rfl,hd⟩:=f3;have hfin:=fun W (hW:KRel mb L w' W)=>hd.only (hR.2.2 hmi1.out) hW.1;refine hid2 ?_ hfin hd;clear hfin hd;intro hfin hd
   go_simp
   exact hK _ _ (fun W hW=>⟨a,n,c,rfl,hfin.out W hW⟩) (KRel.refl mb L _)
  ·-- 5: t24:=extract(t19,0)
   intro yv w' hR hF K hK;have f4:∃ (a:Option Addr) (n c:Nat),(yv 4) = .tuple #[.agg #[.int .i64 (tr:Int),.int .i64 (li:Int),.slice a n c],.bool bo]∧DSl w' (.slice a n c) vl:=hF 4 (by kernel_rfl) w' (KRel.refl mb L w');clear hF;generalize yv 4 = y4 at *;obtain ⟨a,n,c,rfl,hd⟩:=f4;have hfin:=fun W (hW:KRel mb L w' W)=>hd.only (hR.2.2 hmi1.out) hW.1;refine hid2 ?_ hfin hd;clear hfin hd;intro hfin hd
   go_simp
   exact hK _ _ (fun W hW=>⟨a,n,c,rfl,hfin.out W hW⟩) (KRel.refl mb L _)
  ·-- 6: t25:=extract(t19,1)
   intro yv w' hR hF K hK;have f4:∃ (a:Option Addr) (n c:Nat),(yv 4) = .tuple #[.agg #[.int .i64 (tr:Int),.int .i64 (li:Int),.slice a n c],.bool bo]∧DSl w' (.slice a n c) vl:=hF 4 (by kernel_rfl) w' (KRel.refl mb L w');clear hF;generalize yv 4 = y4 at *;obtain ⟨a,n,c,rfl,hd⟩:=f4;replace hd:=Lib.hid hd
   go_simp
   exact hK _ _ (fun W hW=>rfl) (KRel.refl mb L _)
  ·-- 7: t9:=alloc(93)
   intro yv w' hR hF K hK;clear hF;have hB9:=Blk.new w' [.int .i64 0,.int .i64 0,.slice none 0 0] 93;have hmB:Mod Nowhere w' (w'.alloc (.cells #[.int .i64 0,.int .i64 0,.slice none 0 0] 93)):=(Mod.refl _ w').alloc _;have hmiB:=MapIs.fresh (hR.2.2 hmi1.out) hmB;have hszB:=Nat.le_trans hszA.out hR.1.size;have hfin:=fun W (hW:KRel mb L (w'.alloc (.cells #[.int .i64 0,.int .i64 0,.slice none 0 0] 93)) W)=>hB9.only hmiB hW.1;have hrel:=KRel.calm (mb:=mb) (L:=L) hmB;refine hid6 ?_ hfin hmB hmiB hB9 hszB hrel;clear hfin hmB hmiB hB9 hszB hrel;intro hfin hmB hmiB hB9 hszB hrel
   go_simp
   exact hK _ _ (fun W hW=>⟨w'.heap.size,rfl,hszB.out,hfin.out W hW⟩) hrel.out
 case hP_ =>
  intro yv w' hR hF;have f4:∃ (a:Option Addr) (n c:Nat),(yv 4) = .tuple #[.agg #[.int .i64 (tr:Int),.int .i64 (li:Int),.slice a n c],.bool bo]∧DSl w' (.slice a n c) vl:=hF 4 (by kernel_rfl) w' (KRel.refl mb L w');clear hF;generalize yv 4 = y4 at *;obtain ⟨a,n,c,rfl,hd⟩:=f4;replace hd:=Lib.hid hd;refine ⟨.bool bo,fun _ _=>rfl,Or.inl ⟨by rfl,fun W=>?_⟩⟩
  go_simp
 case hE_ =>
  intro yv w' hR hF;have f0:(yv 0) = ptr kb:=hF 0 (by decide) w' (KRel.refl mb L w');have f1:KLk w' mb L∧(yv 1) = .map (some mb):=hF 1 (by decide) w' (KRel.refl mb L w');have f2:(yv 2) = .agg #[.int .i64 st,.int .i64 kd]:=hF 2 (by decide) w' (KRel.refl mb L w');have f3:∃ (a:Option Addr) (n c:Nat),(yv 3) = .tuple #[.agg #[.int .i64 (tr:Int),.int .i64 (li:Int),.slice a n c],.bool bo]∧DSl w' (.slice a n c) vl:=hF 3 (by decide) w' (KRel.refl mb L w');have f4:∃ (a:Option Addr) (n c:Nat),(yv 4) = .tuple #[.agg #[.int .i64 (tr:Int),.int .i64 (li:Int),.slice a n c],.bool bo]∧DSl w' (.slice a n c) vl:=hF 4 (by decide) w' (KRel.refl mb L w');have f5:∃ (a:Option Addr) (n c:Nat),(yv 5) = .agg #[.int .i64 (tr:Int),.int .i64 (li:Int),.slice a n c]∧DSl w' (.slice a n c) vl:=hF 5 (by decide) w' (KRel.refl mb L w')
  have f6:(yv 6) = .bool bo:=hF 6 (by decide) w' (KRel.refl mb L w');have f7:∃ B:Nat,(yv 7) = ptr B∧w.heap.size≤B∧Blk w' B [.int .i64 0,.int .i64 0,.slice none 0 0] 93:=hF 7 (by decide) w' (KRel.refl mb L w');clear hF;generalize yv 0 = y0 at *;subst f0;generalize yv 1 = y1 at *;generalize yv 2 = y2 at *;subst f2;generalize yv 3 = y3 at *;generalize yv 4 = y4 at *;generalize yv 5 = y5 at *;generalize yv 6 = y6 at *;subst f6;generalize yv 7 = y7 at *;simp only [List.drop_succ_cons,List.drop_zero];obtain ⟨B,rfl,hBs,hB0⟩:=f7;obtain ⟨a,n,c,rfl,hd⟩:=f5;obtain ⟨hk,rfl⟩:=f1
  clear f3 f4;have hmx:=(hmA.out.nowhere (S:=OneB mb)).drew.trans hR.1;have hbx:=Blk.only (w:=World.drew _) hbp.out.drew hmi1.out hR.1;obtain ⟨hB1,hmB⟩:=setw3' hB0 (.int .i64 (tr:Int)) (.int .i64 (li:Int)) (.slice a n c);have hmiB:=MapIs.keep hk.map hB0 hmB;have hmF:=hmx.step hmB fun i hi e=>absurd e (by omega);have hd1:=DSl.mod hd hmB (fun k hk cs hb=>by rw [hk] at hb;exact absurd (hb.inj hB0).2 (by decide));have hb1:=hbx.mod hmB (fun e=>by have e:w1.heap.size = B:=e;rw [e] at hbx;exact absurd (hbx.inj hB0).2 (by decide));have z0:=hB0.cell 0;have z1:=hB0.cell 1;have z2:=hB0.cell 2;have zl:=hB0.lt;have zf:=hB0.frozen;simp only [gz0,gs0] at z0 z1 z2
  obtain ⟨w5,hw5⟩:∃ W,((w'.setCell ⟨B,0,none⟩ (.int .i64 (tr:Int))).setCell ⟨B,1,none⟩ (.int .i64 (li:Int))).setCell ⟨B,2,none⟩ (.slice a n c) = W:=⟨_,rfl⟩;rw [hw5] at hB1 hmiB hmF hd1 hb1;generalize hpb:w1.heap.size = pb at *;have z3:=hB1.cell 0;have zl3:=hB1.lt;simp only [gz0] at z3;have hKy5:=hKr.out w5 hmF hmiB;have hbl:pb < w5.heap.size:=hb1.lt;have hpB:pb ≠ B:=fun e=>by rw [e] at hb1;exact absurd (hb1.inj hB1).2 (by decide)
  clear hR hmA hbp hmi1 hm1 hszA hmx hbx hmB hd hk hA hmi hB0 hKr hKs;refine hid8 ?_ hB1 hmiB hmF hd1 hb1 hKy5 hbl hpB;clear hB1 hmiB hmF hd1 hb1 hKy5 hbl hpB;intro hB1 hmiB hmF hd1 hb1 hKy5 hbl hpB;clear hpb
  cases bo with
  | false =>
   have hf0:f = none:=by have:=hbo.out;simpa using this
   have hsp:kRestore s st kd = (s,19):=by
    unfold kRestore;rw [hLe.out,hfe.out,hf0]
   have hfin:R (.returned (errno 19)) w5:=by
    rw [← hRe.out,hsp];exact KCall.same hKy5.out (hmF.out.mono fun _ _ e=>.inl e)
   clear hf0 hsp;replace hfin:=Lib.hid hfin;go_wp2;exact hfin.out
  | true =>
   obtain ⟨e,hfs⟩:∃ e,f = some e:=Option.isSome_iff_exists.1 hbo.out;have htr':e.tries = tr:=by have:=htr.out;rw [hfs] at this;exact this
   have hli':e.lim = li:=by have:=hli.out;rw [hfs] at this;exact this
   have hvl':e.val = vl:=by have:=hvl.out;rw [hfs] at this;exact this
   have hek:=Zp hL.out (hfe.out.trans hfs)
   have hsp:kRestore s st kd = kNow s e.full:=by
    unfold kRestore;rw [hLe.out,hfe.out,hfs]
   have h15:tr≤15:=by have:=hek.2.1.tl;have:=hek.2.1.l15;omega
   clear hfs;have ht1:e.full.tries = li:=by show e.lim = _;rw [hli']
   have z4:=hB1.out.cell 1;simp only [gz0,gs0] at z4;have zf3:=hB1.out.frozen;obtain ⟨hB6,hm6⟩:=set3 hB1.out (.int .i64 (li:Int));have hKy6m:MapIs _ mb:=MapIs.keep hmiB.out hB1.out hm6;have hmF6:=hmF.out.step hm6 fun i hi e=>absurd e (by have:=hBs;omega);have hd6:=DSl.mod hd1.out hm6 (fun k hk cs hb=>by rw [hk] at hb;exact absurd (hb.inj hB1.out).2 (by decide));have hb6:=hb1.out.mod hm6 (fun e=>hpB.out e);have hKy6:=h.out.only hmF6 hKy6m;have hid:=hek.2.1.full
   have hI:∀ W,Calls Tryz.prog 42 #[.agg #[.int .i64 st,.int .i64 kd]] W fun e' w'=>e' = .returned (.int .i64 ((64 + pl e.full:Nat):Int))∧Mod Nowhere W w':=fun W=>by
    have:=Z0 W e.set e.kind (by have:=hek.2.1.s8;omega) (by have:=hek.2.1.k6;omega);rw [← hek.2.2.1,← hek.2.2.2] at this;exact this
   have hE:=fun W u (hd:DSl W u vl)=>X1 (e:=e.full) (v:=u) (by show Src W u e.val;rw [hvl'];exact hd.src) hid;rw [ht1,show e.full.lim = li from hli'] at hE;obtain ⟨w6,hw6⟩:∃ W,w5.setCell ⟨B,0,none⟩ (.int .i64 (li:Int)) = W:=⟨_,rfl⟩;rw [hw6] at hB6 hKy6m hmF6 hd6 hb6 hKy6;have hN:=fun W (hm:Mod Nowhere w6 W) u (hu:DSl W u (kB e.full))=>Zcc (hKy6.fresh hm) ((hmF6.trans hm.nowhere).mono fun _ _ e=>.inl e:Mod (KS A mb) w W) hs hB hid hu hrm;have her:(kNow s e.full).2 = 0 ∨ (kNow s e.full).2 = 14:=by unfold kNow;split <;> simp
   have hns:∀ W,Mod Nowhere w6 W→∀ {b:Nat} {cs:List Value},Blk W b cs 93→¬ A.S b:=fun W hm b cs hb=>(hKy6.fresh hm).rep.noS hb (by decide) (by decide);have hK6:=hKy6.at_.c;have hfin:∀ (r:Value) (er:Nat) (W:World),(∀ ro' rc',KCall w kb mb A m s (kNow s e.full).1 (vcost A) ro' rc' (.returned r) W)→True:=fun _ _ _ _=>trivial
   have hRo:∀ r W,KCall w kb mb A m s (kNow s e.full).1 (vcost A) (errno ((kNow s e.full).2:Nat)) (errno 7) r W→R r W:=fun r W hk=>by
    rw [← hRe.out,hsp];exact hk
   clear hfin;generalize hnum:64 + pl e.full = num at *;generalize hbs:kB e.full = bs at *;clear hKy6m hKy6 hm6 hid hek;refine hid12 ?_ hB6 hmF6 hd6 hb6 hI hE hN her hns hK6 hRo hsp;clear hB6 hmF6 hd6 hb6 hI hE hN her hns hK6 hRo hsp;intro hB6 hmF6 hd6 hb6 hI hE hN her hns hK6 hRo hsp;refine hid7 ?_ htr' hli' hvl' h15 ht1 hnum hbs;clear htr' hli' hvl' h15 ht1 hnum hbs;intro htr' hli' hvl' h15 ht1 hnum hbs;go_wp2_with fail;clear z0 z1 z2 zl zf z3 z4 zl3 zf3 hw5 hw6;refine ZD 8 (fun i v w'=>match i with | 0=>(v = ptr kb) | 1=>(v = ptr kb) | 2=>(v = .pointer (some ⟨kb,0,none⟩)) | 3=>(v = ptr A.vb) | 4=>(v = .agg #[.int .i64 st,.int .i64 kd]) | 5=>(v = .int .i64 (num:Int)) | 6=>(v = .agg #[.int .i64 (li:Int),.int .i64 (li:Int),.slice a n c]) | 7=>(∃ (a:Option Addr) (n c:Nat),v = .slice a n c∧DSl w' (.slice a n c) bs) | _=>True) ?A_9_1 (by first | assumption | kernel_rfl) (by kernel_rfl) (by kernel_rfl) (by kernel_rfl) (by decide) ?hA_9_1 ?hS_9_1 ?hE_9_1
   case hA_9_1=>intro xs;simp [putAll,List.range,List.range.loop,Act.put] <;> rfl
   case hS_9_1 =>
    refine ⟨?_,?_,?_,?_,?_,?_,?_,?_,trivial⟩
    ·-- 0: t31:=move(t0)
     intro yv w' hR hF K hK;clear hF
     go_simp
     exact hK _ _ (fun _ _=>by first | trivial | rfl | simp [*]) (Mod.refl _ _)
    ·-- 1: t32:=nilCheck(t31)
     intro yv w' hR hF K hK;have f0:(yv 0) = ptr kb:=hF 0 (by kernel_rfl) w' (Mod.refl _ _);clear hF;generalize yv 0 = y0 at *;subst f0
     go_simp
     exact hK _ _ (fun _ _=>by first | trivial | rfl | simp [*]) (Mod.refl _ _)
    ·-- 2: t33:=fieldAddr(55,t32,0)
     intro yv w' hR hF K hK;have f1:(yv 1) = ptr kb:=hF 1 (by kernel_rfl) w' (Mod.refl _ _);clear hF;generalize yv 1 = y1 at *;subst f1
     go_simp
     exact hK _ _ (fun _ _=>by first | trivial | rfl | simp [*]) (Mod.refl _ _)
    ·-- 3: t34:=load(26,t33)
     intro yv w' hR hF K hK;have f2:(yv 2) = .pointer (some ⟨kb,0,none⟩):=hF 2 (by kernel_rfl) w' (Mod.refl _ _);clear hF;generalize yv 2 = y2 at *;subst f2;obtain ⟨z0,z1,zl⟩:=hK6.out w' ((Mod.refl Nowhere _).drew.trans hR)
     go_simp
     exact hK _ _ (fun _ _=>rfl) (Mod.refl _ _)
    ·-- 4: t35:=load(88,t8)
     intro yv w' hR hF K hK;clear hF;have b2:=hb6.out.mod ((Mod.refl Nowhere _).drew.trans hR) (fun e=>e);have z0:=b2.cell 0;have z1:=b2.cell 1;have zl:=b2.lt;simp only [gz0,gs0] at z0 z1;clear b2
     go_simp
     exact hK _ _ (fun _ _=>rfl) (Mod.refl _ _)
    ·-- 5: t36:=CALL F42 (t35)
     intro yv w' hR hF K hK;have f4:(yv 4) = .agg #[.int .i64 st,.int .i64 kd]:=hF 4 (by kernel_rfl) w' (Mod.refl _ _);clear hF;generalize yv 4 = y4 at *;subst f4;have hc:=hI.out w';replace hc:=Lib.hid hc
     go_simp
     go_at_call 42
     refine hc.out.mono ?_;rintro e w9 ⟨rfl,hm9⟩;exact hK _ _ (fun _ _=>rfl) hm9
    ·-- 6: t37:=load(93,t9)
     intro yv w' hR hF K hK;clear hF;have b2:=hB6.out.mod ((Mod.refl Nowhere _).drew.trans hR) (fun e=>e);have z0:=b2.cell 0;have z1:=b2.cell 1;have z2:=b2.cell 2;have zl:=b2.lt;simp only [gz0,gs0] at z0 z1 z2;clear b2
     go_simp
     exact hK _ _ (fun _ _=>rfl) (Mod.refl _ _)
    ·-- 7: t38:=CALL F52 (t37)
     intro yv w' hR hF K hK;have f6:(yv 6) = .agg #[.int .i64 (li:Int),.int .i64 (li:Int),.slice a n c]:=hF 6 (by kernel_rfl) w' (Mod.refl _ _);have f5:(yv 5) = .int .i64 (num:Int):=hF 5 (by kernel_rfl) w' (Mod.refl _ _);clear hF;generalize yv 6 = y6 at *;subst f6;generalize yv 5 = y5 at *;subst f5;have hc:=hE.out w' _ (hd6.out.fresh ((Mod.refl Nowhere _).drew.trans hR));replace hc:=Lib.hid hc
     go_simp
     go_at_call 52
     refine hc.out.mono ?_;rintro e w9 ⟨u,rfl,hd,hm9⟩;obtain ⟨a',c',rfl,-⟩:=Sl.len hd;exact hK _ _ (fun W hW=>⟨a',_,c',rfl,hd.fresh hW⟩) hm9
   case hE_9_1 =>
    intro yv w' hR hF;have f0:(yv 0) = ptr kb:=hF 0 (by simp) w' (Mod.refl _ _);have f1:(yv 1) = ptr kb:=hF 1 (by simp) w' (Mod.refl _ _);have f2:(yv 2) = .pointer (some ⟨kb,0,none⟩):=hF 2 (by simp) w' (Mod.refl _ _);have f3:(yv 3) = ptr A.vb:=hF 3 (by simp) w' (Mod.refl _ _);have f4:(yv 4) = .agg #[.int .i64 st,.int .i64 kd]:=hF 4 (by simp) w' (Mod.refl _ _);have f5:(yv 5) = .int .i64 (num:Int):=hF 5 (by simp) w' (Mod.refl _ _);have f6:(yv 6) = .agg #[.int .i64 (li:Int),.int .i64 (li:Int),.slice a n c]:=hF 6 (by simp) w' (Mod.refl _ _);have f7:∃ (a:Option Addr) (n c:Nat),(yv 7) = .slice a n c∧DSl w' (.slice a n c) bs:=hF 7 (by simp) w' (Mod.refl _ _)
    clear hF;generalize yv 0 = y0 at *;subst f0;generalize yv 1 = y1 at *;subst f1;generalize yv 2 = y2 at *;subst f2;generalize yv 3 = y3 at *;subst f3;generalize yv 4 = y4 at *;subst f4;generalize yv 5 = y5 at *;subst f5;generalize yv 6 = y6 at *;subst f6;generalize yv 7 = y7 at *;simp only [List.drop_succ_cons,List.drop_zero];obtain ⟨a',n',c',rfl,hd⟩:=f7;have hm7:=(Mod.refl Nowhere w6).drew.trans hR;have hc:=hN.out w' hm7 _ hd;have hB7:=hB6.out.mod hm7 (fun e=>e);have hns7:=hns.out w' hm7 hB7;clear hR hd hK6 hI hE hm7 hN hns hd6 hb6 hB6 hmF6;refine hid3 ?_ hc hB7 hns7;clear hc hB7 hns7;intro hc hB7 hns7
    go_wp2_with fail;refine hc.out.mono ?_;rintro r w9 ⟨hk,hm9⟩;have hB9:=hB7.out.mod hm9 hns7.out;have z0:=hB9.cell 0;have zl:=hB9.lt;simp only [gz0] at z0;clear hm9;rcases hk.re with ⟨rfl,-⟩ | ⟨rfl,-⟩
    ·have hf:=hRo.out _ w9 hk;clear hk;refine hid2 ?_ hf hB9;clear hf hB9;intro hf hB9;go_wp2;exact hf.out
    ·have hf:=hRo.out _ w9 hk;clear hk;refine hid2 ?_ hf hB9;clear hf hB9;intro hf hB9;go_wp2;exact hf.out
end Go.Proofs.YtoehlaeaafalmaaGreat
