/-
  Keys: a set is deleted.
-/
import Derived.Test.YtoehlaeaafalmaaGreatCK5
import Derived.Test.YtoehlaeaafalmaaGreatCG35
set_option linter.unusedVariables false
set_option linter.unusedSimpArgs false
set_option maxHeartbeats 8000000
set_option maxRecDepth 100000
namespace Go.Proofs.YtoehlaeaafalmaaGreat
open Go.RowKit
open Jn Vn Rg Ky
attribute [local go_sem] Oper.semAt_some
theorem ZgV {w:World} {kb mb:Nat} {A:VAt} {m:Mem} {f:Items} (hk:KAt w kb A.vb mb) (hd:VDead w A m f) (mark er:Int) :
  Calls Tryz.prog 70 #[ptr kb,.bool true,.int .i64 mark,.int .i64 er] w fun e w'=>e = .returned (.int .i64 er)∧Mod Nowhere w w':=by
 have hA:=ZgC (Shut.dead hd);obtain ⟨k0,k1,kl⟩:=hk.c w (Mod.refl _ _);clear hk hd;replace hA:=Lib.hid hA;go_enter Tryz.func70,Tryz.ntmps70;go_wp2_with fail;refine (hA.out).mono ?_;rintro e w1 ⟨rfl,hm⟩;replace hm:=Lib.hid hm;go_wp2;go_ret;exact ⟨rfl,hm.out⟩
namespace Ky
def sJ (s:VSt) (st:Int) (ks:List Nat) (j:Nat):VSt:={ f:=s.f,act:=true,l:=dels st (ks.take j) }
def kDel (s:VSt) (st:Int):VSt × Nat:=if pKinds (kl (view s)) st = [] then (s,12) else ({ f:=sets s.f (dels st (pKinds (kl (view s)) st)),act:=false,l:=[] },0)
theorem Y8 {l:List KEn} (h:KL l) {st:Int} {k:Nat} (hk:k ∈ pKinds l st):1≤st∧st≤8∧1≤k∧k≤6:=by
 obtain ⟨e,he,h1,h2⟩:=(ZL h).1 hk;obtain ⟨a1,a2,a3,a4,-⟩:=h.ok e he;omega
theorem ZgW (l:List KEn) (st:Int):(pKinds l st).Nodup:=List.Pairwise.filter _ (show six.Pairwise (· ≠ ·) by decide)
theorem sJ_st {s:VSt} (h:KySt s) (ha:s.act = false) (st:Int) (j:Nat):KySt (sJ s st (pKinds (kl (view s)) st) j)∧view (sJ s st (pKinds (kl (view s)) st) j) = sets s.f (dels st ((pKinds (kl (view s)) st).take j)):=by
 refine ⟨⟨h.f,KIt.dels _ st h.f,⟨h.x.f,fun r hr=>?_,fun e=>by cases e⟩⟩,rfl⟩;have hr:r ∈ dels st ((pKinds (kl (view s)) st).take j):=hr;unfold dels at hr;obtain ⟨k,hk,rfl⟩:=List.mem_map.1 hr;obtain ⟨a1,a2,a3,a4⟩:=Y8 (kl_KL h.v) (List.mem_of_mem_take hk);exact ⟨Nat.le_add_right _ _,by show 64 + (8 * st.toNat + k) < 64 + 72;omega,Nat.zero_le _⟩
theorem view_idle {s:VSt} (h:KySt s) (ha:s.act = false):view s = s.f:=by
 unfold view;rw [h.x.idle ha]
 rfl
theorem ZgX {s:VSt} (h:KySt s) (ha:s.act = false) {Z:Nat} (hB:XB 64 72 18 Z) (st:Int) {j:Nat} (hj:j < (pKinds (kl (view s)) st).length) :
  vDel Z (sJ s st (pKinds (kl (view s)) st) j) ((64 + (8 * st.toNat + (pKinds (kl (view s)) st)[j]):Nat):Int) = (sJ s st (pKinds (kl (view s)) st) (j + 1),0):=by
 obtain ⟨h1,h2⟩:=sJ_st h ha st j;have hm:(pKinds (kl (view s)) st)[j] ∈ pKinds (kl (view s)) st:=List.getElem_mem hj;obtain ⟨a1,a2,a3,a4⟩:=Y8 (kl_KL h.v) hm
 have hs:(view (sJ s st (pKinds (kl (view s)) st) j) (64 + (8 * st.toNat + (pKinds (kl (view s)) st)[j]))).isSome = true:=by
  rw [h2,XN,if_neg ?_]
  ·have hv:=X2 h.v (s:=st.toNat) (k:=(pKinds (kl (view s)) st)[j]) (by omega) (by omega) a3 a4;have e1:s.f (64 + (8 * st.toNat + (pKinds (kl (view s)) st)[j])) = view s (64 + (8 * st.toNat + (pKinds (kl (view s)) st)[j])):=(congrFun (view_idle h ha) _).symm;rw [e1,hv,Option.isSome_map,show ((st.toNat:Nat):Int) = st by omega];exact (List.mem_filter.1 hm).2
  ·intro hq;obtain ⟨k,hk,e⟩:=List.mem_map.1 hq;have e:k = (pKinds (kl (view s)) st)[j]:=by omega
   subst e;obtain ⟨i,hi,e2⟩:=List.mem_take_iff_getElem.1 hk;exact List.pairwise_iff_getElem.1 (ZgW (kl (view s)) st) i j (by omega) hj (by omega) e2
 rw [Zfb h1.x (Nat.le_add_right _ _) (by omega) hs hB];have h3:(pKinds (kl (view s)) st).take (j + 1) = (pKinds (kl (view s)) st).take j ++ [(pKinds (kl (view s)) st)[j]]:=List.take_succ_eq_append_getElem hj;unfold xApp;rw [if_pos (show (sJ s st (pKinds (kl (view s)) st) j).act = true from rfl)];unfold sJ dels;rw [h3,List.map_append]
 rfl
theorem Zcg {s:VSt} (h:KySt s) (st:Int):KySt (kDel s st).1:=by
 unfold kDel
 split
 ·exact h
 ·exact ⟨KIt.dels _ st h.f,KIt.dels _ st h.f,⟨(KIt.dels _ st h.f).xf,fun _ h=>by simp at h,fun _=>rfl⟩⟩
end Ky
end Go.Proofs.YtoehlaeaafalmaaGreat
namespace Go.Proofs.YtoehlaeaafalmaaGreat
open Go.RowKit
open Jn Vn Rg Ky
attribute [local go_sem] Oper.semAt_some
theorem VRep.ltSx {w:World} {A:VAt} {m:Mem} {s:VSt} (h:VRep w A m s):∀ k,A.S k→k < w.heap.size:=by
 obtain ⟨P,p,pc,J,bank,end_,ib,lv,xs,h⟩:=h.ex;exact h.ltS
theorem Runs.trans0 {m m1 m2:Mem} {a b:Nat} (h:Runs m m1 a) (k:Runs m1 m2 b):Runs m m2 (a + b) :=
 ⟨k.off,k.cuts.trans h.cuts,k.endu.trans h.endu,k.size.trans h.size,k.pend.trans h.pend,by rw [k.writes,h.writes];omega,k.good,fun x=>k.clean (h.clean x)⟩
theorem KCall.later {w w1 w':World} {kb mb:Nat} {A:VAt} {m m1:Mem} {s s1 s2:VSt} {n a:Nat} {ro rc:Value} {e:Ending} (h:KCall w1 kb mb A m1 s1 s2 n ro rc e w') (hr:Runs m m1 a) (hf:s1.f = s.f) (hm:Mod (KS A mb) w w1):KCall w kb mb A m s s2 (a + n) ro rc e w':=by
 rcases h with ⟨m',k,e1,h1,h2,h3,h4⟩ | ⟨m',f,e1,h1,h2,h3,h4,h5,h6⟩
 ·exact .inl ⟨m',a + k,e1,h1,by omega,hr.trans0 h3,hm.trans h4⟩
 ·exact .inr ⟨m',f,e1,by rw [← hf];exact h1,h2,hr.stopped h3 (Nat.le_refl _),h4,h5,hm.trans h6⟩
theorem KCall.mono {w w':World} {kb mb:Nat} {A:VAt} {m:Mem} {s s2:VSt} {n n':Nat} {ro rc:Value} {e:Ending} (h:KCall w kb mb A m s s2 n ro rc e w') (hn:n≤n'):KCall w kb mb A m s s2 n' ro rc e w':=by
 rcases h with ⟨m',k,e1,h1,h2,h3,h4⟩ | ⟨m',f,e1,h1,h2,h3,h4,h5,h6⟩
 ·exact .inl ⟨m',k,e1,h1,Nat.le_trans h2 hn,h3,h4⟩
 ·exact .inr ⟨m',f,e1,h1,h2,h3.mono hn,h4,h5,h6⟩
def KDead (w:World) (kb mb:Nat) (A:VAt) (m:Mem) (s s':VSt) (n:Nat) (w':World):Prop:=∃ m' f,(f = s.f ∨ f = s'.f)∧VDead w' A m' f∧Stopped m m' n∧KAt w' kb A.vb mb∧MapIs w' mb∧Mod (KS A mb) w w'
theorem KDead.call {w w1 w':World} {kb mb:Nat} {A:VAt} {m:Mem} {s s':VSt} {n:Nat} {ro rc:Value} (h:KDead w kb mb A m s s' n w1) (hm:Mod Nowhere w1 w'):KCall w kb mb A m s s' n ro rc (.returned rc) w':=by
 obtain ⟨m',f,h1,h2,h3,h4,h5,h6⟩:=h;exact .inr ⟨m',f,rfl,h1,h2.fresh hm,h3,Blk.mod h4 hm id,h5.fresh hm,h6.trans hm.nowhere⟩
theorem KCall.dead {w w':World} {kb mb:Nat} {A:VAt} {m:Mem} {s s':VSt} {n:Nat} {ro rc:Value} {e:Ending} (h:KCall w kb mb A m s s' n ro rc e w'):(e = .returned ro∧∃ m' k,KyR w' kb mb A m' s'∧k≤n∧Runs m m' k∧Mod (KS A mb) w w') ∨ (e = .returned rc∧KDead w kb mb A m s s' n w'):=by
 rcases h with ⟨m',k,e1,h1⟩ | ⟨m',f,e1,h1⟩
 ·exact .inl ⟨e1,m',k,h1⟩
 ·exact .inr ⟨e1,m',f,h1⟩
theorem KDead.to {w w':World} {kb mb:Nat} {A:VAt} {m:Mem} {s s1 s':VSt} {n n':Nat} (h:KDead w kb mb A m s s1 n w') (hf:s1.f = s.f) (hn:n≤n'):KDead w kb mb A m s s' n' w':=by
 obtain ⟨m',f,h1,h2,h3,h4⟩:=h;exact ⟨m',f,.inl (by rcases h1 with h1 | h1;exact h1;exact h1.trans hf),h2,h3.mono hn,h4⟩
theorem KCall.md {w w':World} {kb mb:Nat} {A:VAt} {m:Mem} {s s':VSt} {n:Nat} {ro rc:Value} {e:Ending} (h:KCall w kb mb A m s s' n ro rc e w'):Mod (KS A mb) w w':=by
 rcases h with ⟨m',k,e1,h1,h2,h3,h4⟩ | ⟨m',f,e1,h1,h2,h3,h4,h5,h6⟩
 ·exact h4
 ·exact h6
theorem ZgY {w:World} {kb mb:Nat} {A:VAt} {m:Mem} {s:VSt} (h:KyR w kb mb A m s) (hs:KySt s) (hB:XB 64 72 18 A.Z) (ha:s.act = false) (st:Int) (hst:I64 st) (hrm:Room m (8 * vcost A)) (hne:¬ pKinds (kl (view s)) st = []) :
  Calls Tryz.prog 32 #[ptr kb,.int .i64 st] w (KCall w kb mb A m s { f:=sets s.f (dels st (pKinds (kl (view s)) st)),act:=false,l:=[] } (8 * vcost A) (errno 0) (errno 7)):=by
 have hR:=fun W (hm:Mod Nowhere w W)=>Z1 (h.fresh hm).at_ (h.fresh hm).rep;have hKi:=fun W (hm:Mod Nowhere w W)=>Y6 (h.fresh hm) st hst;have hn6:(pKinds (kl (view s)) st).length≤6:=Nat.le_trans (List.length_filter_le _ _) (by decide);have hn1:1≤(pKinds (kl (view s)) st).length:=List.length_pos_iff.2 hne
 have hsr:1≤st∧st≤8:=by
  obtain ⟨k,hk⟩:=List.exists_mem_of_ne_nil _ hne;have:=Y8 (kl_KL hs.v) hk;exact ⟨this.1,this.2.1⟩
 have hkr:∀ j (hj:j < (pKinds (kl (view s)) st).length),1≤(pKinds (kl (view s)) st)[j]∧(pKinds (kl (view s)) st)[j]≤6:=fun j hj=>(Y8 (kl_KL hs.v) (List.getElem_mem hj)).2.2;have hJ:=fun j=>sJ_st hs ha st j;have hdel:=fun j (hj:j < (pKinds (kl (view s)) st).length)=>ZgX hs ha hB st hj;have hvi:=view_idle hs ha;obtain ⟨R,hRe⟩:∃ R,KCall w kb mb A m s { f:=sets s.f (dels st (pKinds (kl (view s)) st)),act:=false,l:=[] } (8 * vcost A) (errno 0) (errno 7) = R:=⟨_,rfl⟩;rw [hRe];generalize hks:pKinds (kl (view s)) st = ks at *
 have hkl:kl (view (sJ s st ks 0)) = kl (view s):=by
  have:=(hJ 0).2;rw [List.take_zero] at this;rw [this,hvi]
  rfl
 have hKi2:∀ W m',KyR W kb mb A m' (sJ s st ks 0)→Calls Tryz.prog 59 #[ptr kb,.int .i64 st] W (NPost W kb mb A m' (sJ s st ks 0) ks):=fun W m' hk=>by
  have:=Y6 hk st hst;rw [hkl,hks] at this;exact this
 have hAct:∀ W,KyR W kb mb A m s→Calls Tryz.prog 67 #[ptr A.vb] W fun e w'=>e = .returned (.bool false)∧Mod Nowhere W w':=fun W hk=>by
  have:=ZgT hk.rep;rw [ha] at this;exact this
 have hsl:s.l = []:=hs.x.idle ha
 have hBeg:∀ W,KyR W kb mb A m s→Mod (KS A mb) w W→Calls Tryz.prog 16 #[ptr A.vb] W (KCall w kb mb A m s (sJ s st ks 0) 0 (errno 0) (errno 7)):=fun W hk hm=>by
  have:=ZbZ hk.rep;rw [Za9,if_neg (by rw [ha];decide)] at this;exact this.mono fun e w' hc=>hc.k hm hk ((hJ 0).1.v) (Nat.zero_le _)
 have hDel:∀ j (hj:j < ks.length) W m',KyR W kb mb A m' (sJ s st ks j)→Room m' (vcost A)→Calls Tryz.prog 69 #[ptr A.vb,.int .i64 ((64 + (8 * st.toNat + ks[j]):Nat):Int)] W (KCall W kb mb A m' (sJ s st ks j) (sJ s st ks (j + 1)) (vcost A) (errno 0) (errno 7)):=fun j hj W m' hk hr=>by
  have:=ZgA hk.rep (by have:=hk.len;omega) ((64 + (8 * st.toNat + ks[j]):Nat):Int) hr;rw [hdel j hj] at this;exact this.mono fun e w' hc=>hc.k (Mod.refl _ _) hk ((hJ (j + 1)).1.v) (by show (dels st (ks.take (j + 1))).length≤_;unfold dels;rw [List.length_map,List.length_take];omega)
 have hCom:∀ W m',KyR W kb mb A m' (sJ s st ks ks.length)→Room m' (vcost A)→Calls Tryz.prog 71 #[ptr A.vb] W (KCall W kb mb A m' (sJ s st ks ks.length) { f:=sets s.f (dels st ks),act:=false,l:=[] } (vcost A) (errno 0) (errno 7)):=fun W m' hk hr=>by
  have:=Zgz hk.rep (by have:=hk.len;omega) hr;rw [Zfc (hJ ks.length).1.x hB,if_pos (show (sJ s st ks ks.length).act = true from rfl),(hJ ks.length).2,List.take_length] at this;exact this.mono fun e w' hc=>hc.k (Mod.refl _ _) hk (by have:=(hJ ks.length).1.v;rw [(hJ ks.length).2,List.take_length] at this;exact this) (Nat.zero_le _)
 have hRd:∀ W (e:Ending) (s1:VSt) n1 W',s1.f = s.f ∨ s1 = { f:=sets s.f (dels st ks),act:=false,l:=[] }→n1≤8 * vcost A→KDead w kb mb A m s s1 n1 W→Mod Nowhere W W'→R (.returned (errno 7)) W':=fun W e s1 n1 W' hf hn hd hm=>by
  rw [← hRe];rcases hf with hf | rfl
  ·exact (hd.to hf hn).call hm
  ·obtain ⟨m',f,h1,h2,h3,h4⟩:=hd;exact KDead.call ⟨m',f,h1,h2,h3.mono hn,h4⟩ hm
 have hRo:∀ W m' k,KyR W kb mb A m' { f:=sets s.f (dels st ks),act:=false,l:=[] }→k≤8 * vcost A→Runs m m' k→Mod (KS A mb) w W→R (.returned (errno 0)) W:=fun W m' k h1 h2 h3 h4=>by
  rw [← hRe];exact .inl ⟨m',k,rfl,h1,h2,h3,h4⟩
 have hUn:∀ W s1 n1,KDead w kb mb A m s s1 n1 W→Calls Tryz.prog 70 #[ptr kb,.bool true,.int .i64 0,errno 7] W fun e w'=>e = .returned (errno 7)∧Mod Nowhere W w':=fun W s1 n1 hd=>by
  obtain ⟨m',f,h1,h2,h3,h4,h5,h6⟩:=hd;exact ZgV h4 h2 0 7
 have hI:=fun W (k:Nat) (hk:k≤100)=>Z0 W st.toNat k (by omega) hk;have hstn:((st.toNat:Nat):Int) = st:=by omega
 rw [hstn] at hI;have hKc:=h.at_.c
 have hKc2:∀ W m' s',KyR W kb mb A m' s'→∀ W',Mod Nowhere W W'→W'.cell? ⟨kb,0,none⟩ = some (ptr A.vb)∧kb < W'.heap.size:=fun W m' s' hk W' hm=>by
  obtain ⟨a,-,c⟩:=hk.at_.c W' hm;exact ⟨a,c⟩
 have hKd:∀ W s1 n1,KDead w kb mb A m s s1 n1 W→W.cell? ⟨kb,0,none⟩ = some (ptr A.vb)∧kb < W.heap.size:=fun W s1 n1 hd=>by
  obtain ⟨m',f,h1,h2,h3,h4,h5,h6⟩:=hd;obtain ⟨a,-,c⟩:=h4.c W (Mod.refl _ _);exact ⟨a,c⟩
 have hSv:∀ W m',KyR W kb mb A m' (sJ s st ks 0)→Calls Tryz.prog 68 #[ptr A.vb] W fun e w'=>e = .returned (.int .i64 0)∧Mod Nowhere W w':=fun W m' hk=>ZgU hk.rep
 have hoff:∀ W m' s',KyR W kb mb A m' s'→∀ k,KS A mb k→k < W.heap.size:=fun W m' s' hk k hS=>by
  rcases hS with e | e
  ·rw [e];exact hk.mbl
  ·exact hk.rep.ltSx k e
 have hrm':=hrm;obtain ⟨nk,hnk⟩:∃ n,ks.length = n:=⟨_,rfl⟩;obtain ⟨vc,hvc⟩:∃ n,vcost A = n:=⟨_,rfl⟩;have h0:=h;have hnz:¬ (nk:Int) = 0:=by omega
 clear hs hB hne hrm hJ hdel hvi hsl hst ha;refine hid12 ?_ hR hKi hn6 hn1 hsr hkr hKi2 hAct hBeg hDel hCom hRd;clear hR hKi hn6 hn1 hsr hkr hKi2 hAct hBeg hDel hCom hRd;intro hR hKi hn6 hn1 hsr hkr hKi2 hAct hBeg hDel hCom hRd;refine hid12 ?_ hRo hUn hI hKc hKc2 hKd hSv hoff hrm' hks hkl hRe;clear hRo hUn hI hKc hKc2 hKd hSv hoff hrm' hks hkl hRe;intro hRo hUn hI hKc hKc2 hKd hSv hoff hrm' hks hkl hRe;refine hid5 ?_ hstn hvc h0 h hnk;clear hstn hvc h0 h hnk;intro hstn hvc h0 h hnk;go_enter Tryz.func32,Tryz.ntmps32;go_wp2_with fail;refine (hR.out w (Mod.refl _ _)).mono ?_;rintro e w1 ⟨rfl,hm1⟩;replace hm1:=Lib.hid hm1
 go_wp2_with fail;refine (hKi.out w1 hm1.out).mono ?_;rintro e w2 ⟨v2,rfl,hs2,-,hK2,hm2⟩;obtain ⟨a2,c2,rfl,-⟩:=Sl.len hs2;rw [hnk.out];have hm02:=(hm1.out.nowhere (S:=KS A mb)).trans (hm2.mono fun _ _ e=>.inl e:Mod (KS A mb) w1 w2);obtain ⟨k0,kl0⟩:=hKc2.out w2 m s hK2 w2 (Mod.refl _ _);clear hs2 hm2;refine hid2 ?_ hK2 hm02;clear hK2 hm02;intro hK2 hm02;go_wp2_with fail;refine (hAct.out w2 hK2.out).mono ?_;rintro e w3 ⟨rfl,hm3⟩;have hK3:=hK2.out.fresh hm3;have hm03:=hm02.out.trans (hm3.nowhere (S:=KS A mb));clear k0 kl0;obtain ⟨k0,kl0⟩:=hKc2.out w3 m s hK3 w3 (Mod.refl _ _);refine hid3 ?_ hK3 hm03 hm3;clear hK3 hm03 hm3;intro hK3 hm03 hm3
 go_wp2_with fail;refine (hBeg.out w3 hK3.out hm03.out).mono ?_;rintro e w4 hc4;rcases hc4.dead with ⟨rfl,m4,n4,hK4,hn4,hr4,hm4⟩ | ⟨rfl,hd⟩
 ·clear k0 kl0 hc4;obtain ⟨k0,kl0⟩:=hKc2.out w4 m4 _ hK4 w4 (Mod.refl _ _);refine hid4 ?_ hK4 hn4 hr4 hm4;clear hK4 hn4 hr4 hm4;intro hK4 hn4 hr4 hm4;go_wp2_with fail;refine (hSv.out w4 m4 hK4.out).mono ?_;rintro e w5 ⟨rfl,hm5⟩;have hK5:=hK4.out.fresh hm5;clear k0 kl0;obtain ⟨k0,kl0⟩:=hKc2.out w5 m4 _ hK5 w5 (Mod.refl _ _);have hoff5:=hoff.out w5 m4 _ hK5;refine hid3 ?_ hK5 hm5 hoff5;clear hK5 hm5 hoff5;intro hK5 hm5 hoff5;go_wp2_with fail;refine (hKi2.out w5 m4 hK5.out).mono ?_;rintro e w6 ⟨v6,rfl,hs6,hfr6,hK6,hm6⟩;have hm06:=(hm4.out.trans (hm5.out.nowhere (S:=KS A mb))).trans (hm6.mono fun _ _ e=>.inl e:Mod (KS A mb) w5 w6)
  have hoff6:Off (KS A mb) v6:=fun k hk hS=>by
   have h1:=hfr6 k hk;have h2:=hoff5.out k hS;omega
  obtain ⟨b6,off6,c6,rfl,hb6,hc61,hc62,-,-⟩:=hs6.open (by have:=hn1.out;omega)
  have hcel:∀ W,Mod (KS A mb) w6 W→∀ j (hj:j < ks.length),W.cell? ⟨b6,off6 + j,none⟩ = some (.int .i64 ((ks[j]:Nat):Int))∧b6 < W.heap.size:=fun W hm j hj=>by
   obtain ⟨b',off',cap',e,hbl,-,-,hc,-⟩:=(hs6.mod hm hoff6).open (by omega);simp at e;obtain ⟨⟨rfl,rfl⟩,rfl⟩:=e;refine ⟨(hc j (by omega)).trans ?_,hbl⟩
   congr 1
   unfold ints;rw [gd0,List.getElem?_map,List.getElem?_eq_getElem hj]
   rfl
  rw [hnk.out] at hc61 ⊢;unfold maxLen at hc62;clear hs6 hfr6 hoff6 hm6 k0 kl0 hb6 hm5 hK4 hm4 hoff5 hK5;refine hid3 ?_ hK6 hm06 hcel;clear hK6 hm06 hcel;intro hK6 hm06 hcel;go_wp2_with fail
  go_loopw [47] (fun i wr=>∃ j:Nat,j≤nk∧i = .int .i64 j∧(∃ m' k,KyR wr kb mb A m' (sJ s st ks j)∧k≤j * vcost A∧Runs m m' k)∧Mod (KS A mb) w wr∧Mod (KS A mb) w6 wr) (fun i _=>nk - (intOf i).toNat)
  case atStart=>exact ⟨0,by omega,rfl,⟨m4,n4,hK6.out,by have:=hn4.out;omega,hr4.out⟩,hm06.out,Mod.refl _ _⟩
  case round =>
   obtain ⟨j,hj,rfl,⟨m',k,hKj,hkj,hrj⟩,hm,hm'⟩:=hrel;have hj6:j * vcost A≤6 * vcost A:=Nat.mul_le_mul_right _ (by have:=hn6.out;have:=hnk.out;omega);have hroom:Room m' (vcost A):=hrm'.out.runs hrj (by omega);by_cases hlt:j < nk
   ·have hjl:j < ks.length:=by have:=hnk.out;omega
    have hji:(j:Int) < (nk:Int):=by omega
    obtain ⟨q0,ql⟩:=hcel.out wr hm' j hjl;have hkr1:=hkr.out j hjl;have hD:=fun W hk=>hDel.out j hjl W m' hk hroom;obtain ⟨kj,hkj2⟩:∃ x,ks[j] = x:=⟨_,rfl⟩;rw [hkj2] at q0 hD hkr1;have hIk:=fun W=>hI.out W kj (by omega);obtain ⟨num,hnum⟩:∃ x:Nat,64 + (8 * st.toNat + kj) = x:=⟨_,rfl⟩;rw [hnum] at hIk hD;refine hid12 ?_ hKj hkj hrj hm hm' hj6 hroom hkr1 hD hIk hnum hkj2;clear hKj hkj hrj hm hm' hj6 hroom hkr1 hD hIk hnum hkj2;intro hKj hkj hrj hm hm' hj6 hroom hkr1 hD hIk hnum hkj2;replace hjl:=Lib.hid hjl;go_wp2_with fail;clear q0 ql;refine ZD 8 (fun i v w'=>match i with | 0=>(v = ptr kb) | 1=>(v = ptr kb) | 2=>(v = .pointer (some ⟨kb,0,none⟩)) | 3=>(v = ptr A.vb) | 4=>(v = .int .i64 st) | 5=>(v = .int .i64 (kj:Int)) | 6=>(v = .agg #[.int .i64 st,.int .i64 (kj:Int)]) | 7=>(v = .int .i64 (num:Int)) | _=>True) ?A_ (by first | assumption | kernel_rfl) (by kernel_rfl) (by kernel_rfl) (by kernel_rfl) (by decide) ?hA_ ?hS_ ?hE_
    case hA_=>intro xs;simp [putAll,List.range,List.range.loop,Act.put] <;> rfl
    case hS_ =>
     refine ⟨?_,?_,?_,?_,?_,?_,?_,?_,trivial⟩
     ·-- 0: t51:=move(t0)
      intro yv w' hR hF K hK;clear hF
      go_simp
      exact hK _ _ (fun _ _=>by first | trivial | rfl | simp [*]) (Mod.refl _ _)
     ·-- 1: t52:=nilCheck(t51)
      intro yv w' hR hF K hK;have f0:(yv 0) = ptr kb:=hF 0 (by kernel_rfl) w' (Mod.refl _ _);clear hF;generalize yv 0 = y0 at *;subst f0
      go_simp
      exact hK _ _ (fun _ _=>by first | trivial | rfl | simp [*]) (Mod.refl _ _)
     ·-- 2: t53:=fieldAddr(55,t52,0)
      intro yv w' hR hF K hK;have f1:(yv 1) = ptr kb:=hF 1 (by kernel_rfl) w' (Mod.refl _ _);clear hF;generalize yv 1 = y1 at *;subst f1
      go_simp
      exact hK _ _ (fun _ _=>by first | trivial | rfl | simp [*]) (Mod.refl _ _)
     ·-- 3: t54:=load(26,t53)
      intro yv w' hR hF K hK;have f2:(yv 2) = .pointer (some ⟨kb,0,none⟩):=hF 2 (by kernel_rfl) w' (Mod.refl _ _);clear hF;generalize yv 2 = y2 at *;subst f2;obtain ⟨z0,zl⟩:=hKc2.out wr m' _ hKj.out w' ((Mod.refl Nowhere _).drew.trans hR)
      go_simp
      exact hK _ _ (fun _ _=>rfl) (Mod.refl _ _)
     ·-- 4: t55:=move(t1)
      intro yv w' hR hF K hK;clear hF
      go_simp
      exact hK _ _ (fun _ _=>by first | trivial | rfl | simp [*]) (Mod.refl _ _)
     ·-- 5: t56:=move(t10)
      intro yv w' hR hF K hK;clear hF
      go_simp
      exact hK _ _ (fun _ _=>by first | trivial | rfl | simp [*]) (Mod.refl _ _)
     ·-- 6: t57:=build(88,[(0,t55),(1,t56)])
      intro yv w' hR hF K hK;have f4:(yv 4) = .int .i64 st:=hF 4 (by kernel_rfl) w' (Mod.refl _ _);have f5:(yv 5) = .int .i64 (kj:Int):=hF 5 (by kernel_rfl) w' (Mod.refl _ _);clear hF;generalize yv 4 = y4 at *;subst f4;generalize yv 5 = y5 at *;subst f5
      go_simp
      exact hK _ _ (fun _ _=>by first | trivial | rfl | simp [*]) (Mod.refl _ _)
     ·-- 7: t58:=CALL F42 (t57)
      intro yv w' hR hF K hK;have f6:(yv 6) = .agg #[.int .i64 st,.int .i64 (kj:Int)]:=hF 6 (by kernel_rfl) w' (Mod.refl _ _);clear hF;generalize yv 6 = y6 at *;subst f6;have hc:=hIk.out w';replace hc:=Lib.hid hc
      go_simp
      go_at_call 42
      refine hc.out.mono ?_;rintro e w9 ⟨rfl,hm9⟩;exact hK _ _ (fun _ _=>rfl) hm9
    case hE_ =>
     intro yv w' hR hF;have f0:(yv 0) = ptr kb:=hF 0 (by simp) w' (Mod.refl _ _);have f1:(yv 1) = ptr kb:=hF 1 (by simp) w' (Mod.refl _ _);have f2:(yv 2) = .pointer (some ⟨kb,0,none⟩):=hF 2 (by simp) w' (Mod.refl _ _);have f3:(yv 3) = ptr A.vb:=hF 3 (by simp) w' (Mod.refl _ _);have f4:(yv 4) = .int .i64 st:=hF 4 (by simp) w' (Mod.refl _ _);have f5:(yv 5) = .int .i64 (kj:Int):=hF 5 (by simp) w' (Mod.refl _ _);have f6:(yv 6) = .agg #[.int .i64 st,.int .i64 (kj:Int)]:=hF 6 (by simp) w' (Mod.refl _ _);have f7:(yv 7) = .int .i64 (num:Int):=hF 7 (by simp) w' (Mod.refl _ _)
     clear hF;generalize yv 0 = y0 at *;subst f0;generalize yv 1 = y1 at *;subst f1;generalize yv 2 = y2 at *;subst f2;generalize yv 3 = y3 at *;subst f3;generalize yv 4 = y4 at *;subst f4;generalize yv 5 = y5 at *;subst f5;generalize yv 6 = y6 at *;subst f6;generalize yv 7 = y7 at *;subst f7;simp only [List.drop_succ_cons,List.drop_zero];have hm7:=(Mod.refl Nowhere wr).drew.trans hR;have hK7:=hKj.out.fresh hm7;have hc:=hD.out w' hK7;have hmA:=hm.out.trans (hm7.nowhere (S:=KS A mb));have hmB:=hm'.out.trans (hm7.nowhere (S:=KS A mb));clear hR hm7 hIk hD hm hm' hKj;refine hid4 ?_ hK7 hc hmA hmB;clear hK7 hc hmA hmB;intro hK7 hc hmA hmB
     go_wp2_with fail;refine hc.out.mono ?_;rintro r w9 hc9;have hmC:=hmB.out.trans hc9.md;have hc9':=hc9.later (s:=s) hrj.out rfl hmA.out;rcases hc9'.dead with ⟨rfl,m9,k9,hK9,hk9,hr9,hm9⟩ | ⟨rfl,hd⟩
     ·have hj1:(j + 1) * vcost A = j * vcost A + vcost A:=Nat.succ_mul j (vcost A);have hkk:=hkj.out;have hb9:k9≤(j + 1) * vcost A:=by omega
      clear hc9 hc9' hj1 hkk hk9;refine hid5 ?_ hK9 hr9 hm9 hmC hb9;clear hK9 hr9 hm9 hmC hb9;intro hK9 hr9 hm9 hmC hb9;go_wp2;go_roundw
      case rel=>exact ⟨j + 1,by omega,by go_num,⟨m9,k9,hK9.out,hb9.out,hr9.out⟩,hm9.out,hmC.out⟩
      case measure=>simp [intOf];omega
     ·obtain ⟨k0,kl0⟩:=hKd.out w9 _ _ hd;have hU:=hUn.out w9 _ _ hd;have hb9:k + vcost A≤8 * vcost A:=by have:=hkj.out;have:=hj6.out;omega
      clear hc9 hc9';refine hid3 ?_ hU hd hb9;clear hU hd hb9;intro hU hd hb9;go_wp2_with fail;refine hU.out.mono ?_;rintro r w10 ⟨rfl,hm10⟩;have hf:=hRd.out w9 (.returned (errno 7)) _ _ w10 (.inl rfl) hb9.out hd.out hm10;refine hid2 ?_ hf hm10;clear hf hm10;intro hf hm10;go_wp2;exact hf.out
   ·obtain rfl:j = nk:=by omega
    have hCo:=hCom.out wr m';rw [hnk.out] at hCo;have hCo2:=hCo hKj hroom;obtain ⟨k0,kl0⟩:=hKc2.out wr m' _ hKj wr (Mod.refl _ _);clear hCo;refine hid8 ?_ hKj hkj hrj hm hm' hj6 hroom hCo2;clear hKj hkj hrj hm hm' hj6 hroom hCo2;intro hKj hkj hrj hm hm' hj6 hroom hCo2;go_wp2_with fail;refine (hCo2.out).mono ?_;rintro e w9 hc9;have hc9':=hc9.later (s:=s) hrj.out rfl hm.out;have hb9:k + vcost A≤8 * vcost A:=by have:=hkj.out;have:=hj6.out;omega
    clear k0 kl0;rcases hc9'.dead with ⟨rfl,m9,k9,hK9,hk9,hr9,hm9⟩ | ⟨rfl,hd⟩
    ·have hf:=hRo.out w9 m9 k9 hK9 (Nat.le_trans hk9 hb9) hr9 hm9;clear hc9 hc9';refine hid6 ?_ hf hK9 hk9 hr9 hm9 hb9;clear hf hK9 hk9 hr9 hm9 hb9;intro hf hK9 hk9 hr9 hm9 hb9;go_wp2;exact hf.out
    ·obtain ⟨k0,kl0⟩:=hKd.out w9 _ _ hd;have hU:=hUn.out w9 _ _ hd;clear hc9 hc9';refine hid3 ?_ hU hd hb9;clear hU hd hb9;intro hU hd hb9;go_wp2_with fail;refine hU.out.mono ?_;rintro r w10 ⟨rfl,hm10⟩;have hf:=hRd.out w9 (.returned (errno 7)) _ _ w10 (.inr rfl) hb9.out hd.out hm10;refine hid2 ?_ hf hm10;clear hf hm10;intro hf hm10;go_wp2;exact hf.out
 ·have hf:=hRd.out w4 (.returned (errno 7)) _ _ w4 (.inl rfl) (Nat.zero_le _) hd (Mod.refl _ _);clear hc4;refine hid2 ?_ hf hd;clear hf hd;intro hf hd;go_wp2;exact hf.out
theorem Zch {w:World} {kb mb:Nat} {A:VAt} {m:Mem} {s:VSt} (h:KyR w kb mb A m s) (hs:KySt s) (hB:XB 64 72 18 A.Z) (ha:s.act = false) (st:Int) (hst:I64 st) (hrm:Room m (8 * vcost A)) :
  Calls Tryz.prog 32 #[ptr kb,.int .i64 st] w (KCall w kb mb A m s (kDel s st).1 (8 * vcost A) (errno ((kDel s st).2:Nat)) (errno 7)):=by
 unfold kDel;by_cases hne:pKinds (kl (view s)) st = []
 ·rw [if_pos hne];have hR:=Z1 h.at_ h.rep;have hKi:=fun W (hm:Mod Nowhere w W)=>Y6 (h.fresh hm) st hst;rw [hne] at hKi;have hfin:∀ W,KyR W kb mb A m s→Mod (OneB mb) w W→KCall w kb mb A m s s (8 * vcost A) (errno 12) (errno 7) (.returned (errno 12)) W:=fun W hk hm=>KCall.same hk (hm.mono fun _ _ e=>.inl e)
  show Calls Tryz.prog 32 #[ptr kb,.int .i64 st] w (KCall w kb mb A m s s (8 * vcost A) (errno 12) (errno 7))
  generalize KCall w kb mb A m s s (8 * vcost A) (errno 12) (errno 7) = R at *;clear h hs hB hrm hne;refine hid3 ?_ hR hKi hfin;clear hR hKi hfin;intro hR hKi hfin;go_enter Tryz.func32,Tryz.ntmps32;go_wp2_with fail;refine (hR.out).mono ?_;rintro e w1 ⟨rfl,hm1⟩;replace hm1:=Lib.hid hm1;go_wp2_with fail;refine (hKi.out w1 hm1.out).mono ?_;rintro e w2 ⟨v2,rfl,hs2,-,hK2,hm2⟩;have hf:=hfin.out w2 hK2 (hm1.out.nowhere.trans hm2);obtain ⟨a2,c2,rfl,-⟩:=Sl.len hs2;rw [List.length_nil] at *;clear hs2;refine hid3 ?_ hf hK2 hm2;clear hf hK2 hm2;intro hf hK2 hm2;go_wp2;exact hf.out
 ·rw [if_neg hne];exact ZgY h hs hB ha st hst hrm hne
def KOPost (w:World) (A:VAt) (m:Mem) (s:VSt) (e:Ending) (w':World):Prop:=∃ kb mb,e = .returned (.tuple #[ptr kb,errno 0])∧KyR w' kb mb (A.bar mb) m s∧w.heap.size≤kb∧w.heap.size≤mb∧Mod Nowhere w w'
theorem Zci {w:World} {A:VAt} {m:Mem} {s:VSt} (h:VRep w A m s) (hl:s.l.length≤900000) (hit:KIt (view s)):Calls Tryz.prog 14 #[ptr A.vb] w (KOPost w A m s):=by
 have hA:=Zb0 h;have hP:=fun W=>Zb4 W;have hI:=fun W (s k:Nat) (hs:s≤100) (hk:k≤100)=>Z0 W s k hs hk
 have hG:∀ W,Mod Nowhere w W→∀ i:Nat,i < 48→Calls Tryz.prog 41 #[ptr A.vb,.int .i64 ((64 + (8 * (i / 6 + 1) + (i % 6 + 1)):Nat):Int)] W (GetPost W ((kfind (kl (view s)) (i / 6 + 1:Nat) (i % 6 + 1:Nat)).map kB)):=fun W hm i hi=>by
  have h1:=Zb1 (h.fresh hm) (by omega) ((64 + (8 * (i / 6 + 1) + (i % 6 + 1)):Nat):Int) (by omega) (by omega);rw [← X2 hit (by omega) (by omega) (by omega) (by omega)]
  have h2:at_ (sets s.f s.l) ((64 + (8 * (i / 6 + 1) + (i % 6 + 1)):Nat):Int) = view s (64 + (8 * (i / 6 + 1) + (i % 6 + 1))):=by
   unfold at_ view;rw [if_pos (by omega),Int.toNat_natCast]
  rw [h2] at h1;exact h1
 have hL:=kl_KL hit;have hfin:∀ W1 W kb mb,Mod Nowhere w W1→W1.heap.size≤mb→mb < W.heap.size→Mod Nowhere W1 W→KAt W kb A.vb mb→MapIs W mb→w.heap.size≤kb→KOPost w A m s (.returned (.tuple #[ptr kb,errno 0])) W:=fun W1 W kb mb h1 h2 h3 h4 h5 h6 h7=>⟨kb,mb,rfl,⟨h5,(h.fresh h1).bar h4 h2 h3,.inr rfl,h6,hl,hit⟩,h7,Nat.le_trans h1.size h2,h1.trans h4⟩;generalize KOPost w A m s = R at *;generalize kl (view s) = L at *;generalize A.vb = vb at *;clear h hl hit;refine hid6 ?_ hA hP hI hG hL hfin;clear hA hP hI hG hL hfin;intro hA hP hI hG hL hfin;go_enter Tryz.func14,Tryz.ntmps14
 go_wp2_with fail;refine (hA.out).mono ?_;rintro e w1 ⟨rfl,hm1⟩;have hmm:=run_makeMap (P:=Tryz.prog) 53 w1;have hm12:Mod Nowhere w1 ((w1.alloc (.map #[] 0)).alloc (.cells #[ptr vb,.map (some w1.heap.size)] 55)):=((Mod.refl _ w1).alloc _).alloc _;have hmp:MapIs ((w1.alloc (.map #[] 0)).alloc (.cells #[ptr vb,.map (some w1.heap.size)] 55)) w1.heap.size:=⟨0,_,(KMap.made w1).fresh ((Mod.refl _ _).alloc _)⟩
 have hkb:KAt ((w1.alloc (.map #[] 0)).alloc (.cells #[ptr vb,.map (some w1.heap.size)] 55)) (w1.heap.size + 1) vb w1.heap.size:=by
  have:=Blk.new (w1.alloc (.map #[] 0)) [ptr vb,.map (some w1.heap.size)] 55;unfold KAt;simpa using this
 have hsz:((w1.alloc (.map #[] 0)).alloc (.cells #[ptr vb,.map (some w1.heap.size)] 55)).heap.size = w1.heap.size + 2:=by simp
 have hsz1:=hm1.size;refine hid6 ?_ hm12 hmp hkb hsz hm1 hsz1;clear hm12 hmp hkb hsz hm1 hsz1;intro hm12 hmp hkb hsz hm1 hsz1;go_wp2_with fail;obtain ⟨w2,hw2⟩:∃ W,((w1.alloc (.map #[] 0)).alloc (.cells #[ptr vb,.map (some w1.heap.size)] 55)) = W:=⟨_,rfl⟩;rw [hw2];replace hm12:=hm12.out;replace hmp:=hmp.out;replace hkb:=hkb.out;replace hsz:=hsz.out;rw [hw2] at hm12 hmp hkb hsz;generalize hmb:w1.heap.size = mb at *;clear hmm;refine hid6 ?_ hm12 hmp hkb hsz hmb hw2;clear hm12 hmp hkb hsz hmb hw2;intro hm12 hmp hkb hsz hmb hw2;refine (hP.out w2).mono ?_;rintro e w3 ⟨b,cap,rfl,c1,c2,hcells,hge,hm3,cs,hbp⟩;have hm23:=hm12.out.trans hm3
 have hcel:∀ W,Mod Nowhere w3 W→∀ i,i < 48→W.cell? ⟨b,i * 2,none⟩ = some (.int .i64 ((i / 6 + 1:Nat):Int))∧W.cell? ⟨b,i * 2 + 1,none⟩ = some (.int .i64 ((i % 6 + 1:Nat):Int))∧b < W.heap.size:=hcells;have hmp3:=hmp.out.fresh hm3;have hkb3:KAt w3 (mb + 1) vb mb:=Blk.mod hkb.out hm3 id;have hsz3:=hm3.size;unfold maxLen at c2;clear hcells hbp hge;refine hid6 ?_ hm23 hcel hmp3 hkb3 hsz3 hm3;clear hm23 hcel hmp3 hkb3 hsz3 hm3;intro hm23 hcel hmp3 hkb3 hsz3 hm3;go_wp2_with fail
 go_loopw [22] (fun i wr=>∃ k:Nat,k≤48∧i = .int .i64 k∧Mod Nowhere w3 wr) (fun i _=>48 - (intOf i).toNat)
 case atStart=>exact ⟨0,by omega,rfl,Mod.refl _ _⟩
 case round =>
  obtain ⟨k,hk,rfl,hm⟩:=hrel;by_cases hlt:k < 48
  ·have hki:(k:Int) < 48:=by omega
   obtain ⟨q1,q2,q3⟩:=hcel.out wr hm k hlt;have hGk:=fun W hm=>hG.out W hm k hlt;obtain ⟨S,hS⟩:∃ S,k / 6 + 1 = S:=⟨_,rfl⟩;obtain ⟨T,hT⟩:∃ T,k % 6 + 1 = T:=⟨_,rfl⟩;rw [hS] at q1 hGk;rw [hT] at q2 hGk;obtain ⟨o,ho⟩:∃ o,(kfind L (S:Int) (T:Int)).map kB = o:=⟨_,rfl⟩;rw [ho] at hGk;have hIk:=fun W=>hI.out W S T (by omega) (by omega);obtain ⟨num,hnum⟩:∃ x:Nat,64 + (8 * S + T) = x:=⟨_,rfl⟩;rw [hnum] at hGk hIk;have hmA:Mod Nowhere wr (wr.alloc (.cells #[.int .i64 (S:Int),.int .i64 (T:Int)] 88)):=(Mod.refl _ wr).alloc _;refine hid8 ?_ hm hGk hIk hS hT hnum ho hmA;clear hm hGk hIk hS hT hnum ho hmA;intro hm hGk hIk hS hT hnum ho hmA
   go_wp2_with fail;refine (hIk.out _).mono ?_;rintro r w4 ⟨rfl,hm4⟩;have hm34:=(hm.out.trans hmA.out).trans hm4;have hGo:=hGk.out w4 ((hm1.out.trans hm23.out).trans hm34);clear q1 q2 q3;refine hid3 ?_ hm4 hm34 hGo;clear hm4 hm34 hGo;intro hm4 hm34 hGo;go_wp2_with fail;refine hGo.out.mono ?_;rintro r w5 ⟨u,rfl,hown,hm5⟩;obtain ⟨a,c,rfl,-⟩:=Zf hown;have hd:DSl w5 (.slice a (o.getD []).length c) (o.getD []):=Sl.of_owns hown;have hm35:=hm34.out.trans hm5;clear hown hGo hGk hIk;refine hid3 ?_ hm5 hm35 hd;clear hm5 hm35 hd;intro hm5 hm35 hd
   cases hf:kfind L (S:Int) (T:Int) with
   | none =>
    obtain rfl:none = o:=by have:=ho.out;rw [hf] at this;exact this
    replace hf:=Lib.hid hf;go_wp2;go_roundw
    case rel=>exact ⟨k + 1,by omega,by go_num,hm35.out⟩
    case measure=>simp [intOf];omega
   | some e =>
    obtain rfl:some (kB e) = o:=by have:=ho.out;rw [hf] at this;exact this
    have he:KOk e:=(Zp hL.out hf).2.1;have hlen:((some (kB e)).getD []).length = 18:=he.len;have hD:=Zb5 (v:=.slice a ((some (kB e)).getD []).length c) hd.out he;rw [hlen] at hD ⊢;clear hlen;have hev:=he.v16;refine hid4 ?_ hD he hf hev;clear hD he hf hev;intro hD he hf hev;go_wp2_with fail;refine hD.out.mono ?_;rintro r w6 ⟨u,rfl,hdu,hm6⟩;obtain ⟨ua,uc,rfl,-⟩:=Sl.len hdu;rw [hev.out];have hm36:=(hm35.out.trans hm6).alloc (.cells #[.int .i64 (e.tries:Int),.int .i64 (e.lim:Int),.slice ua 16 uc] 93);clear hdu;generalize e.tries = et at *;generalize e.lim = el at *;refine hid2 ?_ hm36 hm6;clear hm36 hm6;intro hm36 hm6
    go_wp2;go_roundw
    case rel=>exact ⟨k + 1,by omega,by go_num,hm36.out⟩
    case measure=>simp [intOf];omega
  ·obtain rfl:k = 48:=by omega
   have hf:=hfin.out w1 wr (mb + 1) mb hm1.out (Nat.le_of_eq hmb.out) (by have:=hsz.out;have:=hsz3.out;have:=hm.size;omega) (hm23.out.trans hm) (Blk.mod hkb3.out hm id) (hmp3.out.fresh hm) (by have:=hsz1.out;have:=hmb.out;omega);refine hid2 ?_ hf hm;clear hf hm;intro hf hm;go_wp2;exact hf.out
section
variable {w : World} {p : Option Addr} {er : Nat}
end
end Go.Proofs.YtoehlaeaafalmaaGreat
