/-
  The keys of the laws: opened on a new vault, no cut planned.
-/
import Derived.Test.YtoehlaeaafalmaaGreatCK6
import Derived.Test.YtoehlaeaafalmaaGreatCG46
set_option linter.unusedVariables false
set_option linter.unusedSimpArgs false
set_option maxHeartbeats 8000000
set_option maxRecDepth 100000
namespace Go.Proofs.YtoehlaeaafalmaaGreat
open Go.RowKit
open Jn Vn Rg Ky
attribute [local go_sem] Oper.semAt_some
structure KyL (w:World) (A:VAt) (m:Mem) (s:VSt) (kb mb n:Nat):Prop where
 vl:Vl w A m s n
 ky:KyR w kb mb A m s
 st:KySt s
 xb:XB 64 72 18 A.Z
 co:vcost A≤511392
section
variable {w w' : World} {A : VAt} {m : Mem} {s s' : VSt} {kb mb n k : Nat} {ro rc : Value} {e : Ending}
theorem KyL.fresh (h:KyL w A m s kb mb n) (hm:Mod Nowhere w w'):KyL w' A m s kb mb n:={ h with vl:=h.vl.fresh hm,ky:=h.ky.fresh hm }
theorem KyL.less (h:KyL w A m s kb mb n) (hk:k≤n):KyL w A m s kb mb k:={ h with vl:=h.vl.less hk }
theorem KyL.only (h:KyL w A m s kb mb n) (hk:KyR w' kb mb A m s):KyL w' A m s kb mb n:={ h with vl:={ h.vl with rep:=hk.rep },ky:=hk }
theorem KyL.room (h:KyL w A m s kb mb n) (hn:4091136≤n):Room m (8 * vcost A):=h.vl.room.mono (by have:=h.co;omega)
theorem KyL.room1 (h:KyL w A m s kb mb n) (hn:511392≤n):Room m (vcost A):=h.vl.room.mono (by have:=h.co;omega)
theorem KCall.alive (hc:KCall w kb mb A m s s' k ro rc e w') (h:KyL w A m s kb mb (n + k)) (hs:KySt s') (hl:s'.l.length≤1000) :
  (e = .returned ro∧∃ m',KyL w' A m' s' kb mb n∧m'.pending = m.pending∧m'.cuts = m.cuts∧m'.off = false∧Mod (KS A mb) w w') ∨ (e = .returned rc∧KDead w kb mb A m s s' k w'):=by
 rcases hc.dead with ⟨a,m',j,b,c,d,f⟩ | h2
 ·refine .inl ⟨a,m',⟨⟨b.rep,hl,h.vl.room.runs d (by omega),h.vl.cost,d.clean h.vl.clean,by rw [d.size];exact h.vl.c240,by rw [d.size];exact h.vl.cC,by rw [d.size];exact h.vl.cN,h.vl.c33⟩,b,hs,h.xb,h.co⟩,d.pend,d.cuts,d.off,f⟩
 ·exact .inr h2
theorem KCall.sure (hc:KCall w kb mb A m s s' k ro rc e w') (h:KyL w A m s kb mb (n + k)) (hs:KySt s') (hl:s'.l.length≤1000) (hp:m.pending = false) :
  e = .returned ro∧∃ m',KyL w' A m' s' kb mb n∧m'.pending = false∧Mod (KS A mb) w w':=by
 rcases hc.alive h hs hl with ⟨a,m',b,c,-,-,d⟩ | ⟨-,m',f,-,-,hst,-⟩
 ·exact ⟨a,m',b,c.trans hp,d⟩
 ·have:=hst.pend;rw [hp] at this;cases this
end
theorem VNew.vl8 {w w':World} {v:Ending} (h:VNew 8192 1073741824 w v w'):∃ A m,v = .returned (.tuple #[ptr A.M.mb,ptr A.vb,errno 0])∧Vl w' A m (xIdle none_) 1000000000∧(∀ k,A.S k→w.heap.size≤k)∧m.pending = false∧XB 64 72 18 A.Z∧vcost A≤511392∧Mod Nowhere w w'∧A.cuts = 0:=by
 obtain ⟨A,m,k,a,b,c,d,e,f,g,i,j⟩:=h;have hb:A.count = 341:=b
 have hcost:vcost A≤511392:=by
  unfold vcost VAt.Z;rw [hb]
  decide
 have hz:m.size = 8192:=g.size.trans (Mem.new_size _ _);refine ⟨A,m,a,⟨e,Nat.zero_le _,⟨by rw [g.writes,g.endu];show 0 + k + 1000000000≤1073741824;omega,by rw [g.cuts];show 0 < 1099511627776;decide⟩,Nat.le_trans hcost (by decide),g.clean (Mem.new_clean _ _),by rw [hz];decide,by rw [hz,hb],by rw [hz,c],by rw [hb];decide⟩,i,g.pend,⟨by decide,by decide,by decide,?_,by decide⟩,hcost,j,d⟩;unfold VAt.Z;rw [hb]
 decide
theorem Zg9 (w:World):Calls Tryz.prog 35 #[] w fun e w'=>e = .returned (.agg #[.int .i64 8192,.int .i64 1073741824])∧Mod Nowhere w w':=by
 have hb2:=Blk.new w [.int .i64 8192,.int .i64 1073741824] 79;have hm:Mod Nowhere w (w.alloc (.cells #[.int .i64 8192,.int .i64 1073741824] 79)):=(Mod.refl _ w).alloc _;refine hid2 ?_ hb2 hm;clear hb2 hm;intro hb2 hm;go_enter Tryz.func35,Tryz.ntmps35;go_wp2;refine bodyPost_ret (results_cell_row rfl _ _ w.heap.size 79 _ (0,0) _ rfl hb2.out Tryz.underlying79 rfl (by kernel_rfl)) rfl ?_;exact ⟨rfl,hm.out⟩
def Opened22 (w:World) (e:Ending) (w':World):Prop :=
 ∃ A m kb mb,e = .returned (.tuple #[ptr A.M.mb,ptr A.vb,ptr kb,.bool true])∧KyL w' A m (xIdle none_) kb mb 1000000000∧w.heap.size≤kb∧w.heap.size≤mb∧(∀ k,A.S k→w.heap.size≤k)∧m.pending = false∧Mod Nowhere w w'∧A.cuts = 0
theorem st0:KySt (xIdle none_):=⟨KIt.none,KIt.none,⟨XF.none,fun _ h=>by simp [xIdle] at h,fun _=>rfl⟩⟩
theorem Zha {fn:Func} {t u v x:Tmp} (h:fn.results = #[.tmp t,.tmp u,.tmp v,.tmp x]) (tmps:Array Value) (P:Program) (w:World) :
  (results fn tmps).run P w = .ok (.tuple #[tmps.getD t undef,tmps.getD u undef,tmps.getD v undef,tmps.getD x undef]) w:=by
 simp [results,h]
theorem Zcp (w:World):Calls Tryz.prog 10 #[] w (Opened22 w):=by
 have hM:=Zg9 w;have hN:=fun W=>Zgo (w:=W) (n:=8192) (e:=1073741824) (by omega) (by omega) (by omega) (by omega);refine hid2 ?_ hM hN;clear hM hN;intro hM hN;go_enter Tryz.func10,Tryz.ntmps10;go_wp2_with fail;refine (hM.out).mono ?_;rintro e w1 ⟨rfl,hm1⟩;replace hm1:=Lib.hid hm1;go_wp2_with fail;refine (hN.out _).mono ?_;rintro e w2 hv;obtain ⟨A,m,rfl,hc,hAS,hpd,hxb,hco,hm2,hcu⟩:=hv.vl8;have hO:=Zci hc.rep (Nat.zero_le _) KIt.none;refine hid8 ?_ hO hc hAS hpd hxb hco hm2 hcu;clear hO hc hAS hpd hxb hco hm2 hcu;intro hO hc hAS hpd hxb hco hm2 hcu;clear hv;go_wp2_with fail;refine (hO.out).mono ?_
 rintro e w3 ⟨kb,mb,rfl,hk,h1,h2,hm3⟩;have hm:=(hm1.out.trans hm2.out).trans hm3;have hsz:=Nat.le_trans hm1.out.size hm2.out.size
 have hf:Opened22 w (.returned (.tuple #[ptr A.M.mb,ptr A.vb,ptr kb,.bool true])) w3 :=
  ⟨A.bar mb,m,kb,mb,rfl,⟨{ hc.out with rep:=hk.rep },hk,st0,hxb.out,hco.out⟩,Nat.le_trans hsz h1,Nat.le_trans hsz h2,fun k hk=>Nat.le_trans hm1.out.size (hAS.out k hk),hpd.out,hm,hcu.out⟩
 refine hid3 ?_ hk hm3 hf;clear hk hm3 hf;intro hk hm3 hf;go_wp2;refine bodyPost_ret (Zha rfl _ _ _) rfl ?_;exact hf.out
structure KyQ (w:World) (A:VAt) (s:VSt) (kb mb n:Nat):Prop where
 ex:∃ m,KyL w A m s kb mb n∧m.pending = false
section
variable {w w' : World} {A : VAt} {s s' : VSt} {kb mb n k : Nat}
theorem KyQ.fresh (h:KyQ w A s kb mb n) (hm:Mod Nowhere w w'):KyQ w' A s kb mb n:=by
 obtain ⟨m,h1,h2⟩:=h.ex;exact ⟨m,h1.fresh hm,h2⟩
theorem KyQ.less (h:KyQ w A s kb mb n) (hk:k≤n):KyQ w A s kb mb k:=by
 obtain ⟨m,h1,h2⟩:=h.ex;exact ⟨m,h1.less hk,h2⟩
theorem KyQ.st (h:KyQ w A s kb mb n):KySt s:=by
 obtain ⟨m,h1,h2⟩:=h.ex;exact h1.st
theorem KyQ.off (h:KyQ w A s kb mb n) {b:Nat} {cs:List Value} {T:TypeId} (hb:Blk w b cs T) (hT:T ≠ 146∧T ≠ 3∧T ≠ 119∧T ≠ 198) (hV:T ≠ 104) (hm:Mod (KS A mb) w w'):Blk w' b cs T:=by
 obtain ⟨m,h1,h2⟩:=h.ex;obtain ⟨n',f,hf⟩:=h1.ky.map;refine hb.mod hm (fun e=>?_);rcases e with e | e
 ·rw [e] at hb;exact Ze hf.map hb
 ·exact h1.ky.rep.noS hb hT hV e
theorem KyQ.shun (h:KyQ w A s kb mb n) {T:TypeId} (hT:T ≠ 146∧T ≠ 3∧T ≠ 119∧T ≠ 198) (hV:T ≠ 104):Shun (KS A mb) w T:=fun b e cs hb=>by
 obtain ⟨m,h1,h2⟩:=h.ex;obtain ⟨n',f,hf⟩:=h1.ky.map;rcases e with e | e
 ·rw [e] at hb;exact Ze hf.map hb
 ·exact h1.ky.rep.noS hb hT hV e
def QPost (w:World) (A:VAt) (s':VSt) (kb mb n:Nat) (ro:Value) (e:Ending) (w':World):Prop:=e = .returned ro∧KyQ w' A s' kb mb n∧Mod (KS A mb) w w'
theorem KyQ.call {F:FuncId} {args:Array Value} {ro rc:Value} (h:KyQ w A s kb mb (n + k)) (hs:KySt s') (hl:s'.l.length≤1000)
  (hc:∀ m,KyL w A m s kb mb (n + k)→∃ j,j≤k∧Calls Tryz.prog F args w (KCall w kb mb A m s s' j ro rc)):Calls Tryz.prog F args w (QPost w A s' kb mb n ro):=by
 obtain ⟨m,h1,h2⟩:=h.ex;obtain ⟨j,hj,hc⟩:=hc m h1;refine hc.mono fun e w' hr=>?_;obtain ⟨a,m',b,c,d⟩:=hr.sure (h1.less (Nat.add_le_add_left hj n)) hs hl h2;exact ⟨a,⟨m',b,c⟩,d⟩
theorem X3 {s:VSt} (h:KySt s) {x:RK} (bv:Bytes x.val):KySt (kPut s x).1∧(kPut s x).1.l.length≤s.l.length + 1:=by
 unfold kPut
 split
 ·rename_i hx
  exact ⟨(h.app (RK.okk hx bv).1).1,Zba _ _⟩
 ·exact ⟨h,Nat.le_succ _⟩
theorem X4 {s:VSt} (h:KySt s) (st kd:Int):KySt (kSpend s st kd).1∧(kSpend s st kd).1.l = s.l:=by
 unfold kSpend
 cases hf:kfind (kl (view s)) st kd with
 | none=>exact ⟨h,rfl⟩
 | some e =>
  dsimp only
  split
  ·exact ⟨h,rfl⟩
  ·exact h.now (Zp (kl_KL h.v) hf).2.1.less
theorem X5 {s:VSt} (h:KySt s) (st kd:Int):KySt (kRestore s st kd).1∧(kRestore s st kd).1.l = s.l:=by
 unfold kRestore
 cases hf:kfind (kl (view s)) st kd with
 | none=>exact ⟨h,rfl⟩
 | some e=>exact h.now (Zp (kl_KL h.v) hf).2.1.full
theorem Zhb {s:VSt} (st:Int):(kDel s st).1.l.length≤s.l.length:=by
 unfold kDel
 split
 ·exact Nat.le_refl _
 ·exact Nat.zero_le _
theorem KyQ.put (h:KyQ w A s kb mb (n + 511392)) (hl:s.l.length≤999) {x:RK} {v:Value} (hv:Src w v x.val) (bv:Bytes x.val) :
  Calls Tryz.prog 17 #[ptr kb,.agg #[.int .i64 x.set,.int .i64 x.kind,v,.int .i64 x.lim]] w (QPost w A (kPut s x).1 kb mb n (errno ((kPut s x).2:Nat))) :=
 h.call (X3 h.st bv).1 (by have:=(X3 h.st bv).2;omega) fun m h1=>⟨vcost A,h1.co,Zcb h1.ky h1.st h1.xb (by omega) hv bv (h1.room1 (by omega))⟩
theorem KyQ.spend (h:KyQ w A s kb mb (n + 511392)) (hl:s.l.length≤999) (st kd:Int) (hst:I64 st) (hkd:I64 kd) :
  Calls Tryz.prog 18 #[ptr kb,.int .i64 st,.int .i64 kd] w (QPost w A (kSpend s st kd).1 kb mb n (.tuple #[.int .i64 ((kSpend s st kd).2.1:Nat),errno ((kSpend s st kd).2.2:Nat)])) :=
 h.call (X4 h.st st kd).1 (by rw [(X4 h.st st kd).2];omega) fun m h1=>⟨vcost A,h1.co,Zcd h1.ky h1.st h1.xb st kd hst hkd (h1.room1 (by omega))⟩
theorem KyQ.restore (h:KyQ w A s kb mb (n + 511392)) (hl:s.l.length≤999) (st kd:Int) (hst:I64 st) (hkd:I64 kd) :
  Calls Tryz.prog 31 #[ptr kb,.int .i64 st,.int .i64 kd] w (QPost w A (kRestore s st kd).1 kb mb n (errno ((kRestore s st kd).2:Nat))) :=
 h.call (X5 h.st st kd).1 (by rw [(X5 h.st st kd).2];omega) fun m h1=>⟨vcost A,h1.co,Zce h1.ky h1.st h1.xb st kd hst hkd (h1.room1 (by omega))⟩
theorem KyQ.del (h:KyQ w A s kb mb (n + 4091136)) (hl:s.l.length≤999) (ha:s.act = false) (st:Int) (hst:I64 st) :
  Calls Tryz.prog 32 #[ptr kb,.int .i64 st] w (QPost w A (kDel s st).1 kb mb n (errno ((kDel s st).2:Nat))) :=
 h.call (Zcg h.st st) (by have:=Zhb (s:=s) st;omega) fun m h1=>⟨8 * vcost A,by have:=h1.co;omega,Zch h1.ky h1.st h1.xb ha st hst (h1.room (by omega))⟩
theorem Zcq {s:VSt} (h:KySt s) (ha:s.act = false):KySt (⟨s.f,true,[]⟩:VSt):=⟨h.f,h.f,⟨h.x.f,fun r hr=>by simp at hr,fun _=>rfl⟩⟩
theorem Zcr {s:VSt} (h:KySt s):KySt (xIdle s.f):=⟨h.f,h.f,⟨h.x.f,fun r hr=>by simp [xIdle] at hr,fun _=>rfl⟩⟩
theorem KyQ.begin (h:KyQ w A s kb mb n) (ha:s.act = false):Calls Tryz.prog 16 #[ptr A.vb] w (QPost w A ⟨s.f,true,[]⟩ kb mb n (errno 0)):=by
 refine KyQ.call (k:=0) h (Zcq h.st ha) (Nat.zero_le _) (rc:=errno 7) fun m h1=>⟨0,Nat.le_refl _,?_⟩;have h2:=ZbZ h1.ky.rep;rw [Za9,if_neg (by rw [ha];decide)] at h2;exact h2.mono fun e w' hc=>hc.k (Mod.refl _ _) h1.ky (Zcq h.st ha).v (Nat.zero_le _)
theorem KyQ.abort (h:KyQ w A s kb mb n) (ha:s.act = true):Calls Tryz.prog 20 #[ptr A.vb] w (QPost w A (xIdle s.f) kb mb n (errno 0)):=by
 refine KyQ.call (k:=0) h (Zcr h.st) (Nat.zero_le _) (rc:=errno 7) fun m h1=>⟨0,Nat.le_refl _,?_⟩;have h2:=Zgy h1.ky.rep;rw [Zfd,if_pos ha] at h2;exact h2.mono fun e w' hc=>hc.k (Mod.refl _ _) h1.ky (Zcr h.st).v (Nat.zero_le _)
theorem KyQ.info (h:KyQ w A s kb mb n) (st:Int) (hst:I64 st):Calls Tryz.prog 23 #[ptr kb,.int .i64 st] w fun e w'=>∃ v xs,e = .returned v∧ISl w' v xs∧xs.map (·.2) = pInfo (kl (view s)) st∧KyQ w' A s kb mb n∧Mod (OneB mb) w w':=by
 obtain ⟨m,h1,h2⟩:=h.ex;exact (Zca h1.ky st hst).mono fun e w' ⟨v,xs,a,b,c,d,f⟩=>⟨v,xs,a,b,c,⟨m,h1.only d,h2⟩,f⟩
theorem KyQ.sets (h:KyQ w A s kb mb n):Calls Tryz.prog 22 #[ptr kb] w fun e w'=>∃ v,e = .returned v∧Sl w' v 3 1 (pSets (kl (view s))).length (ints (pSets (kl (view s))))∧(∀ k,v.ownBlock = some k→w.heap.size≤k)∧KyQ w' A s kb mb n∧Mod (OneB mb) w w':=by
 obtain ⟨m,h1,h2⟩:=h.ex;exact (Zb6 h1.ky).mono fun e w' ⟨v,a,b,c,d,f⟩=>⟨v,a,b,c,⟨m,h1.only d,h2⟩,f⟩
end
namespace Ky
def z16:List Nat:=[0,0,0,0,0,0,0,0,0,0,0,0,0,0,0,0]
def xk:RK:=⟨1,2,2,z16⟩
def eK (t:Nat):KEn:=⟨1,2,2,t,z16⟩
theorem eK_ok {t:Nat} (h:t≤2):KOk (eK t):=⟨(show 1≤1 by decide),(show 1≤8 by decide),(show 1≤2 by decide),(show 2≤6 by decide),(show 1≤2 by decide),(show 2≤15 by decide),h,rfl,Zm.2 (show ∀ x ∈ z16,x < 256 by decide)⟩
def exF (t:Nat):Items:=set1 none_ (64 + pl (eK t),some (kB (eK t)))
theorem Zhc:kl none_ = []:=by
 unfold kl kAt none_;simp
theorem kl_ex {t:Nat} (h:t≤2):kl (exF t) = [eK t]:=by
 unfold exF;rw [YU KIt.none (eK_ok h),Zhc]
 rfl
theorem Zhd (f:Items) (k:Nat) (a b:Option (List Nat)):set1 (set1 f (k,a)) (k,b) = set1 f (k,b):=by
 funext i
 unfold set1;dsimp only;by_cases e:i = k
 ·rw [if_pos e,if_pos e]
 ·rw [if_neg e,if_neg e,if_neg e]
theorem ex_ex (t u:Nat):set1 (exF t) (64 + pl (eK u),some (kB (eK u))) = exF u:=Zhd _ _ _ _
def pS (t:Nat) (a:Bool):VSt:=⟨exF t,a,[]⟩
def qS (t:Nat):VSt:=⟨exF t,true,[(64 + pl (eK 2),some (kB (eK 2)))]⟩
theorem Y9 (t:Nat) (a:Bool):view (pS t a) = exF t:=rfl
theorem Zhe (t:Nat):view (qS t) = exF 2:=ex_ex t 2
theorem p_put:kPut (xIdle none_) xk = (pS 2 false,0):=by
 unfold kPut;rw [if_pos (by decide)]
 rfl
theorem X6 {t:Nat} (h:t≤2) (a:Bool):kfind (kl (view (pS t a))) 1 2 = some (eK t):=by
 rw [Y9,kl_ex h]
 rfl
theorem p_now {t:Nat} (a:Bool) (u:Nat):kNow (pS t a) (eK u) = (pS u a,0):=by
 unfold kNow;rw [if_neg (by unfold pS;simp)];unfold pS;rw [ex_ex]
theorem X7 {t:Nat} (h:t≤1) (a:Bool):kSpend (pS (t + 1) a) 1 2 = (pS t a,t,0):=by
 unfold kSpend;rw [X6 (by omega)];dsimp only;rw [if_neg (by show ¬ t + 1 = 0;omega),show (eK (t + 1)).less = eK t from rfl,p_now,if_pos rfl]
 rfl
theorem Zhf (a:Bool):kSpend (pS 0 a) 1 2 = (pS 0 a,0,18):=by
 unfold kSpend;rw [X6 (by omega)]
 rfl
theorem Zhg:kRestore (pS 0 false) 1 2 = (pS 2 false,0):=by
 unfold kRestore;rw [X6 (by omega)];dsimp only;rw [show (eK 0).full = eK 2 from rfl,p_now]
theorem q_put (t:Nat):kPut (pS t true) xk = (qS t,0):=by
 unfold kPut;rw [if_pos (by decide)]
 rfl
theorem Zhh (t:Nat):kSpend (qS t) 1 2 = (qS t,0,14):=by
 unfold kSpend
 have:kfind (kl (view (qS t))) 1 2 = some (eK 2):=by
  rw [Zhe,kl_ex (by omega)]
  rfl
 rw [this];dsimp only
 have hn:kNow (qS t) (eK 1) = (qS t,14):=by
  unfold kNow;rw [if_pos (by unfold qS;simp [pl,eK])]
 rw [if_neg (by show ¬ 2 = 0;omega),show (eK 2).less = eK 1 from rfl,hn,if_neg (show ¬ 14 = 0 by decide)]
theorem Zhi {t:Nat} (h:t≤2) (a:Bool):pInfo (kl (view (pS t a))) 1 = [eK t]:=by
 rw [Y9,kl_ex h]
 rfl
theorem Zhj {t:Nat} (h:t≤2) (a:Bool):pSets (kl (view (pS t a))) = [1]:=by
 rw [Y9,kl_ex h]
 rfl
theorem p_del {t:Nat} (h:t≤2):kDel (pS t false) 3 = (pS t false,12):=by
 unfold kDel;rw [Y9,kl_ex h]
 rfl
end Ky
theorem made16 (W:World):(Instr.makeSlice 37 (.int .i64 16) (.int .i64 16)).run Tryz.prog W = .ok (.slice (some ⟨W.heap.size,0,none⟩) 16 16) (W.alloc (.cells (u8s z16).toArray 5)):=by
 have:=Zy (P:=Tryz.prog) 37 5 (.int .u8 0) 1 Tryz.underlying37 Zc rfl 16 (by omega) (by omega) W;simpa [List.replicate,u8s,z16] using this
structure EX (w W:World) (A:VAt) (s:VSt) (kb mb n xb zb:Nat):Prop where
 q:KyQ W A s kb mb n
 b:Blk W xb [.int .i64 1,.int .i64 2,.slice (some ⟨zb,0,none⟩) 16 16,.int .i64 2] 39
 z:DSl W (.slice (some ⟨zb,0,none⟩) 16 16) z16
 m:Mod Nowhere w W
 hs:∀ k,KS A mb k→w.heap.size≤k
section
variable {w W W' : World} {A : VAt} {s s' : VSt} {kb mb n n' xb zb : Nat} {ro : Value} {e : Ending}
theorem EX.next (h:EX w W A s kb mb n xb zb) (hp:QPost W A s' kb mb n' ro e W'):e = .returned ro∧EX w W' A s' kb mb n' xb zb :=
 ⟨hp.1,hp.2.1,h.q.off h.b (by decide) (by decide) hp.2.2,DSl.mod h.z hp.2.2 (h.q.shun (by decide) (by decide)),h.m.step hp.2.2 (fun i hi e=>by have:=h.hs i e;omega),h.hs⟩
theorem EX.look (h:EX w W A s kb mb n xb zb) (hq:KyQ W' A s' kb mb n') (hm:Mod (OneB mb) W W'):EX w W' A s' kb mb n' xb zb :=
 (h.next (ro:=.bool true) ⟨rfl,hq,hm.mono fun _ _ e=>.inl e⟩).2
theorem EX.put (h:EX w W A s kb mb (n + 511392) xb zb) (hl:s.l.length≤999) {er:Nat} (hp:kPut s xk = (s',er)) :
  Calls Tryz.prog 17 #[ptr kb,.agg #[.int .i64 1,.int .i64 2,.slice (some ⟨zb,0,none⟩) 16 16,.int .i64 2]] W fun e w'=>e = .returned (errno er)∧EX w w' A s' kb mb n xb zb:=by
 have:=h.q.put (x:=xk) hl h.z.src (Zm.2 (by decide));rw [hp] at this;exact this.mono fun e w' hq=>h.next hq
theorem EX.spend (h:EX w W A s kb mb (n + 511392) xb zb) (hl:s.l.length≤999) {k er:Nat} (hp:kSpend s 1 2 = (s',k,er)) :
  Calls Tryz.prog 18 #[ptr kb,.int .i64 1,.int .i64 2] W fun e w'=>e = .returned (.tuple #[.int .i64 (k:Nat),errno (er:Nat)])∧EX w w' A s' kb mb n xb zb:=by
 have:=h.q.spend hl 1 2 (by unfold I64;omega) (by unfold I64;omega);rw [hp] at this;exact this.mono fun e w' hq=>h.next hq
theorem EX.restore (h:EX w W A s kb mb (n + 511392) xb zb) (hl:s.l.length≤999) {er:Nat} (hp:kRestore s 1 2 = (s',er)) :
  Calls Tryz.prog 31 #[ptr kb,.int .i64 1,.int .i64 2] W fun e w'=>e = .returned (errno (er:Nat))∧EX w w' A s' kb mb n xb zb:=by
 have:=h.q.restore hl 1 2 (by unfold I64;omega) (by unfold I64;omega);rw [hp] at this;exact this.mono fun e w' hq=>h.next hq
theorem EX.less (h:EX w W A s kb mb n xb zb) (hn:n'≤n):EX w W A s kb mb n' xb zb:={ h with q:=h.q.less hn }
theorem EX.c (h:EX w W A s kb mb n xb zb):W.cell? ⟨xb,0,none⟩ = some (.int .i64 1)∧W.cell? ⟨xb,1,none⟩ = some (.int .i64 2)∧W.cell? ⟨xb,2,none⟩ = some (.slice (some ⟨zb,0,none⟩) 16 16)∧W.cell? ⟨xb,3,none⟩ = some (.int .i64 2)∧xb < W.heap.size:=⟨h.b.cell 0,h.b.cell 1,h.b.cell 2,h.b.cell 3,h.b.lt⟩
end
theorem X8 {w:World} {v:Value} {l:List Nat} (h:Sl w v 3 1 l.length (ints l)):InRow w v (l.map fun k:Nat=>(k:Int)):=by
 obtain ⟨a,cap,rfl,h1,h2,h3⟩:=h.gen;refine ⟨a,cap,by rw [List.length_map],by rw [List.length_map];exact h1,h2,fun h0=>?_⟩;rw [List.length_map] at h0;obtain ⟨b,off,rfl,hb,hc,-⟩:=h3 h0;refine ⟨b,off,rfl,hb,fun i hi=>?_⟩;rw [List.length_map] at hi;rw [hc i (by omega)]
 congr 1
 unfold ints;rw [gd0,gd0,List.getElem?_map,List.getElem?_map,List.getElem?_eq_getElem hi]
 rfl
theorem Zcs (w:World):Calls Tryz.prog 9 #[] w fun e w'=>e = .returned (.bool true)∧Mod Nowhere w w':=by
 have hO:=Zcp w;replace hO:=Lib.hid hO;go_enter Tryz.func9,Tryz.ntmps9;go_wp2_with fail;refine (hO.out).mono ?_;rintro e w1 ⟨A,m,kb,mb,rfl,hk,hkb,hmb,hAS,hp,hm1,hcu⟩;have hQ1:KyQ w1 A (xIdle none_) kb mb 1000000000:=⟨m,hk,hp⟩
 have hS:∀ k,KS A mb k→w.heap.size≤k:=fun k e=>by
  rcases e with e | e
  ·rw [e];exact hmb
  ·exact hAS k e
 have hmk:=made16 w1
 have hz:∀ W,Mod Nowhere (w1.alloc (.cells (u8s z16).toArray 5)) W→DSl W (.slice (some ⟨w1.heap.size,0,none⟩) 16 16) z16:=fun W hm =>
  DSl.fresh (ZZ (sz:=1) (n:=16) (Blk.new w1 (u8s z16) 5) rfl (by decide):DSl _ _ z16) hm
 have hmz:Mod Nowhere w1 (w1.alloc (.cells (u8s z16).toArray 5)):=(Mod.refl _ w1).alloc _;generalize (u8s z16).toArray = zc at *;have hA2:Mod Nowhere (w1.alloc (.cells zc 5)) ((w1.alloc (.cells zc 5)).alloc (.cells #[.int .i64 1,.int .i64 2,.slice (some ⟨w1.heap.size,0,none⟩) 16 16,.int .i64 2] 39)):=(Mod.refl _ _).alloc _
 have hB2:Blk ((w1.alloc (.cells zc 5)).alloc (.cells #[.int .i64 1,.int .i64 2,.slice (some ⟨w1.heap.size,0,none⟩) 16 16,.int .i64 2] 39)) (w1.heap.size + 1) [.int .i64 1,.int .i64 2,.slice (some ⟨w1.heap.size,0,none⟩) 16 16,.int .i64 2] 39:=by
  have:=Blk.new (w1.alloc (.cells zc 5)) [.int .i64 1,.int .i64 2,.slice (some ⟨w1.heap.size,0,none⟩) 16 16,.int .i64 2] 39;simpa using this
 have hz2:=hz _ hA2;have hE2:EX w _ A (xIdle none_) kb mb (90000000 + 511392) (w1.heap.size + 1) w1.heap.size:=⟨(hQ1.fresh (hmz.trans hA2)).less (by decide),hB2,hz2,hm1.trans (hmz.trans hA2),hS⟩;have x0:=hB2.cell 0;have x1:=hB2.cell 1;have x2:=hB2.cell 2;have x3:=hB2.cell 3;have xl:=hB2.lt;simp only [gz0,gs0] at x0 x1 x2 x3;clear hz hk hp hAS hmz hQ1 hA2 hB2 hz2;refine hid6 ?_ hE2 hS hm1 hkb hmb hcu;clear hE2 hS hm1 hkb hmb hcu;intro hE2 hS hm1 hkb hmb hcu;go_wp2_with fail;refine (hE2.out.put (Nat.zero_le _) p_put).mono ?_;rintro e w3 ⟨rfl,hE3⟩;clear x0 x1 x2 x3 xl hmk
 generalize w1.heap.size = zb at *;replace hE3:=Lib.hid hE3;go_wp2_with fail;refine ((hE3.out.less (n':=80000000 + 511392) (by decide)).spend (Nat.zero_le _) (X7 (t:=1) (by decide) false)).mono ?_;rintro e w4 ⟨rfl,hE4⟩;replace hE4:=Lib.hid hE4;go_wp2_with fail;refine ((hE4.out.less (n':=70000000 + 511392) (by decide)).spend (Nat.zero_le _) (X7 (t:=0) (by decide) false)).mono ?_;rintro e w5 ⟨rfl,hE5⟩;replace hE5:=Lib.hid hE5;go_wp2_with fail;refine ((hE5.out.less (n':=60000000 + 511392) (by decide)).spend (Nat.zero_le _) (Zhf false)).mono ?_;rintro e w6 ⟨rfl,hE6⟩;replace hE6:=Lib.hid hE6
 go_wp2_with fail;refine ((hE6.out.less (n':=51000000 + 511392) (by decide)).restore (Nat.zero_le _) Zhg).mono ?_;rintro e w7 ⟨rfl,hE7⟩;replace hE7:=Lib.hid hE7;go_wp2_with fail;refine (hE7.out.q.begin rfl).mono ?_;rintro e w8 hq8;obtain ⟨rfl,hE8⟩:=hE7.out.next hq8;clear hq8;replace hE8:EX w w8 A (pS 2 true) kb mb 51000000 (zb + 1) zb:=hE8;replace hE8:=Lib.hid hE8;go_wp2_with fail;refine ((hE8.out.less (n':=40000000 + 511392) (by decide)).spend (Nat.zero_le _) (X7 (t:=1) (by decide) true)).mono ?_;rintro e w9 ⟨rfl,hE9⟩;obtain ⟨x0,x1,x2,x3,xl⟩:=hE9.c;replace hE9:=Lib.hid hE9
 go_wp2_with fail;refine ((hE9.out.less (n':=30000000 + 511392) (by decide)).put (Nat.zero_le _) (q_put 1)).mono ?_;rintro e w10 ⟨rfl,hE10⟩;clear x0 x1 x2 x3 xl;replace hE10:=Lib.hid hE10;go_wp2_with fail;refine ((hE10.out.less (n':=20000000 + 511392) (by decide)).spend (by show 1≤999;decide) (Zhh 1)).mono ?_;rintro e w11 ⟨rfl,hE11⟩;replace hE11:=Lib.hid hE11;go_wp2_with fail;refine (hE11.out.q.abort rfl).mono ?_;rintro e w12 hq12;obtain ⟨rfl,hE12⟩:=hE11.out.next hq12;clear hq12;replace hE12:EX w w12 A (pS 1 false) kb mb 20000000 (zb + 1) zb:=hE12;replace hE12:=Lib.hid hE12
 go_wp2_with fail;refine (hE12.out.q.info 1 (by unfold I64;omega)).mono ?_;rintro e w13 ⟨iv,xs,rfl,hsl,hx,hq13,hm13⟩;have hE13:=(hE12.out.look hq13 hm13).less (n':=0 + 4091136) (by decide);rw [Zhi (by decide)] at hx
 obtain ⟨⟨cv,ce⟩,rfl⟩:∃ x,xs = [x]:=by
  cases xs with
  | nil=>simp at hx
  | cons x xs =>
   cases xs with
   | nil=>exact ⟨x,rfl⟩
   | cons y ys=>simp at hx
 obtain rfl:ce = eK 1:=by simpa using hx
 obtain ⟨b,off,cap,rfl,hb,hc1,hc2,hc,-⟩:=hsl.sl.open (by show 0 < 1;decide);have y2:=hc 2 (by show 2 < 1 * 4;decide);have y2':w13.cell? ⟨b,off + 2,none⟩ = some (.int .i64 1):=y2;unfold maxLen at hc2;rw [show ([(cv,eK 1)]:List IxV).length = 1 from rfl] at hc1 ⊢;have hDe:=hE13.q.del (Nat.zero_le _) rfl 3 (by unfold I64;omega);rw [p_del (by decide)] at hDe;clear hsl hx hc y2 hq13 hm13;refine hid2 ?_ hE13 hDe;clear hE13 hDe;intro hE13 hDe;go_wp2_with fail;refine (hDe.out).mono ?_;rintro e w14 hq14;obtain ⟨rfl,hE14⟩:=hE13.out.next hq14;clear hq14;replace hE14:EX w w14 A (pS 1 false) kb mb 0 (zb + 1) zb:=hE14;replace hE14:=Lib.hid hE14
 go_wp2_with fail;refine (hE14.out.q.sets).mono ?_;rintro e w15 ⟨sv,rfl,hss,-,hq15,hm15⟩;have hE15:=hE14.out.look hq15 hm15;rw [Zhj (by decide)] at hss;have hm16:Mod Nowhere w15 (w15.alloc (.cells #[.int .i64 1] 3)):=(Mod.refl _ w15).alloc _;have hs1:=(X8 hss).fresh hm16
 have hs2:InRow (w15.alloc (.cells #[.int .i64 1] 3)) (.slice (some ⟨w15.heap.size,0,none⟩) 1 1) [1] :=
  ⟨some ⟨w15.heap.size,0,none⟩,1,rfl,Nat.le_refl _,by decide,fun _=>⟨w15.heap.size,0,rfl,by simp,fun i hi=>by
   have hi:i < 1:=hi;obtain rfl:i = 0:=by omega
   exact (Blk.new w15 [.int .i64 1] 3).cell 0⟩⟩
 have hI:=Zco hs1 hs2 (by decide) (by decide);rw [decide_eq_true (by rfl)] at hI;obtain ⟨sa,sc,rfl,-⟩:=Sl.len hss;rw [show ([1]:List Nat).length = 1 from rfl] at hI ⊢;have hmF:=hE15.m.trans hm16;clear hs1 hs2 hm15 hq15 hm16 hss y2';refine hid3 ?_ hE15 hI hmF;clear hE15 hI hmF;intro hE15 hI hmF;go_wp2_with fail;refine (hI.out).mono ?_;rintro e w17 ⟨rfl,hm17⟩;have hf:=hmF.out.trans hm17;refine hid2 ?_ hf hm17;clear hf hm17;intro hf hm17;go_wp2;go_ret;exact ⟨rfl,hf.out⟩
end Go.Proofs.YtoehlaeaafalmaaGreat
