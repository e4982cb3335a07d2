/-
  Requests of content management in plain numbers: when they are valid, and their bytes.
-/
import Derived.Test.YtanioleniadhoaaGreatAK2
import Derived.Test.YtanioleniadhoaaGreatAK9
set_option linter.unusedVariables false
set_option linter.unusedSimpArgs false
set_option maxHeartbeats 1000000
set_option maxRecDepth 100000
namespace Go.Proofs.YtanioleniadhoaaGreat
namespace Tk
structure Rq where
 act:Int
 dom:List Nat
 pac:List Nat
 app:List Nat
 dst:List Nat
 prv:Int
 par:List Nat
 hsh:List Nat
def nm (n how:Nat):Bool:=if n = 0 then how != 2 else how != 0 && decide (5≤n∧n≤16)
def nms (act:Int):Nat × Nat × Nat:=if act = 1 then (2,0,2) else if act = 2 then (1,2,0) else if act = 3 then (0,2,2) else (0,2,0)
def chkN (act prv:Int) (nd np na nt npar nh:Nat):Nat :=
 if act < 1 ∨ 4 < act then 1 else
 if (nm nd 2 && nm np (nms act).1 && nm na (nms act).2.1 && nm nt (nms act).2.2) = false then 4 else
 if prv < 0 ∨ 31 < prv then 2 else
 if prv ≠ 0∧act ≠ 2 then 4 else
 if 255 < npar then 3 else
 if 0 < npar∧act ≠ 1∧act ≠ 2 then 4 else
 if 0 < nh∧(nh ≠ 16 ∨ act ≠ 1) then 4 else 0
def Rq.chk (r:Rq):Nat:=chkN r.act r.prv r.dom.length r.pac.length r.app.length r.dst.length r.par.length r.hsh.length
structure Rq.Ok (r:Rq):Prop where
 a1:1≤r.act
 a4:r.act≤4
 p0:0≤r.prv
 p31:r.prv≤31
 nd:5≤r.dom.length∧r.dom.length≤16
 np:r.pac.length≤16
 na:r.app.length≤16
 nt:r.dst.length≤16
 npar:r.par.length≤255
 nh:r.hsh.length≤16
theorem nm_le {n how:Nat} (h:nm n how = true):n≤16:=by
 unfold nm at h
 split at h
 ·omega
 ·rw [Bool.and_eq_true,decide_eq_true_eq] at h;exact h.2.2
theorem Rq.chk_ok {r:Rq} (h:r.chk = 0):r.Ok:=by
 unfold Rq.chk chkN at h
 split at h
 ·cases h
 rename_i h1
 split at h
 ·cases h
 rename_i h2
 split at h
 ·cases h
 rename_i h3
 split at h
 ·cases h
 split at h
 ·cases h
 rename_i h5
 split at h
 ·cases h
 split at h
 ·cases h
 rename_i h7
 rw [Bool.not_eq_false,Bool.and_eq_true,Bool.and_eq_true,Bool.and_eq_true] at h2;obtain ⟨⟨⟨b1,b2⟩,b3⟩,b4⟩:=h2
 have hd:5≤r.dom.length:=by
  unfold nm at b1
  split at b1
  ·cases b1
  ·rw [Bool.and_eq_true,decide_eq_true_eq] at b1;exact b1.2.1
 have:=nm_le b1
 exact ⟨by omega,by omega,by omega,by omega,⟨hd,nm_le b1⟩,nm_le b2,nm_le b3,nm_le b4,by omega,by
  by_cases q:0 < r.hsh.length
  ·have:¬ (r.hsh.length ≠ 16 ∨ r.act ≠ 1):=fun e=>h7 ⟨q,e⟩;omega
  ·omega⟩
def lenB (n:Nat):List Nat:=if n < 128 then [n] else if n < 256 then [129,n] else [130,n / 256,n % 256]
def encO (x:Nat × List Nat):List Nat:=x.1 :: (lenB x.2.length ++ x.2)
def encL (l:List (Nat × List Nat)):List Nat:=l.flatMap encO
def objsF:Nat→List (List Nat)→List (Nat × List Nat)
 | _,[]=>[]
 | t,v :: r=>if v = [] then objsF (t + 1) r else (t,v) :: objsF (t + 1) r
def Rq.vals (r:Rq):List (List Nat):=[[r.act.toNat],r.dom,r.pac,r.app,r.dst,if r.prv = 0 then [] else [r.prv.toNat],r.par,r.hsh]
def Rq.objs (r:Rq):List (Nat × List Nat):=objsF 128 r.vals
def Rq.enc (r:Rq):List Nat:=encL r.objs
theorem lenB_cases (n:Nat):(n < 128∧lenB n = [n]) ∨ (128≤n∧n < 256∧lenB n = [129,n]) ∨ (256≤n∧lenB n = [130,n / 256,n % 256]):=by
 unfold lenB;by_cases h:n < 128
 ·exact .inl ⟨h,if_pos h⟩
 ·rw [if_neg h];by_cases h2:n < 256
  ·exact .inr (.inl ⟨by omega,h2,if_pos h2⟩)
  ·exact .inr (.inr ⟨by omega,if_neg h2⟩)
theorem lenB_inj {n m:Nat} (hn:n < 65536) (hm:m < 65536) {s t:List Nat} (h:lenB n ++ s = lenB m ++ t):n = m∧s = t:=by
 rcases lenB_cases n with ⟨a,e⟩ | ⟨a,b,e⟩ | ⟨a,e⟩ <;> rcases lenB_cases m with ⟨c,f⟩ | ⟨c,d,f⟩ | ⟨c,f⟩ <;> rw [e,f] at h <;> simp only [List.cons_append,List.nil_append,List.cons.injEq] at h
 ·exact ⟨h.1,h.2⟩
 ·omega
 ·omega
 ·omega
 ·exact ⟨h.2.1,h.2.2⟩
 ·omega
 ·omega
 ·omega
 ·exact ⟨by omega,h.2.2.2⟩
theorem encO_inj {x y:Nat × List Nat} {s t:List Nat} (hx:x.2.length < 65536) (hy:y.2.length < 65536) (h:encO x ++ s = encO y ++ t):x = y∧s = t:=by
 unfold encO at h;rw [List.cons_append,List.cons_append,List.cons.injEq,List.append_assoc,List.append_assoc] at h;obtain ⟨h1,h2⟩:=h;obtain ⟨h3,h4⟩:=lenB_inj hx hy h2;obtain ⟨h5,h6⟩:=List.append_inj h4 h3;exact ⟨Prod.ext h1 h5,h6⟩
theorem encL_inj:∀ {l m:List (Nat × List Nat)},(∀ x ∈ l,x.2.length < 65536)→(∀ x ∈ m,x.2.length < 65536)→encL l = encL m→l = m
 | [],[],_,_,_=>rfl
 | [],y :: m,_,_,h=>by unfold encL encO at h;simp at h
 | x :: l,[],_,_,h=>by unfold encL encO at h;simp at h
 | x :: l,y :: m,hl,hm,h=>by
  have h:encO x ++ encL l = encO y ++ encL m:=h;obtain ⟨h1,h2⟩:=encO_inj (hl x (List.mem_cons_self ..)) (hm y (List.mem_cons_self ..)) h;rw [h1,encL_inj (fun z hz=>hl z (List.mem_cons_of_mem _ hz)) (fun z hz=>hm z (List.mem_cons_of_mem _ hz)) h2]
theorem objsF_ge:∀ (t:Nat) (l:List (List Nat)),∀ x ∈ objsF t l,t≤x.1∧x.2 ∈ l
 | _,[]=>fun x hx=>by cases hx
 | t,v :: r=>fun x hx=>by
  unfold objsF at hx
  split at hx
  ·obtain ⟨a,b⟩:=objsF_ge (t + 1) r x hx;exact ⟨by omega,List.mem_cons_of_mem _ b⟩
  ·rcases List.mem_cons.1 hx with rfl | hx
   ·exact ⟨Nat.le_refl _,List.mem_cons_self ..⟩
   ·obtain ⟨a,b⟩:=objsF_ge (t + 1) r x hx;exact ⟨by omega,List.mem_cons_of_mem _ b⟩
theorem objsF_inj:∀ (t:Nat) {l m:List (List Nat)},l.length = m.length→objsF t l = objsF t m→l = m
 | _,[],[],_,_=>rfl
 | _,[],_ :: _,h,_=>by simp at h
 | _,_ :: _,[],h,_=>by simp at h
 | t,v :: l,u :: m,hl,h=>by
  have hl:l.length = m.length:=by simpa using hl
  unfold objsF at h
  split at h <;> split at h
  ·rename_i a b
   rw [a,b,objsF_inj (t + 1) hl h]
  ·exfalso
   have:=(objsF_ge (t + 1) l (t,u) (by rw [h];exact List.mem_cons_self ..)).1;simp only at this;omega
  ·exfalso
   have:=(objsF_ge (t + 1) m (t,v) (by rw [← h];exact List.mem_cons_self ..)).1;simp only at this;omega
  ·rw [List.cons.injEq,Prod.mk.injEq] at h;rw [h.1.2,objsF_inj (t + 1) hl h.2]
theorem Rq.enc_inj {a b:Rq} (ha:a.Ok) (hb:b.Ok) (h:a.enc = b.enc):a = b:=by
 have hs:∀ {r:Rq},r.Ok→∀ x ∈ r.objs,x.2.length < 65536:=fun {r} hr x hx=>by
  have:=(objsF_ge _ _ x hx).2;obtain ⟨-,-,-,-,⟨-,g1⟩,g2,g3,g4,g5,g6⟩:=hr;unfold Rq.vals at this;simp only [List.mem_cons,List.not_mem_nil,or_false] at this;rcases this with e | e | e | e | e | e | e | e
  ·rw [e];simp
  ·rw [e];omega
  ·rw [e];omega
  ·rw [e];omega
  ·rw [e];omega
  ·rw [e];split <;> simp
  ·rw [e];omega
  ·rw [e];omega
 have h1:=objsF_inj 128 (show a.vals.length = b.vals.length from rfl) (encL_inj (hs ha) (hs hb) h);unfold Rq.vals at h1;simp only [List.cons.injEq,and_true] at h1;obtain ⟨e1,e2,e3,e4,e5,e6,e7,e8⟩:=h1;obtain ⟨aa,ad,ap,aq,at_,av,ar,ah⟩:=a;obtain ⟨ba,bd,bp,bq,bt,bv,br,bh⟩:=b;obtain ⟨g1,g2,g3,g4,-⟩:=ha;obtain ⟨k1,k2,k3,k4,-⟩:=hb;dsimp only at *;subst e2 e3 e4 e5 e7 e8;have e9:aa = ba:=by omega
 have e10:av = bv:=by
  split at e6 <;> split at e6
  ·omega
  ·cases e6
  ·cases e6
  ·simp only [List.cons.injEq,and_true] at e6;omega
 rw [e9,e10]
theorem lenB_le (n:Nat):(lenB n).length≤3:=by
 unfold lenB
 split
 ·simp
 split
 ·simp
 ·simp
theorem encL_len:∀ (l:List (Nat × List Nat)) (B:Nat),(∀ x ∈ l,x.2.length≤B)→(encL l).length≤l.length * (4 + B)
 | [],B,_=>by simp [encL]
 | x :: l,B,h=>by
  have ih:=encL_len l B fun z hz=>h z (List.mem_cons_of_mem _ hz);have h1:=h x (List.mem_cons_self ..);have h2:=lenB_le x.2.length
  show (encO x ++ encL l).length≤_
  rw [List.length_append,List.length_cons,Nat.add_mul,Nat.one_mul]
  have h3:(encO x).length≤4 + B:=by
   unfold encO;rw [List.length_cons,List.length_append];omega
  omega
theorem objsF_len:∀ (t:Nat) (l:List (List Nat)),(objsF t l).length≤l.length
 | _,[]=>Nat.le_refl _
 | t,v :: r=>by
  have:=objsF_len (t + 1) r;unfold objsF
  split
  ·rw [List.length_cons];omega
  ·rw [List.length_cons,List.length_cons];omega
end Tk
end Go.Proofs.YtanioleniadhoaaGreat
namespace Go.Proofs.YtanioleniadhoaaGreat
open Go.RowKit
open Tk
attribute [local go_sem] Oper.semAt_some
namespace Tk
def fitB (p:Nat) (t:Bool):Bool:=decide (p = 1) || (t == decide (p = 2))
def idB (n:Nat):Bool:=decide (5≤n) && decide (n≤16)
def fPk (a:Int):Nat:=if a = 1 then 2 else if a = 2 then 1 else 0
def fAp (a:Int):Nat:=if a = 1 then 0 else 2
def fTo (a:Int):Nat:=if a = 1 then 2 else if a = 3 then 2 else 0
def fPr (a:Int):Nat:=if a = 2 then 1 else 0
def fPa (a:Int):Nat:=if a = 1 then 1 else if a = 2 then 1 else 0
def fHa (a:Int):Nat:=if a = 1 then 1 else 0
theorem nm_fit {n how:Nat} (h:how≤2):nm n how = (fitB how (decide (0 < n)) && (decide (n = 0) || idB n)):=by
 unfold nm fitB idB;by_cases h0:n = 0
 ·subst h0;rcases (show how = 0 ∨ how = 1 ∨ how = 2 by omega) with rfl | rfl | rfl <;> rfl
 ·rw [if_neg h0,decide_eq_true (show 0 < n by omega),decide_eq_false h0,Bool.false_or,Bool.decide_and];rcases (show how = 0 ∨ how = 1 ∨ how = 2 by omega) with rfl | rfl | rfl <;> rfl
theorem nm_id (n:Nat):nm n 2 = idB n:=by
 unfold nm idB;by_cases h0:n = 0
 ·subst h0;rfl
 ·rw [if_neg h0,Bool.decide_and];rfl
def chkF (b1 b2 b3 b4 p1 p2 g1 l1 g2 h1 g3:Bool):Nat :=
 if b1 = false then 4 else if b2 = false then 4 else if b3 = false then 4 else if b4 = false then 4 else
 if p1 = true then 2 else if p2 = true then 2 else if g1 = false then 4 else if l1 = true then 3 else if g2 = false then 4 else if h1 = true then 4 else if g3 = false then 4 else 0
theorem chk_F {act:Int} (h1:1≤act) (h4:act≤4) (prv:Int) (nd np na nt npar nh:Nat):chkN act prv nd np na nt npar nh =
  chkF (idB nd) (nm np (fPk act)) (nm na (fAp act)) (nm nt (fTo act)) (decide (prv < 0)) (decide (31 < prv)) (fitB (fPr act) (!decide (prv = 0))) (decide (255 < npar)) (fitB (fPa act) (decide (0 < npar))) (!decide (nh = 0) && !decide (nh = 16)) (fitB (fHa act) (decide (0 < nh))):=by
 unfold chkN chkF;rw [if_neg (show ¬ (act < 1 ∨ 4 < act) by omega),nm_id]
 have e:nms act = (fPk act,fAp act,fTo act):=by
  rcases (show act = 1 ∨ act = 2 ∨ act = 3 ∨ act = 4 by omega) with rfl | rfl | rfl | rfl <;> rfl
 rw [e];dsimp only
 have f1:fitB (fPr act) (!decide (prv = 0)) = false ↔ prv ≠ 0∧act ≠ 2:=by
  by_cases hp:prv = 0
  ·rw [decide_eq_true hp];rcases (show act = 1 ∨ act = 2 ∨ act = 3 ∨ act = 4 by omega) with rfl | rfl | rfl | rfl <;> simp [fitB,fPr,hp]
  ·rw [decide_eq_false hp];rcases (show act = 1 ∨ act = 2 ∨ act = 3 ∨ act = 4 by omega) with rfl | rfl | rfl | rfl <;> simp [fitB,fPr,hp]
 have f2:fitB (fPa act) (decide (0 < npar)) = false ↔ 0 < npar∧act ≠ 1∧act ≠ 2:=by
  by_cases hp:0 < npar
  ·rw [decide_eq_true hp];rcases (show act = 1 ∨ act = 2 ∨ act = 3 ∨ act = 4 by omega) with rfl | rfl | rfl | rfl <;> simp [fitB,fPa,hp]
  ·rw [decide_eq_false hp];rcases (show act = 1 ∨ act = 2 ∨ act = 3 ∨ act = 4 by omega) with rfl | rfl | rfl | rfl <;> simp [fitB,fPa,hp]
 have f3:(0 < nh∧(nh ≠ 16 ∨ act ≠ 1)) ↔ ((!decide (nh = 0) && !decide (nh = 16)) = true ∨ fitB (fHa act) (decide (0 < nh)) = false):=by
  by_cases hp:0 < nh
  ·rw [decide_eq_true hp];rcases (show act = 1 ∨ act = 2 ∨ act = 3 ∨ act = 4 by omega) with rfl | rfl | rfl | rfl <;> simp [fitB,fHa,hp] <;> omega
  ·obtain rfl:nh = 0:=by omega
   rcases (show act = 1 ∨ act = 2 ∨ act = 3 ∨ act = 4 by omega) with rfl | rfl | rfl | rfl <;> simp [fitB,fHa]
 simp only [f1,f2,f3];generalize fitB (fHa act) (decide (0 < nh)) = q3;generalize (!decide (nh = 0) && !decide (nh = 16)) = q4
 cases idB nd <;> cases nm np (fPk act) <;> cases nm na (fAp act) <;> cases nm nt (fTo act) <;> simp only [Bool.and_true,Bool.and_false,Bool.true_and,Bool.false_and,if_true,Bool.true_eq_false,if_false,reduceIte]
 by_cases a1:prv < 0
 ·rw [if_pos (.inl a1)];simp [a1]
 ·by_cases a2:31 < prv
  ·rw [if_pos (.inr a2)];simp [a1,a2]
  ·rw [if_neg (by omega)];simp only [decide_eq_true_eq,a1,a2,if_false]
   cases q3 <;> cases q4 <;> simp
end Tk
section
variable (w : World)
theorem tFits_ok {p:Nat} (hp:p≤2) (t:Bool):Calls Tryz.prog 83 #[.int .i64 (p:Int),.bool t] w fun e w'=>e = .returned (.bool (fitB p t))∧w' = w:=by
 rcases (show p = 0 ∨ p = 1 ∨ p = 2 by omega) with rfl | rfl | rfl
 all_goals
  cases t
  all_goals
   go_enter Tryz.func83,Tryz.ntmps83;go_wp2;go_ret;exact ⟨rfl,rfl⟩
theorem tIdent_ok (a:Option Addr) (n c:Nat):Calls Tryz.prog 81 #[.slice a n c] w fun e w'=>e = .returned (.bool (idB n))∧w' = w:=by
 by_cases h1:5≤n
 ·have g1:(5:Int)≤n:=by omega
  have q:idB n = decide ((n:Int)≤16):=by
   unfold idB;rw [decide_eq_true h1,Bool.true_and];exact decide_eq_decide.2 (by omega)
  rw [q];go_enter Tryz.func81,Tryz.ntmps81;go_wp2;go_ret;exact ⟨rfl,rfl⟩
 ·have g1:¬ (5:Int)≤n:=by omega
  have q:idB n = false:=by unfold idB;rw [decide_eq_false h1];rfl
  rw [q];go_enter Tryz.func81,Tryz.ntmps81;go_wp2;go_ret;exact ⟨rfl,rfl⟩
theorem tField_ok {p:Nat} (hp:p≤2) (a:Option Addr) (n c:Nat):Calls Tryz.prog 82 #[.slice a n c,.int .i64 (p:Int)] w fun e w'=>e = .returned (.bool (nm n p))∧w' = w:=by
 have hF:=tFits_ok w hp (decide (0 < n));have hI:=tIdent_ok w a n c;rw [nm_fit hp];generalize idB n = i at *;by_cases h0:n = 0
 ·subst h0;rw [decide_eq_false (show ¬ 0 < 0 by decide)] at hF ⊢;rw [decide_eq_true rfl];generalize fitB p false = f at *;refine hid2 ?_ hF hI;clear hF hI;intro hF hI
  cases f
  all_goals
   go_enter Tryz.func82,Tryz.ntmps82;go_wp2_with fail;refine (hF.out).mono ?_;rintro e w1 ⟨rfl,rfl⟩;go_wp2;go_ret;exact ⟨rfl,rfl⟩
 ·have g0:((n:Int) == 0) = false:=by simpa using h0
  rw [decide_eq_false h0,Bool.false_or];generalize fitB p (decide (0 < n)) = f at *;refine hid2 ?_ hF hI;clear hF hI;intro hF hI
  cases f
  ·go_enter Tryz.func82,Tryz.ntmps82;go_wp2_with fail;refine (hF.out).mono ?_;rintro e w1 ⟨rfl,rfl⟩;go_wp2;go_ret;exact ⟨rfl,rfl⟩
  ·go_enter Tryz.func82,Tryz.ntmps82;go_wp2_with fail;refine (hF.out).mono ?_;rintro e w1 ⟨rfl,rfl⟩;go_wp2_with fail;refine (hI.out).mono ?_;rintro e w1 ⟨rfl,rfl⟩;go_wp2;go_ret;exact ⟨rfl,rfl⟩
def fAgg (a:Int):Value:=.agg #[.int .i64 (fPk a),.int .i64 (fAp a),.int .i64 (fTo a),.int .i64 (fPr a),.int .i64 (fPa a),.int .i64 (fHa a)]
theorem ret_ff {fn:Func} {p u:Tmp} (h:fn.results = #[.cell p 144,.tmp u]) (tmps:Array Value) (w:World) (b:Nat) (c0 c1 c2 c3 c4 c5:Value) (hp:tmps.getD p undef = ptr b) (hb:Blk w b [c0,c1,c2,c3,c4,c5] 144) :
  (results fn tmps).run Tryz.prog w = .ok (.tuple #[.agg #[c0,c1,c2,c3,c4,c5],tmps.getD u undef]) w:=by
 rw [results_cell_tmp h,hp];have k0:=hb.cell 0;have k1:=hb.cell 1;have k2:=hb.cell 2;have k3:=hb.cell 3;have k4:=hb.cell 4;have k5:=hb.cell 5;simp only [gz0,gs0] at k0 k1 k2 k3 k4 k5
 go_simp
theorem tFields_ok (act:Int):Calls Tryz.prog 80 #[.int .i64 act] w fun e w'=>(1≤act∧act≤4→e = .returned (.tuple #[fAgg act,.bool true]))∧(¬ (1≤act∧act≤4)→e = .returned (.tuple #[.agg #[.int .i64 0,.int .i64 0,.int .i64 0,.int .i64 0,.int .i64 0,.int .i64 0],.bool false]))∧Mod Nowhere w w':=by
 have hb:=fun a b c d e f:Nat=>Blk.new w [.int .i64 a,.int .i64 b,.int .i64 c,.int .i64 d,.int .i64 e,.int .i64 f] 144;have hm:=fun a b c d e f:Nat=>(Mod.refl Nowhere w).alloc (.cells #[.int .i64 a,.int .i64 b,.int .i64 c,.int .i64 d,.int .i64 e,.int .i64 f] 144);refine hid2 ?_ hb hm;clear hb hm;intro hb hm;by_cases h1:act = 1
 ·subst h1;go_enter Tryz.func80,Tryz.ntmps80;go_wp2;refine bodyPost_ret (ret_ff rfl _ _ w.heap.size _ _ _ _ _ _ rfl (hb.out 2 0 2 0 1 1)) rfl ?_;exact ⟨fun _=>rfl,fun h=>(h (by decide)).elim,hm.out 2 0 2 0 1 1⟩
 by_cases h2:act = 2
 ·subst h2;go_enter Tryz.func80,Tryz.ntmps80;go_wp2;refine bodyPost_ret (ret_ff rfl _ _ w.heap.size _ _ _ _ _ _ rfl (hb.out 1 2 0 1 1 0)) rfl ?_;exact ⟨fun _=>rfl,fun h=>(h (by decide)).elim,hm.out 1 2 0 1 1 0⟩
 by_cases h3:act = 3
 ·subst h3;go_enter Tryz.func80,Tryz.ntmps80;go_wp2;refine bodyPost_ret (ret_ff rfl _ _ w.heap.size _ _ _ _ _ _ rfl (hb.out 0 2 2 0 0 0)) rfl ?_;exact ⟨fun _=>rfl,fun h=>(h (by decide)).elim,hm.out 0 2 2 0 0 0⟩
 by_cases h4:act = 4
 ·subst h4;go_enter Tryz.func80,Tryz.ntmps80;go_wp2;refine bodyPost_ret (ret_ff rfl _ _ w.heap.size _ _ _ _ _ _ rfl (hb.out 0 2 0 0 0 0)) rfl ?_;exact ⟨fun _=>rfl,fun h=>(h (by decide)).elim,hm.out 0 2 0 0 0 0⟩
 go_enter Tryz.func80,Tryz.ntmps80;go_wp2;refine bodyPost_ret (ret_ff rfl _ _ w.heap.size _ _ _ _ _ _ rfl (hb.out 0 0 0 0 0 0)) rfl ?_;exact ⟨fun h=>by omega,fun _=>rfl,hm.out 0 0 0 0 0 0⟩
end
end Go.Proofs.YtanioleniadhoaaGreat
namespace Go.Proofs.YtanioleniadhoaaGreat
open Jn Vn Rg
namespace Tk
theorem num_by {n:Nat} (h:n < 4294967296):Cy.num4 (Cy.by4 n) 0 = n:=by
 unfold Cy.num4 Cy.by4;simp only [gd0,gz0,gs0,Option.getD_some];omega
theorem by_len (n:Nat):(Cy.by4 n).length = 4:=rfl
def nIt (k:Nat):Items:=fun i=>if i = 2∧k ≠ 0 then some (Cy.by4 k) else none
theorem nIt_zero:nIt 0 = none_:=by
 funext i
 unfold nIt;rw [if_neg (fun e=>e.2 rfl)]
 rfl
theorem nIt_at (k:Nat):nIt k 2 = if k = 0 then none else some (Cy.by4 k):=by
 unfold nIt;by_cases h:k = 0
 ·rw [if_pos h,if_neg (fun e=>e.2 h)]
 ·rw [if_neg h,if_pos ⟨rfl,h⟩]
theorem nIt_set (j k:Nat) (h:k ≠ 0):set1 (nIt j) (2,some (Cy.by4 k)) = nIt k:=by
 funext i
 unfold set1 nIt;by_cases hi:i = 2
 ·subst hi;rw [if_pos rfl,if_pos ⟨rfl,h⟩]
 ·rw [if_neg hi,if_neg (fun e=>hi e.1),if_neg (fun e=>hi e.1)]
theorem nIt_xf (k:Nat):XF 2 1 4 (nIt k):=fun i b h=>by
 unfold nIt at h
 split at h
 ·rename_i q
  simp only [Option.some.injEq] at h;subst h;exact ⟨by omega,by omega,Nat.le_refl _⟩
 ·cases h
structure NSt (s:VSt) (k j:Nat):Prop where
 f:s.f = nIt k
 v:view s = nIt j
 x:XS 2 1 4 s
theorem NSt.idle (k:Nat):NSt (xIdle (nIt k)) k k:=⟨rfl,rfl,XS.idle0 (nIt_xf k)⟩
theorem NSt.begun (k:Nat):NSt ⟨nIt k,true,[]⟩ k k:=⟨rfl,rfl,⟨nIt_xf k,fun r hr=>by simp at hr,fun e=>by cases e⟩⟩
def nRec (j:Nat):Rec:=(2,some (Cy.by4 (j + 1)))
theorem nRec_in (j:Nat):InR 2 1 4 (nRec j):=⟨Nat.le_refl _,by show 2 < 2 + 1;omega,Nat.le_refl _⟩
theorem NSt.next {s:VSt} {k j:Nat} (h:NSt s k j):NSt (xApp s (nRec j)) (if s.act = true then k else j + 1) (j + 1):=by
 have h1:=view_xapp h.x (nRec j);refine ⟨?_,?_,h.x.app (nRec_in j)⟩
 ·unfold xApp;by_cases ha:s.act = true
  ·rw [if_pos ha,if_pos ha];exact h.f
  ·rw [if_neg ha,if_neg ha];have hl:s.l = []:=h.x.idle (by simpa using ha);have hv:view s = s.f:=by unfold view;rw [hl];rfl
   show set1 s.f (nRec j) = _
   rw [← hv,h.v];exact nIt_set j (j + 1) (by omega)
 ·rw [h1,h.v];exact nIt_set j (j + 1) (by omega)
theorem NSt.put {s:VSt} {k j Z:Nat} (h:NSt s k j) (hB:XB 2 1 4 Z):vPut Z s ((2:Nat):Int) (Cy.by4 (j + 1)) = (xApp s (nRec j),0):=vPut_x h.x (nRec_in j) hB
end Tk
end Go.Proofs.YtanioleniadhoaaGreat
namespace Go.Proofs.YtanioleniadhoaaGreat
open Jn
namespace Tk
abbrev BR:=Nat × List Nat
def encR (r:Rq):BR:=if r.chk = 0 then (0,r.enc) else (r.chk,[])
def macR (key d:List Nat):BR:=if key.length = 16 then (0,Cy.mac key Cy.zeros d) else (19,[])
def tknR (key:List Nat) (r:Rq):BR:=if r.chk = 0 then macR key r.enc else (r.chk,[])
def recR (key:List Nat) (count:Int) (r:Rq):BR :=
 if r.chk ≠ 0 then (r.chk,[]) else if count < 1 ∨ 2147483647 < count then (2,[]) else
 if key.length = 16 then (0,Cy.by4 count.toNat ++ Cy.mac key Cy.zeros (Cy.by4 count.toNat ++ r.enc)) else (19,[])
def conR (key:List Nat) (r:Rq) (d:List Nat):Nat × Bool :=
 if d.length < 4 then (0,false) else if (recR key (Cy.num4 d 0:Nat) r).1 = 0∧(recR key (Cy.num4 d 0:Nat) r).2 = d then (Cy.num4 d 0,true) else (0,false)
theorem chk_le (r:Rq):r.chk≤4:=by
 unfold Rq.chk chkN
 repeat' split
 all_goals omega
theorem encR_zero (r:Rq):(encR r).1 = r.chk:=by
 unfold encR
 split
 ·rename_i h;exact h.symm
 ·rfl
theorem num_app (n:Nat) (l:List Nat):Cy.num4 (Cy.by4 n ++ l) 0 = Cy.num4 (Cy.by4 n) 0:=rfl
theorem recR_con {key:List Nat} {count:Int} {r:Rq} (h:(recR key count r).1 = 0):conR key r (recR key count r).2 = (count.toNat,true)∧(recR key count r).2.length = 12∧1≤count:=by
 unfold recR at h ⊢
 split at h
 ·rename_i h1;exact (h1 h).elim
 split at h
 ·cases h
 split at h
 ·rename_i h1 h2 h3
  have hcl:count.toNat < 4294967296:=by
   have g1:¬ 2147483647 < count:=fun e=>h2 (.inr e);have g2:count.toNat≤2147483647:=Int.toNat_le.2 (by omega);exact Nat.lt_of_le_of_lt g2 (by decide)
  have hc:Cy.num4 (Cy.by4 count.toNat ++ Cy.mac key Cy.zeros (Cy.by4 count.toNat ++ r.enc)) 0 = count.toNat:=by
   rw [num_app];exact num_by hcl
  have hl:(Cy.by4 count.toNat ++ Cy.mac key Cy.zeros (Cy.by4 count.toNat ++ r.enc)).length = 12:=by
   rw [List.length_append,by_len,Cy.mac_len rfl]
  rw [if_neg h1,if_neg h2,if_pos h3];refine ⟨?_,hl,by omega⟩;unfold conR;rw [if_neg (by rw [hl];decide),hc,show ((count.toNat:Nat):Int) = count by omega]
  have he:recR key count r = (0,Cy.by4 count.toNat ++ Cy.mac key Cy.zeros (Cy.by4 count.toNat ++ r.enc)):=by
   unfold recR;rw [if_neg h1,if_neg h2,if_pos h3]
  rw [he,if_pos ⟨rfl,rfl⟩]
 ·cases h
theorem bytes_by4 (n:Nat):Bytes (Cy.by4 n):=bytes_mem.2 (Cy.by4_lt n)
theorem bytes_lenB {n:Nat} (h:n < 65536):Bytes (lenB n):=bytes_mem.2 fun x hx=>by
 unfold lenB at hx
 split at hx
 ·simp only [List.mem_cons,List.not_mem_nil,or_false] at hx;omega
 split at hx
 ·simp only [List.mem_cons,List.not_mem_nil,or_false] at hx;omega
 ·simp only [List.mem_cons,List.not_mem_nil,or_false] at hx;omega
theorem bytes_encL:∀ {l:List (Nat × List Nat)},(∀ x ∈ l,x.1 < 256∧x.2.length < 65536∧Bytes x.2)→Bytes (encL l)
 | [],_=>fun k=>by simp [encL]
 | x :: l,h=>by
  obtain ⟨h1,h2,h3⟩:=h x (List.mem_cons_self ..);have ih:=bytes_encL (l:=l) fun z hz=>h z (List.mem_cons_of_mem _ hz)
  show Bytes ((x.1 :: (lenB x.2.length ++ x.2)) ++ encL l)
  refine bytes_append (bytes_mem.2 fun z hz=>?_) ih;rcases List.mem_cons.1 hz with rfl | hz
  ·exact h1
  ·exact bytes_mem.1 (bytes_append (bytes_lenB h2) h3) z hz
structure Rq.By (r:Rq):Prop where
 b1:Bytes r.dom
 b2:Bytes r.pac
 b3:Bytes r.app
 b4:Bytes r.dst
 b6:Bytes r.par
 b7:Bytes r.hsh
theorem Rq.vals_len {r:Rq} (h:r.Ok):∀ v ∈ r.vals,v.length≤255:=by
 obtain ⟨-,-,-,-,⟨-,g1⟩,g2,g3,g4,g5,g6⟩:=h;intro v hv;unfold Rq.vals at hv;simp only [List.mem_cons,List.not_mem_nil,or_false] at hv;rcases hv with rfl | rfl | rfl | rfl | rfl | rfl | rfl | rfl
 ·simp
 ·omega
 ·omega
 ·omega
 ·omega
 ·split <;> simp
 ·omega
 ·omega
theorem Rq.vals_by {r:Rq} (h:r.Ok) (hb:r.By):∀ v ∈ r.vals,Bytes v:=by
 have h4:=h.a4;have h1:=h.a1;have p1:=h.p31;have p0:=h.p0;obtain ⟨g1,g2,g3,g4,g6,g7⟩:=hb;intro v hv;unfold Rq.vals at hv;simp only [List.mem_cons,List.not_mem_nil,or_false] at hv;rcases hv with rfl | rfl | rfl | rfl | rfl | rfl | rfl | rfl
 ·refine bytes_mem.2 fun x hx=>?_;simp only [List.mem_cons,List.not_mem_nil,or_false] at hx;omega
 ·exact g1
 ·exact g2
 ·exact g3
 ·exact g4
 ·refine bytes_mem.2 fun x hx=>?_
  split at hx
  ·cases hx
  ·simp only [List.mem_cons,List.not_mem_nil,or_false] at hx;omega
 ·exact g6
 ·exact g7
theorem Rq.enc_len {r:Rq} (h:r.Ok):r.enc.length≤2072:=by
 have h1:=encL_len r.objs 255 fun x hx=>Rq.vals_len h _ (objsF_ge _ _ x hx).2;have h2:=objsF_len 128 r.vals;have h3:r.vals.length = 8:=rfl;have h4:r.objs.length≤8:=by rw [← h3];exact h2
 have:=Nat.mul_le_mul_right (4 + 255) h4;unfold Rq.enc;omega
theorem Rq.objs_lt {r:Rq}:∀ x ∈ r.objs,x.1 < 136:=by
 have key:∀ (t:Nat) (l:List (List Nat)),∀ x ∈ objsF t l,x.1 < t + l.length:=by
  intro t l
  induction l generalizing t with
  | nil=>intro x hx;cases hx
  | cons v l ih =>
   intro x hx;unfold objsF at hx;rw [List.length_cons]
   split at hx
   ·have:=ih (t + 1) x hx;omega
   ·rcases List.mem_cons.1 hx with rfl | hx
    ·show t < _;omega
    ·have:=ih (t + 1) x hx;omega
 exact fun x hx=>key 128 r.vals x hx
theorem Rq.enc_by {r:Rq} (h:r.Ok) (hb:r.By):Bytes r.enc:=bytes_encL fun x hx=>by
 have h1:=(objsF_ge _ _ x hx).2;have h2:=Rq.objs_lt x hx;exact ⟨by omega,by have:=Rq.vals_len h _ h1;omega,Rq.vals_by h hb _ h1⟩
theorem encR_by {r:Rq} (hb:r.By):Bytes (encR r).2:=by
 unfold encR
 split
 ·rename_i h;exact Rq.enc_by (Rq.chk_ok h) hb
 ·exact fun k=>by simp
theorem macR_by (key d:List Nat):Bytes (macR key d).2:=by
 unfold macR
 split
 ·exact bytes_mac bytes_z
 ·exact fun k=>by simp
theorem tknR_by (key:List Nat) (r:Rq):Bytes (tknR key r).2:=by
 unfold tknR
 split
 ·exact macR_by _ _
 ·exact fun k=>by simp
theorem recR_by (key:List Nat) (c:Int) (r:Rq):Bytes (recR key c r).2:=by
 unfold recR
 repeat' split
 ·exact fun k=>by simp
 ·exact fun k=>by simp
 ·exact bytes_append (bytes_by4 _) (bytes_mac bytes_z)
 ·exact fun k=>by simp
theorem encR_len (r:Rq):(encR r).2.length≤2072:=by
 unfold encR
 split
 ·rename_i h;exact Rq.enc_len (Rq.chk_ok h)
 ·exact Nat.zero_le _
theorem tknR_len (key:List Nat) (r:Rq):(tknR key r).2.length≤8:=by
 unfold tknR macR
 repeat' split
 ·rw [Cy.mac_len rfl];exact Nat.le_refl _
 ·exact Nat.zero_le _
 ·exact Nat.zero_le _
theorem recR_len (key:List Nat) (c:Int) (r:Rq):(recR key c r).2.length≤12:=by
 unfold recR
 repeat' split
 ·exact Nat.zero_le _
 ·exact Nat.zero_le _
 ·rw [List.length_append,by_len,Cy.mac_len rfl];exact Nat.le_refl _
 ·exact Nat.zero_le _
end Tk
end Go.Proofs.YtanioleniadhoaaGreat
