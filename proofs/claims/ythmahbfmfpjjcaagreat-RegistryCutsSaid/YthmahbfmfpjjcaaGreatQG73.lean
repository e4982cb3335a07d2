/-
  The life cycle: the tables.
-/
import Derived.Test.YthmahbfmfpjjcaaGreatQG11
set_option linter.unusedVariables false
set_option linter.unusedSimpArgs false
set_option maxHeartbeats 4000000
set_option maxRecDepth 100000
namespace Go.Proofs.YthmahbfmfpjjcaaGreat
open Go.RowKit
attribute [local go_sem] Oper.semAt_some
abbrev Rw:=Nat × Nat
def rws (k:Int):Option (List Rw) :=
 if k = 0 then some [(1,1),(2,7),(3,15),(4,127),(5,255)] else if k = 3 then some [(1,1)] else if k = 1 ∨ k = 2 then some [(2,3),(3,7),(4,15),(5,131)] else none
def trs (card:Bool):List Rw:=if card then [(1,2),(2,3),(3,4),(4,3)] else [(2,3),(3,4)]
def hasB (k n:Int):Bool:=((rws k).getD []).any fun r=>decide ((r.1:Int) = n)
def appB (k f t:Int):Bool:=(decide (k = 2) || decide (k = 1)) && hasB k f && hasB k t && ((decide (f = 5) != decide (t = 5)) || (trs false).any fun r=>decide ((r.1:Int) = f∧(r.2:Int) = t))
def turn (l:List Rw) (back:Bool) (n:Int):Int × Nat :=
 match l.find? (fun r=>decide ((((if back then r.2 else r.1):Nat):Int) = n)) with
 | some r=>(((if back then r.1 else r.2):Nat),0)
 | none=>(0,2)
theorem Sl.whole {w:World} {b:Nat} {xs:List Value} {T:TypeId} {sz n:Nat} (h:Blk w b xs T) (hn:xs.length = n * sz) (hm:n≤maxLen):Sl w (.slice (some ⟨b,0,none⟩) n n) T sz n xs :=
 ⟨hn,.inr ⟨b,0,n,xs,rfl,h,Nat.le_refl _,hm,by omega,by rw [List.drop_zero,← hn,List.take_length]⟩⟩
def rwCells (r:Rw):List Value:=[.int .i64 r.1,.int .i64 r.2]
def rwsCells (l:List Rw):List Value:=l.flatMap rwCells
theorem Zc7:∀ (l:List Rw) (i:Nat) (h:i < l.length),(rwsCells l).getD (i * 2) default = .int .i64 l[i].1∧(rwsCells l).getD (i * 2 + 1) default = .int .i64 l[i].2
 | x :: xs,0,_=>by simp [rwsCells,rwCells]
 | x :: xs,i + 1,h=>by
  have:=Zc7 xs i (by simpa using h);have e:rwsCells (x :: xs) = .int .i64 x.1 :: .int .i64 x.2 :: rwsCells xs:=rfl;rw [e,show (i + 1) * 2 = i * 2 + 1 + 1 by omega,show i * 2 + 1 + 1 + 1 = (i * 2 + 1) + 1 + 1 by omega];simp only [List.getD_cons_succ,List.getElem_cons_succ];exact this
theorem ZiR (l:List Rw):(rwsCells l).length = l.length * 2:=by
 induction l with
 | nil=>rfl
 | cons x xs ih=>show (rwCells x ++ rwsCells xs).length = _;rw [List.length_append,ih];simp [rwCells];omega
structure RwSl (w:World) (v:Value) (l:List Rw):Prop where
 sl:Sl w v 134 2 l.length (rwsCells l)
theorem RwSl.fresh {w w':World} {v:Value} {l:List Rw} (h:RwSl w v l) (hm:Mod Nowhere w w'):RwSl w' v l:=⟨h.sl.mod hm fun _ _=>id⟩
theorem RwSl.at_ {w:World} {v:Value} {l:List Rw} (h:RwSl w v l) {i:Nat} (hi:i < l.length):∃ b off cap,v = .slice (some ⟨b,off,none⟩) l.length cap∧b < w.heap.size∧l.length≤cap∧cap≤maxLen∧w.cell? ⟨b,off + i * 2,none⟩ = some (.int .i64 l[i].1)∧w.cell? ⟨b,off + i * 2 + 1,none⟩ = some (.int .i64 l[i].2):=by
 obtain ⟨b,off,cap,rfl,hb,h1,h2,hc,_⟩:=h.sl.open (by omega);obtain ⟨e1,e2⟩:=Zc7 l i hi;have c1:=hc (i * 2) (by omega);have c2:=hc (i * 2 + 1) (by omega);rw [e1] at c1;rw [e2] at c2;exact ⟨b,off,cap,rfl,hb,h1,h2,c1,by rw [Nat.add_assoc];exact c2⟩
def RwPost (w:World) (o:Option (List Rw)) (e:Ending) (w':World):Prop :=
 (o = none∧e = .returned (.slice none 0 0)∧Mod Nowhere w w') ∨ ∃ l v,o = some l∧e = .returned v∧RwSl w' v l∧Mod Nowhere w w'∧0 < l.length∧l.length≤100
theorem RwPost.some_ {w w':World} {l:List Rw} {b n:Nat} (hb:Blk w' b (rwsCells l) 134) (hn:n = l.length) (h0:0 < l.length) (hm:l.length≤100) (m:Mod Nowhere w w') :
  RwPost w (some l) (.returned (.slice (some ⟨b,0,none⟩) n n)) w':=by
 subst hn;exact .inr ⟨l,_,rfl,rfl,⟨Sl.whole hb (ZiR l) (by unfold maxLen;omega)⟩,m,h0,hm⟩
theorem ZiS {w:World} (k:Int):Calls Tryz.prog 141 #[.int .i64 k] w (RwPost w (rws k)):=by
 unfold rws;by_cases h0:k = 0
 ·subst h0;rw [if_pos rfl];go_enter Tryz.func141,Tryz.ntmps141;go_wp2;go_ret;exact RwPost.some_ (l:=[(1,1),(2,7),(3,15),(4,127),(5,255)]) (Blk.new w (rwsCells [(1,1),(2,7),(3,15),(4,127),(5,255)]) _) rfl (by decide) (by decide) ((Mod.refl _ w).alloc _)
 ·rw [if_neg h0];by_cases h3:k = 3
  ·subst h3;rw [if_pos rfl];go_enter Tryz.func141,Tryz.ntmps141;go_wp2;go_ret;exact RwPost.some_ (l:=[(1,1)]) (Blk.new w (rwsCells [(1,1)]) _) rfl (by decide) (by decide) ((Mod.refl _ w).alloc _)
  ·rw [if_neg h3];by_cases h2:k = 2
   ·subst h2;rw [if_pos (by omega)];go_enter Tryz.func141,Tryz.ntmps141;go_wp2;go_ret;exact RwPost.some_ (l:=[(2,3),(3,7),(4,15),(5,131)]) (Blk.new w (rwsCells [(2,3),(3,7),(4,15),(5,131)]) _) rfl (by decide) (by decide) ((Mod.refl _ w).alloc _)
   ·by_cases h1:k = 1
    ·subst h1;rw [if_pos (by omega)];go_enter Tryz.func141,Tryz.ntmps141;go_wp2;go_ret;exact RwPost.some_ (l:=[(2,3),(3,7),(4,15),(5,131)]) (Blk.new w (rwsCells [(2,3),(3,7),(4,15),(5,131)]) _) rfl (by decide) (by decide) ((Mod.refl _ w).alloc _)
    ·rw [if_neg (by omega)];go_enter Tryz.func141,Tryz.ntmps141;go_wp2;go_ret;exact .inl ⟨rfl,rfl,Mod.refl _ _⟩
theorem ZiT {w:World} (c:Bool):Calls Tryz.prog 103 #[.bool c] w (RwPost w (some (trs c))):=by
 cases c
 ·go_enter Tryz.func103,Tryz.ntmps103;go_wp2;go_ret;exact RwPost.some_ (l:=[(2,3),(3,4)]) (Blk.new w (rwsCells [(2,3),(3,4)]) _) rfl (by decide) (by decide) ((Mod.refl _ w).alloc _)
 ·go_enter Tryz.func103,Tryz.ntmps103;go_wp2;go_ret;exact RwPost.some_ (l:=[(1,2),(2,3),(3,4),(4,3)]) (Blk.new w (rwsCells [(1,2),(2,3),(3,4),(4,3)]) _) rfl (by decide) (by decide) ((Mod.refl _ w).alloc _)
theorem ZiU {w:World} {v:Value} {xs:List Rw} (h:RwSl w v xs) (hl:xs.length≤1099511627776) (g:FuncId) (cap:Array Value) (hent:∀ args w,(callFunc g args).run Tryz.prog w = .ok (.enter g args) w) (pd:Rw→Bool)
  (hcall:∀ x ∈ xs,∀ wr,Mod Nowhere w wr→Calls Tryz.prog g (#[.agg #[.int .i64 x.1,.int .i64 x.2]] ++ cap) wr fun e w'=>e = .returned (.bool (pd x))∧Mod Nowhere wr w') :
  Calls Tryz.prog 174 #[v,.func (.func g) #[] cap] w fun e w'=>∃ r:Int,e = .returned (.int .i64 r)∧decide (0≤r) = xs.any pd∧Mod Nowhere w w':=by
 obtain ⟨a,vc,rfl,h1,h2,_⟩:=h.sl.gen;refine hid2 ?_ h hcall;clear h hcall;intro h hcall;go_enter Tryz.func174,Tryz.ntmps174;go_wp2
 go_loopw [8] (fun i wr=>∃ k:Nat,k≤xs.length∧i = .int .i64 k∧(xs.take k).any pd = false∧Mod Nowhere w wr) (fun i _=>xs.length - (intOf i).toNat)
 case atStart=>exact ⟨0,by omega,rfl,rfl,Mod.refl _ _⟩
 case round =>
  obtain ⟨k,hk,rfl,hno,hm⟩:=hrel;replace hno:=Lib.hid hno;by_cases hlt:k < xs.length
  ·obtain ⟨b,off,cap',e0,hb,_,_,c1,c2⟩:=(h.out.fresh hm).at_ hlt;have hC:=hcall.out xs[k] (List.getElem_mem hlt) wr hm;have htk:(xs.take (k + 1)).any pd = ((xs.take k).any pd || pd xs[k]):=by rw [List.take_succ_eq_append_getElem hlt,List.any_append];simp only [List.any_cons,List.any_nil,Bool.or_false]
   obtain ⟨rfl,rfl⟩:a = some ⟨b,off,none⟩∧vc = cap':=by
    simp at e0;exact ⟨e0.1,e0.2⟩
   have hany:pd xs[k] = true→xs.any pd = true:=fun hp=>List.any_eq_true.2 ⟨xs[k],List.getElem_mem hlt,hp⟩
   cases hp:pd xs[k]
   ·rw [hp] at hC htk;clear hany;replace hp:=Lib.hid hp;generalize xs[k].2 = q at *;generalize xs[k].1 = o at *;refine hid3 ?_ hC hm htk;clear hC hm htk;intro hC hm htk;go_wp2_with fail;refine hC.out.mono ?_;rintro e w1 ⟨rfl,hm1⟩;go_wp2;go_roundw
    case rel=>exact ⟨k + 1,by omega,by go_num,by rw [htk.out,hno.out];rfl,hm.out.trans hm1⟩
    case measure=>simp [intOf];omega
   ·rw [hp] at hC;have hany2:=hany hp;replace hany2:=Lib.hid hany2;clear hany htk;replace hp:=Lib.hid hp;generalize xs[k].2 = q at *;generalize xs[k].1 = o at *;refine hid2 ?_ hC hm;clear hC hm;intro hC hm;go_wp2_with fail;refine hC.out.mono ?_;rintro e w1 ⟨rfl,hm1⟩;go_wp2;go_ret;exact ⟨_,rfl,by rw [hany2.out];simp,hm.out.trans hm1⟩
  ·obtain rfl:k = xs.length:=by omega
   rw [List.take_length] at hno;replace hm:=Lib.hid hm;go_wp2;go_ret;exact ⟨_,rfl,by rw [hno.out];rfl,hm.out⟩
theorem ZiV {w:World} {v:Value} {xs:List Rw} (h:RwSl w v xs) (hl:xs.length≤1099511627776) (g:FuncId) (cap:Array Value) (hent:∀ args w,(callFunc g args).run Tryz.prog w = .ok (.enter g args) w) (pd:Rw→Bool)
  (hcall:∀ x ∈ xs,∀ wr,Mod Nowhere w wr→Calls Tryz.prog g (#[.agg #[.int .i64 x.1,.int .i64 x.2]] ++ cap) wr fun e w'=>e = .returned (.bool (pd x))∧Mod Nowhere wr w') :
  Calls Tryz.prog 140 #[v,.func (.func g) #[] cap] w fun e w'=>e = .returned (.bool (xs.any pd))∧Mod Nowhere w w':=by
 have hI:=ZiU h hl g cap hent pd hcall;replace hI:=Lib.hid hI;clear hcall h hent;go_enter Tryz.func140,Tryz.ntmps140;go_wp2_with fail;refine hI.out.mono ?_;rintro e w1 ⟨r,rfl,hr,hm1⟩
 cases ha:xs.any pd
 ·rw [ha] at hr;go_wp2;go_ret;exact ⟨Za ha.symm,hm1⟩
 ·rw [ha] at hr;go_wp2;go_ret;exact ⟨Za ha.symm,hm1⟩
theorem ZiW {w:World} {B:Nat} {n:Int} (hb:w.cell? ⟨B,0,none⟩ = some (.int .i64 n)) (x:Rw) :
  Calls Tryz.prog 142 #[.agg #[.int .i64 x.1,.int .i64 x.2],.pointer (some ⟨B,0,none⟩)] w fun e w'=>e = .returned (.bool (decide ((x.1:Int) = n)))∧Mod Nowhere w w':=by
 have hbl:=ZF hb;generalize x.1 = p;generalize x.2 = q;by_cases hp:(p:Int) = n
 ·go_enter Tryz.func142,Tryz.ntmps142;go_wp2;go_ret;exact ⟨Za (by simp [hp]),(Mod.refl _ w).alloc _⟩
 ·go_enter Tryz.func142,Tryz.ntmps142;go_wp2;go_ret;exact ⟨Za (by simp [hp]),(Mod.refl _ w).alloc _⟩
theorem Jv (n:Nat) (a b:Int) (w:World):(Op.equalIn (n + 1) 3 (.int .i64 a) (.int .i64 b)).run Tryz.prog w = .ok (a == b) w:=by
 simp [Op.equalIn,run_underlying Tryz.underlying3]
theorem ZiX (a b c d:Int) (w:World):(Op.equalIn 10000 134 (.agg #[.int .i64 a,.int .i64 b]) (.agg #[.int .i64 c,.int .i64 d])).run Tryz.prog w = .ok (a == c && b == d) w:=by
 obtain ⟨i0,hi0,hz0,hz1,hz2⟩:=info_parts Zz;rw [show 10000 = 9999 + 1 from rfl,run_equalIn_array w 9999 _ _ Tryz.underlying134 hi0,show Tryz.prog.cellsOf 3 = 1 by kernel_rfl]
 have p1:∀ (x y:Int),(part 3 #[.int .i64 x,.int .i64 y] (0 * 1)).run Tryz.prog w = .ok (.int .i64 x) w:=fun x y=>by
  go_simp
 have p2:∀ (x y:Int),(part 3 #[.int .i64 x,.int .i64 y] (1 * 1)).run Tryz.prog w = .ok (.int .i64 y) w:=fun x y=>by
  go_simp
 have p3:∀ (x y:Int),(part 3 #[.int .i64 x,.int .i64 y] 1).run Tryz.prog w = .ok (.int .i64 y) w:=p2;simp only [List.range,List.range.loop,Op.eqItems,Nat.one_mul,Sem.run_bind,p1,p3,Result.andThen_ok,Jv]
 cases h1:a == c
 ·simp
 ·cases h2:b == d
  ·simp [p3,Jv,h2]
  ·simp [p3,Jv,h2]
theorem ZiY {w:World} {v:Value} {xs:List Rw} (h:RwSl w v xs) (hl:xs.length≤1099511627776) (f t:Int) :
  Calls Tryz.prog 143 #[v,.agg #[.int .i64 f,.int .i64 t]] w fun e w'=>∃ r:Int,e = .returned (.int .i64 r)∧decide (0≤r) = (xs.any fun r=>decide ((r.1:Int) = f∧(r.2:Int) = t))∧Mod Nowhere w w':=by
 obtain ⟨a,vc,rfl,h1,h2,_⟩:=h.sl.gen;obtain ⟨pd,hpd⟩:∃ pd:Rw→Bool,pd = fun r=>decide ((r.1:Int) = f∧(r.2:Int) = t):=⟨_,rfl⟩;rw [← hpd];have hq:=fun (c d:Int) (w:World)=>ZiX f t c d w;refine hid2 ?_ h hpd;clear h hpd;intro h hpd;go_enter Tryz.func143,Tryz.ntmps143;go_wp2
 go_loopw [8] (fun i wr=>∃ k:Nat,k≤xs.length∧i = .int .i64 k∧(xs.take k).any pd = false∧wr.cell? ⟨w.heap.size,0,none⟩ = some (.int .i64 f)∧wr.cell? ⟨w.heap.size,1,none⟩ = some (.int .i64 t)∧w.heap.size < wr.heap.size∧Mod Nowhere w wr) (fun i _=>xs.length - (intOf i).toNat)
 case atStart =>
  have hb:=Blk.new w [.int .i64 f,.int .i64 t] 134;exact ⟨0,by omega,rfl,rfl,hb.cell 0,hb.cell 1,hb.lt,(Mod.refl _ _).alloc _⟩
 case round =>
  obtain ⟨k,hk,rfl,hno,k0,k1,hbl,hm⟩:=hrel;replace hno:=Lib.hid hno;by_cases hlt:k < xs.length
  ·obtain ⟨b,off,cap',e0,hb,_,_,c1,c2⟩:=(h.out.fresh hm).at_ hlt;have htk:(xs.take (k + 1)).any pd = ((xs.take k).any pd || pd xs[k]):=by rw [List.take_succ_eq_append_getElem hlt,List.any_append];simp only [List.any_cons,List.any_nil,Bool.or_false]
   obtain ⟨rfl,rfl⟩:a = some ⟨b,off,none⟩∧vc = cap':=by
    simp at e0;exact ⟨e0.1,e0.2⟩
   have hany:pd xs[k] = true→xs.any pd = true:=fun hp=>List.any_eq_true.2 ⟨xs[k],List.getElem_mem hlt,hp⟩;have hpk:pd xs[k] = decide ((xs[k].1:Int) = f∧(xs[k].2:Int) = t):=by rw [hpd.out]
   by_cases h3:(xs[k].1:Int) = f
   ·by_cases h4:(xs[k].2:Int) = t
    ·have hany2:=hany (by rw [hpk];simp [h3,h4]);replace hany2:=Lib.hid hany2;clear hany htk hpk;generalize xs[k].2 = q at *;generalize xs[k].1 = o at *;replace hm:=Lib.hid hm;go_wp2
     go_region
     all_goals go_wp2
     go_ret;exact ⟨_,rfl,by rw [hany2.out];simp,hm.out.drew⟩
    ·rw [hpk] at htk;have h4':(t == (xs[k].2:Int)) = false:=by simpa using fun e=>h4 e.symm
     clear hany hpk;generalize xs[k].2 = q at *;generalize xs[k].1 = o at *;refine hid2 ?_ hm htk;clear hm htk;intro hm htk;go_wp2
     go_region
     all_goals go_wp2
     go_roundw
     case rel=>exact ⟨k + 1,by omega,by go_num,by rw [htk.out,hno.out];simp [h4],k0,k1,hbl,hm.out.drew⟩
     case measure=>simp [intOf];omega
   ·rw [hpk] at htk;have h3':(f == (xs[k].1:Int)) = false:=by simpa using fun e=>h3 e.symm
    clear hany hpk;generalize xs[k].2 = q at *;generalize xs[k].1 = o at *;refine hid2 ?_ hm htk;clear hm htk;intro hm htk;go_wp2
    go_region
    all_goals go_wp2
    go_roundw
    case rel=>exact ⟨k + 1,by omega,by go_num,by rw [htk.out,hno.out];simp [h3],k0,k1,hbl,hm.out.drew⟩
    case measure=>simp [intOf];omega
  ·obtain rfl:k = xs.length:=by omega
   rw [List.take_length] at hno;replace hm:=Lib.hid hm;go_wp2;go_ret;exact ⟨_,rfl,by rw [hno.out];rfl,hm.out⟩
theorem ZiZ {w:World} {v:Value} {xs:List Rw} (h:RwSl w v xs) (hl:xs.length≤1099511627776) (f t:Int) :
  Calls Tryz.prog 102 #[v,.agg #[.int .i64 f,.int .i64 t]] w fun e w'=>e = .returned (.bool (xs.any fun r=>decide ((r.1:Int) = f∧(r.2:Int) = t)))∧Mod Nowhere w w':=by
 have hI:=fun W (hm:Mod Nowhere w W)=>ZiY (h.fresh hm) hl f t;have hm0:Mod Nowhere w (w.alloc (.cells #[.int .i64 f,.int .i64 t] 134)):=(Mod.refl _ _).alloc _;generalize (xs.any fun r=>decide ((r.1:Int) = f∧(r.2:Int) = t)) = pb at *;replace hI:=Lib.hid hI;clear h;go_enter Tryz.func102,Tryz.ntmps102;go_wp2_with fail;refine (hI.out _ hm0).mono ?_;rintro e w1 ⟨r,rfl,hr,hm1⟩;replace hm0:=Lib.hid hm0
 cases pb
 ·go_wp2;go_ret;exact ⟨rfl,hm0.out.trans hm1⟩
 ·go_wp2;go_ret;exact ⟨rfl,hm0.out.trans hm1⟩
theorem Zc8 {w:World} (k n:Int):Calls Tryz.prog 101 #[.int .i64 k,.int .i64 n] w fun e w'=>e = .returned (.bool (hasB k n))∧Mod Nowhere w w':=by
 have hS:=fun W=>ZiS (w:=W) k;unfold hasB;generalize rws k = o at *;obtain ⟨pb,hpb⟩:∃ pb,pb = (o.getD []).any fun r=>decide ((r.1:Int) = n):=⟨_,rfl⟩;rw [← hpb];replace hpb:=Lib.hid hpb;have hb:=Blk.new w [.int .i64 n] 3;have hm0:Mod Nowhere w (w.alloc (.cells #[.int .i64 n] 3)):=(Mod.refl _ _).alloc _;refine hid3 ?_ hb hm0 hS;clear hb hm0 hS;intro hb hm0 hS;go_enter Tryz.func101,Tryz.ntmps101;go_wp2_with fail;refine (hS.out _).mono ?_
 have hF:∀ (l:List Rw) (v:Value) (w1:World),RwSl w1 v l→l.length≤1099511627776→Mod Nowhere (w.alloc (.cells #[.int .i64 n] 3)) w1→Calls Tryz.prog 140 #[v,.func (.func 142) #[] #[.pointer (some ⟨w.heap.size,0,none⟩)]] w1 fun e w'=>e = .returned (.bool (l.any fun r=>decide ((r.1:Int) = n)))∧Mod Nowhere w1 w':=fun l v w1 hs hl hm=>by
  refine ZiV hs hl 142 #[.pointer (some ⟨w.heap.size,0,none⟩)] (enters_of Tryz.func142 (by kernel_rfl) rfl) _ fun x hx wr hmr=>?_;exact ZiW (((hm.trans hmr).cell (p:=⟨w.heap.size,0,none⟩) hb.out.lt id).trans (hb.out.cell 0)) x
 replace hF:=Lib.hid hF;rintro e w1 (⟨rfl,rfl,hm1⟩ | ⟨l,v,rfl,rfl,hs,hm1,hp,hq⟩)
 ·have hC:=hF.out [] (.slice none 0 0) w1 ⟨Sl.nil _ _ _⟩ (by decide) hm1;replace hC:=Lib.hid hC;go_wp2_with fail;refine hC.out.mono ?_;rintro e w2 ⟨rfl,hm2⟩;go_wp2;go_ret;exact ⟨Za hpb.out.symm,(hm0.out.trans hm1).trans hm2⟩
 ·obtain ⟨a,c,rfl,-⟩:=hs.sl.gen;have hC:=hF.out l _ w1 hs (by omega) hm1;replace hC:=Lib.hid hC;go_wp2_with fail;refine hC.out.mono ?_;rintro e w2 ⟨rfl,hm2⟩;go_wp2;go_ret;exact ⟨Za hpb.out.symm,(hm0.out.trans hm1).trans hm2⟩
end Go.Proofs.YthmahbfmfpjjcaaGreat
/-
 The life cycle: which changes are permitted, and the bytes.
-/
namespace Go.Proofs.YthmahbfmfpjjcaaGreat
open Go.RowKit
attribute [local go_sem] Oper.semAt_some
theorem Zi0 {w:World} (k f t:Int):Calls Tryz.prog 64 #[.int .i64 k,.int .i64 f,.int .i64 t] w fun e w'=>e = .returned (.bool (appB k f t))∧Mod Nowhere w w':=by
 have h1:=fun W=>Zc8 (w:=W) k f;have h2:=fun W=>Zc8 (w:=W) k t;have hT:=fun W=>ZiT (w:=W) false;have hC:=fun (v:Value) W (hs:RwSl W v (trs false))=>ZiZ hs (by decide) f t;unfold appB;generalize hasB k f = a at *;generalize hasB k t = b at *;generalize ((trs false).any fun r=>decide ((r.1:Int) = f∧(r.2:Int) = t)) = c at *;refine hid4 ?_ h1 h2 hT hC;clear h1 h2 hT hC;intro h1 h2 hT hC;by_cases k2:k = 2
 ·subst k2
  cases a
  ·go_enter Tryz.func64,Tryz.ntmps64;go_wp2_with fail;refine (h1.out _).mono ?_;rintro e w1 ⟨rfl,hm1⟩;go_wp2;go_ret;exact ⟨Za (by simp),hm1⟩
  ·cases b
   ·go_enter Tryz.func64,Tryz.ntmps64;go_wp2_with fail;refine (h1.out _).mono ?_;rintro e w1 ⟨rfl,hm1⟩;go_wp2_with fail;refine (h2.out _).mono ?_;rintro e w2 ⟨rfl,hm2⟩;go_wp2;go_ret;exact ⟨Za (by simp),hm1.trans hm2⟩
   ·by_cases hf:f = 5
    ·by_cases ht:t = 5
     ·subst hf;subst ht;go_enter Tryz.func64,Tryz.ntmps64;go_wp2_with fail;refine (h1.out _).mono ?_;rintro e w1 ⟨rfl,hm1⟩;go_wp2_with fail;refine (h2.out _).mono ?_;rintro e w2 ⟨rfl,hm2⟩;go_wp2_with fail;refine (hT.out _).mono ?_;rintro e w3 (⟨h0,-⟩ | ⟨l,v,h0,rfl,hs,hm3,-⟩)
      ·cases h0
      ·obtain rfl:=Option.some.inj h0;have hC':=hC.out v w3 hs;obtain ⟨va,vc,rfl,-⟩:=hs.sl.gen;replace hC':=Lib.hid hC';clear hs;go_wp2_with fail;refine hC'.out.mono ?_;rintro e w4 ⟨rfl,hm4⟩;go_wp2;go_ret;exact ⟨Za (by simp),((hm1.trans hm2).trans hm3).trans hm4⟩
     ·subst hf;go_enter Tryz.func64,Tryz.ntmps64;go_wp2_with fail;refine (h1.out _).mono ?_;rintro e w1 ⟨rfl,hm1⟩;go_wp2_with fail;refine (h2.out _).mono ?_;rintro e w2 ⟨rfl,hm2⟩;go_wp2;go_ret;exact ⟨Za (by simp [ht]),hm1.trans hm2⟩
    ·by_cases ht:t = 5
     ·subst ht;go_enter Tryz.func64,Tryz.ntmps64;go_wp2_with fail;refine (h1.out _).mono ?_;rintro e w1 ⟨rfl,hm1⟩;go_wp2_with fail;refine (h2.out _).mono ?_;rintro e w2 ⟨rfl,hm2⟩;go_wp2;go_ret;exact ⟨Za (by simp [hf]),hm1.trans hm2⟩
     ·have hf':(f == 5) = false:=by simpa using hf
      have ht':(t == 5) = false:=by simpa using ht
      go_enter Tryz.func64,Tryz.ntmps64;go_wp2_with fail;refine (h1.out _).mono ?_;rintro e w1 ⟨rfl,hm1⟩;go_wp2_with fail;refine (h2.out _).mono ?_;rintro e w2 ⟨rfl,hm2⟩;go_wp2_with fail;refine (hT.out _).mono ?_;rintro e w3 (⟨h0,-⟩ | ⟨l,v,h0,rfl,hs,hm3,-⟩)
      ·cases h0
      ·obtain rfl:=Option.some.inj h0;have hC':=hC.out v w3 hs;obtain ⟨va,vc,rfl,-⟩:=hs.sl.gen;replace hC':=Lib.hid hC';clear hs;go_wp2_with fail;refine hC'.out.mono ?_;rintro e w4 ⟨rfl,hm4⟩;go_wp2;go_ret;exact ⟨Za (by simp [hf,ht]),((hm1.trans hm2).trans hm3).trans hm4⟩
 ·by_cases k1:k = 1
  ·subst k1
   cases a
   ·go_enter Tryz.func64,Tryz.ntmps64;go_wp2_with fail;refine (h1.out _).mono ?_;rintro e w1 ⟨rfl,hm1⟩;go_wp2;go_ret;exact ⟨Za (by simp),hm1⟩
   ·cases b
    ·go_enter Tryz.func64,Tryz.ntmps64;go_wp2_with fail;refine (h1.out _).mono ?_;rintro e w1 ⟨rfl,hm1⟩;go_wp2_with fail;refine (h2.out _).mono ?_;rintro e w2 ⟨rfl,hm2⟩;go_wp2;go_ret;exact ⟨Za (by simp),hm1.trans hm2⟩
    ·by_cases hf:f = 5
     ·by_cases ht:t = 5
      ·subst hf;subst ht;go_enter Tryz.func64,Tryz.ntmps64;go_wp2_with fail;refine (h1.out _).mono ?_;rintro e w1 ⟨rfl,hm1⟩;go_wp2_with fail;refine (h2.out _).mono ?_;rintro e w2 ⟨rfl,hm2⟩;go_wp2_with fail;refine (hT.out _).mono ?_;rintro e w3 (⟨h0,-⟩ | ⟨l,v,h0,rfl,hs,hm3,-⟩)
       ·cases h0
       ·obtain rfl:=Option.some.inj h0;have hC':=hC.out v w3 hs;obtain ⟨va,vc,rfl,-⟩:=hs.sl.gen;replace hC':=Lib.hid hC';clear hs;go_wp2_with fail;refine hC'.out.mono ?_;rintro e w4 ⟨rfl,hm4⟩;go_wp2;go_ret;exact ⟨Za (by simp),((hm1.trans hm2).trans hm3).trans hm4⟩
      ·subst hf;go_enter Tryz.func64,Tryz.ntmps64;go_wp2_with fail;refine (h1.out _).mono ?_;rintro e w1 ⟨rfl,hm1⟩;go_wp2_with fail;refine (h2.out _).mono ?_;rintro e w2 ⟨rfl,hm2⟩;go_wp2;go_ret;exact ⟨Za (by simp [ht]),hm1.trans hm2⟩
     ·by_cases ht:t = 5
      ·subst ht;go_enter Tryz.func64,Tryz.ntmps64;go_wp2_with fail;refine (h1.out _).mono ?_;rintro e w1 ⟨rfl,hm1⟩;go_wp2_with fail;refine (h2.out _).mono ?_;rintro e w2 ⟨rfl,hm2⟩;go_wp2;go_ret;exact ⟨Za (by simp [hf]),hm1.trans hm2⟩
      ·have hf':(f == 5) = false:=by simpa using hf
       have ht':(t == 5) = false:=by simpa using ht
       go_enter Tryz.func64,Tryz.ntmps64;go_wp2_with fail;refine (h1.out _).mono ?_;rintro e w1 ⟨rfl,hm1⟩;go_wp2_with fail;refine (h2.out _).mono ?_;rintro e w2 ⟨rfl,hm2⟩;go_wp2_with fail;refine (hT.out _).mono ?_;rintro e w3 (⟨h0,-⟩ | ⟨l,v,h0,rfl,hs,hm3,-⟩)
       ·cases h0
       ·obtain rfl:=Option.some.inj h0;have hC':=hC.out v w3 hs;obtain ⟨va,vc,rfl,-⟩:=hs.sl.gen;replace hC':=Lib.hid hC';clear hs;go_wp2_with fail;refine hC'.out.mono ?_;rintro e w4 ⟨rfl,hm4⟩;go_wp2;go_ret;exact ⟨Za (by simp [hf,ht]),((hm1.trans hm2).trans hm3).trans hm4⟩
  ·clear h1 h2;go_enter Tryz.func64,Tryz.ntmps64;go_wp2;go_ret;exact ⟨Za (by simp [k1,k2]),Mod.refl _ w⟩
end Go.Proofs.YthmahbfmfpjjcaaGreat
