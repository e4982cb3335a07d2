/-
  The reference of keys: entries in Go's memory.
-/
import Derived.Test.YtoehlaeaafalmaaGreatCK2
import Derived.Test.YtoehlaeaafalmaaGreatCK1
set_option linter.unusedVariables false
set_option linter.unusedSimpArgs false
set_option maxHeartbeats 8000000
set_option maxRecDepth 100000
namespace Go.Proofs.YtoehlaeaafalmaaGreat
open Go.RowKit
open Jn Vn Ky
attribute [local go_sem] Oper.semAt_some
abbrev Kx:=Value × KEn
def kxC (x:Kx):List Value:=[.int .i64 (x.2.set:Nat),.int .i64 (x.2.kind:Nat),x.1,.int .i64 (x.2.lim:Nat),.int .i64 (x.2.tries:Nat)]
def kxsC (xs:List Kx):List Value:=xs.flatMap kxC
def kes (xs:List Kx):List KEn:=xs.map (·.2)
structure KSl (w:World) (v:Value) (xs:List Kx):Prop where
 sl:Sl w v 111 5 xs.length (kxsC xs)
 data:∀ x ∈ xs,DSl w x.1 x.2.val
theorem KSl.fresh {w w':World} {v:Value} {xs:List Kx} (h:KSl w v xs) (hm:Mod Nowhere w w'):KSl w' v xs:=⟨h.sl.mod hm (fun _ _ e=>e),fun x hx=>(h.data x hx).fresh hm⟩
theorem KSl.mod {S:Nat→Prop} {w w':World} {v:Value} {xs:List Kx} (h:KSl w v xs) (hm:Mod S w w') (hI:Shun S w 111) (hS:Shun S w 5):KSl w' v xs:=⟨h.sl.mod hm (h.sl.off hI),fun x hx=>DSl.mod (h.data x hx) hm hS⟩
theorem ZP (x:Kx):(kxC x).length = 5:=rfl
theorem Zhk (xs ys:List Kx):kxsC (xs ++ ys) = kxsC xs ++ kxsC ys:=by simp [kxsC]
theorem Zct:∀ (xs:List Kx) (i:Nat) (h:i < xs.length) (j:Nat),j < 5→(kxsC xs).getD (i * 5 + j) default = (kxC xs[i]).getD j default
 | x :: xs,0,_,j,hj=>by
  rw [Nat.zero_mul,Nat.zero_add]
  show (kxC x ++ kxsC xs).getD j default = _
  rw [gd0,List.getElem?_append_left (by rw [ZP];exact hj),← gd0]
  rfl
 | x :: xs,i + 1,h,j,hj=>by
  have ih:=Zct xs i (by simpa using h) j hj
  show (kxC x ++ kxsC xs).getD ((i + 1) * 5 + j) default = _
  rw [gd0,List.getElem?_append_right (by rw [ZP];omega),← gd0,ZP,show (i + 1) * 5 + j - 5 = i * 5 + j by omega];exact ih
def RL (w:World) (va:Option Addr) (vc:Nat) (L:List KEn):Prop:=∃ xs,KSl w (.slice va L.length vc) xs∧kes xs = L
section
variable {w w' : World} {va : Option Addr} {vc : Nat} {L : List KEn}
theorem RL.fresh (h:RL w va vc L) (hm:Mod Nowhere w w'):RL w' va vc L:=by
 obtain ⟨xs,h1,h2⟩:=h;exact ⟨xs,h1.fresh hm,h2⟩
theorem RL.mod {S:Nat→Prop} (h:RL w va vc L) (hm:Mod S w w') (hI:Shun S w 111) (hS:Shun S w 5):RL w' va vc L:=by
 obtain ⟨xs,h1,h2⟩:=h;exact ⟨xs,h1.mod hm hI hS,h2⟩
theorem RL.nil (w:World):RL w none 0 []:=⟨[],⟨Sl.nil _ _ _,fun x hx=>(List.not_mem_nil hx).elim⟩,rfl⟩
theorem RL.len0 (h:RL w va vc L):L.length≤vc∧vc≤maxLen:=by
 obtain ⟨xs,h1,h2⟩:=h;have hl:xs.length = L.length:=by rw [← h2,kes,List.length_map]
 obtain ⟨a,c,e,g1,g2,-⟩:=h1.sl.gen;simp at e;rw [hl] at g1;obtain ⟨-,-,rfl⟩:=e;exact ⟨g1,g2⟩
theorem RL.at_ (h:RL w va vc L) {k:Nat} (hk:k < L.length):∃ b off a c,va = some ⟨b,off,none⟩∧b < w.heap.size∧∀ X,Mod Nowhere w X →
  b < X.heap.size∧X.cell? ⟨b,off + k * 5,none⟩ = some (.int .i64 (L[k].set:Nat))∧X.cell? ⟨b,off + k * 5 + 1,none⟩ = some (.int .i64 (L[k].kind:Nat))∧X.cell? ⟨b,off + k * 5 + 2,none⟩ = some (.slice a L[k].val.length c) ∧
  X.cell? ⟨b,off + k * 5 + 3,none⟩ = some (.int .i64 (L[k].lim:Nat))∧X.cell? ⟨b,off + k * 5 + 4,none⟩ = some (.int .i64 (L[k].tries:Nat))∧DSl X (.slice a L[k].val.length c) L[k].val:=by
 obtain ⟨xs,h1,h2⟩:=h;have hl:xs.length = L.length:=by rw [← h2,kes,List.length_map]
 have hkx:k < xs.length:=by omega
 have hxe:xs[k].2 = L[k]:=by
  have h3:(kes xs)[k]? = some xs[k].2:=by unfold kes;rw [List.getElem?_map,List.getElem?_eq_getElem hkx];rfl
  rw [h2,List.getElem?_eq_getElem hk] at h3;simpa using h3.symm
 obtain ⟨b,off,cap,e,hb,g1,g2,hc,-⟩:=h1.sl.open (by omega);simp at e;obtain ⟨rfl,-,rfl⟩:=e;have hd:=h1.data xs[k] (List.getElem_mem hkx);obtain ⟨a,c,e1,-⟩:=Sl.len hd;rw [e1,hxe] at hd;rw [hxe] at e1;refine ⟨b,off,a,c,rfl,hb,fun X hm=>?_⟩
 have cc:∀ j,j < 5→X.cell? ⟨b,off + k * 5 + j,none⟩ = some ((kxC xs[k]).getD j default):=fun j hj=>by
  rw [Nat.add_assoc,hm.cell (p:=⟨b,off + (k * 5 + j),none⟩) hb id,hc (k * 5 + j) (by omega),Zct xs k hkx j hj]
 have hkc:kxC xs[k] = [.int .i64 (L[k].set:Nat),.int .i64 (L[k].kind:Nat),.slice a L[k].val.length c,.int .i64 (L[k].lim:Nat),.int .i64 (L[k].tries:Nat)]:=by unfold kxC;rw [hxe,e1]
 rw [hkc] at cc;exact ⟨Nat.lt_of_lt_of_le hb hm.size,cc 0 (by omega),cc 1 (by omega),cc 2 (by omega),cc 3 (by omega),cc 4 (by omega),hd.fresh hm⟩
end
theorem Xa:(Tryz.prog.info? 111).map (fun i=>(i.zero,i.size,i.bytes)) = some (some (.agg #[.int .i64 0,.int .i64 0,.slice none 0 0,.int .i64 0,.int .i64 0]),5,56):=by kernel_rfl
structure KOwn (w:World) (B:Nat) (va:Option Addr) (n vcap:Nat) (ys:List Kx):Prop where
 len:n = ys.length
 own:w.ownsRow B 111 5 (.slice va n vcap) n (kxsC ys)
 data:∀ y ∈ ys,DSl w y.1 y.2.val
theorem KOwn.ksl {w:World} {B:Nat} {va:Option Addr} {n vcap:Nat} {ys:List Kx} (h:KOwn w B va n vcap ys):KSl w (.slice va n vcap) ys:=by
 obtain ⟨h1,h2,h3⟩:=h;subst h1;exact ⟨Sl.of_owns h2,h3⟩
theorem KOwn.rl {w:World} {B:Nat} {va:Option Addr} {n vcap:Nat} {ys:List Kx} (h:KOwn w B va n vcap ys):RL w va vcap (kes ys):=by
 have hn:(kes ys).length = n:=by rw [h.len,kes,List.length_map]
 exact ⟨ys,by rw [hn];exact h.ksl,rfl⟩
theorem KOwn.fresh {w w':World} {B:Nat} {va:Option Addr} {n vcap:Nat} {ys:List Kx} (h:KOwn w B va n vcap ys) (hm:Mod Nowhere w w'):KOwn w' B va n vcap ys :=
 ⟨h.len,Zb h.own hm (fun _ _ e=>e),fun y hy=>(h.data y hy).fresh hm⟩
theorem KOwn.nil (w:World) (B:Nat):KOwn w B none 0 0 []:=⟨rfl,World.ownsRow_nil _ _ _ _,fun y hy=>(List.not_mem_nil hy).elim⟩
theorem kone {W:World} {zs:List Kx} (h:∀ x ∈ zs,DSl W x.1 x.2.val):∀ u ∈ kxsC zs,u.oneCell' = true:=by
 intro u hu;unfold kxsC at hu;obtain ⟨x,hx,hu⟩:=List.mem_flatMap.1 hu;obtain ⟨a1,c1,e1,-⟩:=Sl.len (h x hx);unfold kxC at hu;rw [e1] at hu;simp only [List.mem_cons,List.not_mem_nil,or_false] at hu;rcases hu with rfl | rfl | rfl | rfl | rfl <;> rfl
theorem X9 {w:World} {base sz n:Nat} {T U:TypeId} {v:Value} {xs:List Value} (h:w.ownsRow base T sz v n xs) (hU:U ≠ T):Shun (Own1 v) w U:=fun k hk cs hb=>by
 obtain ⟨cs',hb'⟩:=Own1.blk h k hk;exact hU (hb.inj hb').2
theorem Ja {W:World} {B:Nat} {zs:List Kx} {ua:Option Addr} {uc:Nat} (hz:zs.length ≠ 0→KSl W (.slice ua zs.length uc) zs) {va:Option Addr} {n vcap:Nat} {ys:List Kx} (ho:KOwn W B va n vcap ys) (hB:B≤W.heap.size) (hL:n + zs.length≤100000) :
  ∃ (va':Option Addr) (vcap':Nat) (W2:World),
   (Builtin.append_ #[30,30] 30 #[.slice va n vcap,.slice ua zs.length uc]).run Tryz.prog W = .ok (.slice va' (n + zs.length) vcap') W2 ∧
   KOwn W2 B va' (n + zs.length) vcap' (ys ++ zs)∧Mod (Own1 (.slice va n vcap)) W W2:=by
 obtain ⟨i0,hi0,hz0,hz1,hz2⟩:=info_parts Xa;by_cases h0:zs.length = 0
 ·have hy:zs = []:=List.eq_nil_of_length_eq_zero h0;subst hy
  have hc:n≤vcap:=by
   obtain ⟨a,c,e,hc⟩:=Zf ho.own;simp at e;rw [e.2];exact hc
  exact ⟨va,vcap,W,YL (P:=Tryz.prog) W 30 30 111 i0 Tryz.underlying30 hi0 va ua n vcap uc hc,by rw [List.append_nil];exact ho,Mod.refl _ _⟩
 ·replace hz:=hz h0;obtain ⟨b,off,cap,e0,hb,h1,h2,hc,hlast⟩:=hz.sl.open (by omega);simp at e0;obtain ⟨rfl,rfl⟩:=e0;have hxl:(kxsC zs).length = zs.length * 5:=hz.sl.1
  have hnews:∀ j u,(kxsC zs)[j]? = some u→W.cell? ((⟨b,off,none⟩:Addr).add j) = some u:=fun j u hj=>by
   have hjl:=(List.getElem?_eq_some_iff.1 hj).1;rw [add_lit,hc j (by omega),gd0,hj];rfl
  obtain ⟨g,gc,w',hr,ho',hg,_,_⟩:=run_append_lies (P:=Tryz.prog) W 30 30 B 111 i0 _ 5 56 Tryz.underlying30 hi0 hz0 hz1 hz2 rfl (by decide) (.slice va n vcap) n (kxsC ys) ho.own ⟨b,off,none⟩ zs.length _ (kxsC zs) hxl hnews (kone hz.data) (by omega) (by unfold maxLen;omega) (by omega) hB _ rfl;have b1:=Mod.own1 hg;have hsh:=X9 ho.own (U:=5) (by decide);refine ⟨_,gc,w',hr,⟨by rw [List.length_append,← ho.len],by rw [Zhk];exact ho',fun y hy=>?_⟩,b1⟩;rcases List.mem_append.1 hy with e' | e'
  ·exact DSl.mod (ho.data y e') b1 hsh
  ·exact DSl.mod (hz.data y e') b1 hsh
theorem k_put {W:World} {B:Nat} {x:Kx} (hx:DSl W x.1 x.2.val) {va:Option Addr} {n vcap:Nat} {ys:List Kx} (ho:KOwn W B va n vcap ys) (hB:B≤W.heap.size) (hL:n≤99999) :
  ∃ (va':Option Addr) (vcap':Nat) (W2:World),
   (Builtin.append_ #[30,30] 30 #[.slice va n vcap,.slice (some ⟨W.heap.size,0,none⟩) 1 1]).run Tryz.prog (W.alloc (.cells (kxC x).toArray 111)) = .ok (.slice va' (n + 1) vcap') W2 ∧
   KOwn W2 B va' (n + 1) vcap' (ys ++ [x])∧Mod (Own1 (.slice va n vcap)) W W2:=by
 have hm2:Mod Nowhere W (W.alloc (.cells (kxC x).toArray 111)):=(Mod.refl _ W).alloc _;have hcb:=Blk.new W (kxC x) 111
 have hk:KSl (W.alloc (.cells (kxC x).toArray 111)) (.slice (some ⟨W.heap.size,0,none⟩) 1 1) [x]:=⟨by
  have e:kxsC [x] = kxC x:=by simp [kxsC]
  rw [e]
  exact ZZ (sz:=5) (n:=1) hcb rfl (by decide),fun y hy=>by
  rw [List.mem_singleton.1 hy]
  exact DSl.fresh hx hm2⟩
 obtain ⟨va',vc',W2,h1,h2,h3⟩:=Ja (zs:=[x]) (fun _=>hk) (ho.fresh hm2) (Nat.le_trans hB hm2.size) (show n + 1≤100000 by omega);exact ⟨va',vc',W2,h1,h2,(hm2.nowhere (S:=Own1 (.slice va n vcap))).trans h3⟩
theorem Zcu (p:KEn→Bool):∀ (l:List KEn) (j:Nat) (h:j < l.length),j < (l.takeWhile p).length→p l[j] = true
 | a :: l,j,h,hj=>by
  rw [List.takeWhile_cons] at hj
  split at hj
  ·rename_i ha
   match j with
   | 0=>exact ha
   | j + 1=>exact Zcu p l j (by simpa using h) (by simpa using hj)
  ·simp at hj
theorem tw_at (p:KEn→Bool):∀ (l:List KEn) (h:(l.takeWhile p).length < l.length),p l[(l.takeWhile p).length] = false
 | a :: l,h=>by
  by_cases ha:p a = true
  ·have e:(a :: l).takeWhile p = a :: l.takeWhile p:=by rw [List.takeWhile_cons,if_pos ha]
   have h':(l.takeWhile p).length < l.length:=by rw [e] at h;simpa using h
   have:=tw_at p l h';simp only [e,List.length_cons,List.getElem_cons_succ];exact this
  ·have e:(a :: l).takeWhile p = []:=by rw [List.takeWhile_cons,if_neg ha]
   simp only [e,List.length_nil,List.getElem_cons_zero];simpa using ha
theorem Zcv {l:List KEn} {s k:Int} (h:rIdx l s k = l.length):rHit l s k = false:=by
 unfold rHit;rw [h,List.getElem?_eq_none (Nat.le_refl _)]
theorem Zhl {l:List KEn} {s k:Int} (h:rIdx l s k < l.length):rHit l s k = isK s k l[rIdx l s k]:=by
 unfold rHit;rw [List.getElem?_eq_getElem h]
section
variable {w : World} {va : Option Addr} {vc : Nat} {L : List KEn}
theorem Xb (h:RL w va vc L) (hlen:L.length≤1000) (st kd:Int) :
  Calls Tryz.prog 55 #[.agg #[.slice va L.length vc],.int .i64 st,.int .i64 kd] w fun e w'=>e = .returned (.tuple #[.int .i64 (rIdx L st kd:Nat),.bool (rHit L st kd)])∧Mod Nowhere w w':=by
 obtain ⟨l1,l2⟩:=h.len0;unfold maxLen at l2;have hil:=ZY L st kd;obtain ⟨ri,hri⟩:∃ ri,rIdx L st kd = ri:=⟨_,rfl⟩;obtain ⟨rh,hrh⟩:∃ rh,rHit L st kd = rh:=⟨_,rfl⟩;obtain ⟨n,hn⟩:∃ n,L.length = n:=⟨_,rfl⟩;rw [hri,hrh,hn];rw [hn] at l1 hlen;rw [hri,hn] at hil;have hbx0:=Blk.new w [.slice va n vc] 32;have hm0:Mod Nowhere w (w.alloc (.cells #[.slice va n vc] 32)):=(Mod.refl _ w).alloc _;have y0:=hbx0.cell 0;have yl:=hbx0.lt;simp only [gz0] at y0;refine hid6 ?_ h hm0 hri hrh hn hbx0;clear h hm0 hri hrh hn hbx0;intro h hm0 hri hrh hn hbx0;go_enter Tryz.func55,Tryz.ntmps55
 go_wp2
 go_loopw [8] (fun i wr=>∃ k:Nat,k≤ri∧i = .int .i64 k∧Mod Nowhere w wr∧Blk wr w.heap.size [.slice va n vc] 32) (fun i _=>n - (intOf i).toNat)
 case atStart=>exact ⟨0,by omega,rfl,hm0.out,hbx0.out⟩
 case round =>
  obtain ⟨k,hk,rfl,hm,hbr⟩:=hrel;clear y0 yl;have hbx:∀ W,Mod Nowhere wr W→Blk W w.heap.size [.slice va n vc] 32:=fun W hm=>hbr.mod hm id;have y0:=hbr.cell 0;have yl:=hbr.lt;simp only [gz0] at y0;by_cases hkn:k < n
  ·have hki:(k:Int) < (n:Int):=by omega
   have hkl:k < L.length:=by rw [hn.out];exact hkn
   obtain ⟨b,off,a,c,rfl,-,hX⟩:=h.out.at_ hkl;obtain ⟨zl,z0,z1,z2,z3,z4,-⟩:=hX wr hm;have hB:k < ri→isB st kd L[k] = true:=fun h1=>Zcu _ L k hkl (by rw [← hri.out] at h1;exact h1)
   have hA:k = ri→isB st kd L[k] = false∧rh = isK st kd L[k]:=fun h1=>by
    have h2:=hri.out;have h3:=hrh.out;rw [← h1] at h2;subst h2;exact ⟨tw_at _ L hkl,by rw [← h3];exact Zhl hkl⟩
   have hat:∀ W,Mod Nowhere w W→b < W.heap.size∧W.cell? ⟨b,off + k * 5,none⟩ = some (.int .i64 (L[k].set:Nat))∧W.cell? ⟨b,off + k * 5 + 1,none⟩ = some (.int .i64 (L[k].kind:Nat)):=fun W hW=>by
    obtain ⟨q1,q2,q3,-⟩:=hX W hW;exact ⟨q1,q2,q3⟩
   clear hX z2 z3 z4;unfold isB isK at hA;unfold isB at hB;generalize L[k].set = es at *;generalize L[k].kind = ek at *;clear hkl;rcases Nat.lt_or_eq_of_le hk with hlt | heq
   ·have hB:=hB hlt;rw [Bool.or_eq_true,Bool.and_eq_true,decide_eq_true_eq,decide_eq_true_eq,decide_eq_true_eq] at hB;by_cases h1:(es:Int) < st
    ·refine hid5 ?_ hm hbr hbx hat hA;clear hm hbr hbx hat hA;intro hm hbr hbx hat hA;go_wp2;go_roundw
     case rel=>exact ⟨k + 1,by omega,by go_num,hm.out,hbr.out⟩
     case measure=>simp [intOf];omega
    ·have h2:(es:Int) = st:=by omega
     have h3:(ek:Int) < kd:=by omega
     refine hid5 ?_ hm hbr hbx hat hA;clear hm hbr hbx hat hA;intro hm hbr hbx hat hA;go_wp2;go_roundw
     case rel=>exact ⟨k + 1,by omega,by go_num,hm.out,hbr.out⟩
     case measure=>simp [intOf];omega
   ·obtain ⟨hA1,hA2⟩:=hA heq;rw [Bool.or_eq_false_iff,Bool.and_eq_false_iff,decide_eq_false_iff_not,decide_eq_false_iff_not,decide_eq_false_iff_not] at hA1;obtain ⟨h1,h2⟩:=hA1;by_cases h3:(es:Int) = st
    ·have h4:¬ (ek:Int) < kd:=by omega
     obtain ⟨R,hR0⟩:∃ R,((ek:Int) == kd) = R:=⟨_,rfl⟩;have hres:rh = R:=by rw [hA2,decide_eq_true h3,Bool.true_and,← hR0,Bool.eq_iff_iff,decide_eq_true_eq,beq_iff_eq]
     subst heq;subst h3;clear hA2 h2 hB;refine hid5 ?_ hm hbr hbx hat hres;clear hm hbr hbx hat hres;intro hm hbr hbx hat hres;go_wp2_with fail;refine Zo (fun i v w'=>match i with | 0=>(v = .int .i64 (k:Nat)) | 1=>(v = .int .i64 (k:Nat)) | 2=>(v = .pointer (some ⟨w.heap.size,0,none⟩)) | 3=>(v = .slice (some ⟨b,off,none⟩) n vc) | 4=>(v = .int .i64 (n:Nat)) | 5=>(v = .bool true) | 6=>(v = .bool true) | 7=>(v = .pointer (some ⟨w.heap.size,0,none⟩)) | 8=>(v = .slice (some ⟨b,off,none⟩) n vc) | 9=>(v = .int .i64 (k:Nat)) | 10=>(v = .pointer (some ⟨b,off + k * 5,none⟩)) | 11=>(v = .pointer (some ⟨b,off + k * 5,none⟩)) | 12=>(v = .pointer (some ⟨b,off + k * 5,none⟩)) | 13=>(v = .int .i64 (es:Nat)) | 14=>(v = .int .i64 (es:Nat)) | 15=>(v = .bool true) | 16=>(v = .bool true) | 17=>(v = .bool true) | 18=>(v = .pointer (some ⟨w.heap.size,0,none⟩)) | 19=>(v = .slice (some ⟨b,off,none⟩) n vc) | 20=>(v = .int .i64 (k:Nat)) | 21=>(v = .pointer (some ⟨b,off + k * 5,none⟩)) | 22=>(v = .pointer (some ⟨b,off + k * 5,none⟩)) | 23=>(v = .pointer (some ⟨b,off + k * 5 + 1,none⟩)) | 24=>(v = .int .i64 (ek:Nat)) | 25=>(v = .int .i64 kd) | 26=>(v = .bool R) | 27=>(v = .bool R) | 28=>(v = .int .i64 (k:Nat)) | 29=>(v = .bool R) | _=>True) ?A_ (by first | assumption | kernel_rfl) (by kernel_rfl) (by kernel_rfl) ?hA_ ?hS_ ?hE_
     case hA_=>intro xs;simp [putAll,List.range,List.range.loop,Act.put] <;> rfl
     case hS_ =>
      refine ⟨?_,?_,?_,?_,?_,?_,?_,?_,?_,?_,?_,?_,?_,?_,?_,?_,?_,?_,?_,?_,?_,?_,?_,?_,?_,?_,?_,?_,?_,?_,trivial⟩
      ·-- 0: t49:=move(t8)
       intro yv w' hR hF K hK;clear hF
       go_simp
       exact hK _ _ (fun _ _=>by first | trivial | rfl | simp [*]) (Mod.refl _ _)
      ·-- 1: t50:=move(t8)
       intro yv w' hR hF K hK;clear hF
       go_simp
       exact hK _ _ (fun _ _=>by first | trivial | rfl | simp [*]) (Mod.refl _ _)
      ·-- 2: t51:=fieldAddr(32,t3,0)
       intro yv w' hR hF K hK;clear hF
       go_simp
       exact hK _ _ (fun _ _=>by first | trivial | rfl | simp [*]) (Mod.refl _ _)
      ·-- 3: t52:=load(30,t51)
       intro yv w' hR hF K hK;have f2:(yv 2) = .pointer (some ⟨w.heap.size,0,none⟩):=hF 2 (by kernel_rfl) w' (Mod.refl _ _);clear hF;generalize yv 2 = y2 at *;subst f2;have b2:=hbx.out w' ((Mod.refl Nowhere wr).drew.trans hR);have y0:=b2.cell 0;have yl:=b2.lt;simp only [gz0] at y0;clear b2
       go_simp
       exact hK _ _ (fun _ _=>rfl) (Mod.refl _ _)
      ·-- 4: t53:=CALL builtin(Builtin.len)(t52)
       intro yv w' hR hF K hK;have f3:(yv 3) = .slice (some ⟨b,off,none⟩) n vc:=hF 3 (by kernel_rfl) w' (Mod.refl _ _);clear hF;generalize yv 3 = y3 at *;subst f3
       go_simp
       exact hK _ _ (fun _ _=>by first | trivial | rfl | simp [*]) (Mod.refl _ _)
      ·-- 5: t54:=binOp(lss,3,t50,t53,3)
       intro yv w' hR hF K hK;have f1:(yv 1) = .int .i64 (k:Nat):=hF 1 (by kernel_rfl) w' (Mod.refl _ _);have f4:(yv 4) = .int .i64 (n:Nat):=hF 4 (by kernel_rfl) w' (Mod.refl _ _);clear hF;generalize yv 1 = y1 at *;subst f1;generalize yv 4 = y4 at *;subst f4
       go_simp
       exact hK _ _ (fun _ _=>by first | trivial | rfl | simp [*]) (Mod.refl _ _)
      ·-- 6: t55:=move(t54)
       intro yv w' hR hF K hK;have f5:(yv 5) = .bool true:=hF 5 (by kernel_rfl) w' (Mod.refl _ _);clear hF;generalize yv 5 = y5 at *;subst f5
       go_simp
       exact hK _ _ (fun _ _=>by first | trivial | rfl | simp [*]) (Mod.refl _ _)
      ·-- 7: t56:=fieldAddr(32,t3,0)   [guard (6,true)]
       intro yv w' hR hF K hK;have f6:(yv 6) = .bool true:=hF 6 (by kernel_rfl) w' (Mod.refl _ _);clear hF;generalize yv 6 = y6 at *;subst f6
       go_simp
       exact hK _ _ (fun _ _=>by first | trivial | rfl | simp [*]) (Mod.refl _ _)
      ·-- 8: t57:=load(30,t56)   [guard (6,true)]
       intro yv w' hR hF K hK;have f7:(yv 7) = .pointer (some ⟨w.heap.size,0,none⟩):=hF 7 (by kernel_rfl) w' (Mod.refl _ _);have f6:(yv 6) = .bool true:=hF 6 (by kernel_rfl) w' (Mod.refl _ _);clear hF;generalize yv 7 = y7 at *;subst f7;generalize yv 6 = y6 at *;subst f6;have b2:=hbx.out w' ((Mod.refl Nowhere wr).drew.trans hR);have y0:=b2.cell 0;have yl:=b2.lt;simp only [gz0] at y0;clear b2
       go_simp
       exact hK _ _ (fun _ _=>rfl) (Mod.refl _ _)
      ·-- 9: t58:=move(t8)   [guard (6,true)]
       intro yv w' hR hF K hK;have f6:(yv 6) = .bool true:=hF 6 (by kernel_rfl) w' (Mod.refl _ _);clear hF;generalize yv 6 = y6 at *;subst f6
       go_simp
       exact hK _ _ (fun _ _=>by first | trivial | rfl | simp [*]) (Mod.refl _ _)
      ·-- 10: t59:=indexAddr(30,t57,t58)   [guard (6,true)]
       intro yv w' hR hF K hK;have f8:(yv 8) = .slice (some ⟨b,off,none⟩) n vc:=hF 8 (by kernel_rfl) w' (Mod.refl _ _);have f9:(yv 9) = .int .i64 (k:Nat):=hF 9 (by kernel_rfl) w' (Mod.refl _ _);have f6:(yv 6) = .bool true:=hF 6 (by kernel_rfl) w' (Mod.refl _ _);clear hF;generalize yv 8 = y8 at *;subst f8;generalize yv 9 = y9 at *;subst f9;generalize yv 6 = y6 at *;subst f6
       go_simp
       exact hK _ _ (fun _ _=>by first | trivial | rfl | simp [*]) (Mod.refl _ _)
      ·-- 11: t60:=fieldAddr(111,t59,0)   [guard (6,true)]
       intro yv w' hR hF K hK;have f10:(yv 10) = .pointer (some ⟨b,off + k * 5,none⟩):=hF 10 (by kernel_rfl) w' (Mod.refl _ _);have f6:(yv 6) = .bool true:=hF 6 (by kernel_rfl) w' (Mod.refl _ _);clear hF;generalize yv 10 = y10 at *;subst f10;generalize yv 6 = y6 at *;subst f6
       go_simp
       exact hK _ _ (fun _ _=>by first | trivial | rfl | simp [*]) (Mod.refl _ _)
      ·-- 12: t61:=fieldAddr(39,t60,0)   [guard (6,true)]
       intro yv w' hR hF K hK;have f11:(yv 11) = .pointer (some ⟨b,off + k * 5,none⟩):=hF 11 (by kernel_rfl) w' (Mod.refl _ _);have f6:(yv 6) = .bool true:=hF 6 (by kernel_rfl) w' (Mod.refl _ _);clear hF;generalize yv 11 = y11 at *;subst f11;generalize yv 6 = y6 at *;subst f6
       go_simp
       exact hK _ _ (fun _ _=>by first | trivial | rfl | simp [*]) (Mod.refl _ _)
      ·-- 13: t62:=load(3,t61)   [guard (6,true)]
       intro yv w' hR hF K hK;have f12:(yv 12) = .pointer (some ⟨b,off + k * 5,none⟩):=hF 12 (by kernel_rfl) w' (Mod.refl _ _);have f6:(yv 6) = .bool true:=hF 6 (by kernel_rfl) w' (Mod.refl _ _);clear hF;generalize yv 12 = y12 at *;subst f12;generalize yv 6 = y6 at *;subst f6;obtain ⟨zl,z0,z1⟩:=hat.out w' (hm.out.trans ((Mod.refl Nowhere wr).drew.trans hR))
       go_simp
       exact hK _ _ (fun _ _=>rfl) (Mod.refl _ _)
      ·-- 14: t63:=move(t1)   [guard (6,true)]
       intro yv w' hR hF K hK;have f6:(yv 6) = .bool true:=hF 6 (by kernel_rfl) w' (Mod.refl _ _);clear hF;generalize yv 6 = y6 at *;subst f6
       go_simp
       exact hK _ _ (fun _ _=>by first | trivial | rfl | simp [*]) (Mod.refl _ _)
      ·-- 15: t64:=binOp(eql,3,t62,t63,3)   [guard (6,true)]
       intro yv w' hR hF K hK;have f13:(yv 13) = .int .i64 (es:Nat):=hF 13 (by kernel_rfl) w' (Mod.refl _ _);have f14:(yv 14) = .int .i64 (es:Nat):=hF 14 (by kernel_rfl) w' (Mod.refl _ _);have f6:(yv 6) = .bool true:=hF 6 (by kernel_rfl) w' (Mod.refl _ _);clear hF;generalize yv 13 = y13 at *;subst f13;generalize yv 14 = y14 at *;subst f14;generalize yv 6 = y6 at *;subst f6
       go_simp
       exact hK _ _ (fun _ _=>by first | trivial | rfl | simp [*]) (Mod.refl _ _)
      ·-- 16: t65:=pick(t55,t64,const(Value.bool(false)))
       intro yv w' hR hF K hK;have f6:(yv 6) = .bool true:=hF 6 (by kernel_rfl) w' (Mod.refl _ _);have f15:(yv 15) = .bool true:=hF 15 (by kernel_rfl) w' (Mod.refl _ _);clear hF;generalize yv 6 = y6 at *;subst f6;generalize yv 15 = y15 at *;subst f15
       go_simp
       exact hK _ _ (fun _ _=>by first | trivial | rfl | simp [*]) (Mod.refl _ _)
      ·-- 17: t66:=move(t65)
       intro yv w' hR hF K hK;have f16:(yv 16) = .bool true:=hF 16 (by kernel_rfl) w' (Mod.refl _ _);have f6:(yv 6) = .bool true:=hF 6 (by kernel_rfl) w' (Mod.refl _ _);clear hF;generalize yv 16 = y16 at *;subst f16;generalize yv 6 = y6 at *;subst f6
       go_simp
       exact hK _ _ (fun _ _=>by first | trivial | rfl | simp [*]) (Mod.refl _ _)
      ·-- 18: t67:=fieldAddr(32,t3,0)   [guard (17,true)]
       intro yv w' hR hF K hK;have f17:(yv 17) = .bool true:=hF 17 (by kernel_rfl) w' (Mod.refl _ _);clear hF;generalize yv 17 = y17 at *;subst f17
       go_simp
       exact hK _ _ (fun _ _=>by first | trivial | rfl | simp [*]) (Mod.refl _ _)
      ·-- 19: t68:=load(30,t67)   [guard (17,true)]
       intro yv w' hR hF K hK;have f18:(yv 18) = .pointer (some ⟨w.heap.size,0,none⟩):=hF 18 (by kernel_rfl) w' (Mod.refl _ _);have f17:(yv 17) = .bool true:=hF 17 (by kernel_rfl) w' (Mod.refl _ _);clear hF;generalize yv 18 = y18 at *;subst f18;generalize yv 17 = y17 at *;subst f17;have b2:=hbx.out w' ((Mod.refl Nowhere wr).drew.trans hR);have y0:=b2.cell 0;have yl:=b2.lt;simp only [gz0] at y0;clear b2
       go_simp
       exact hK _ _ (fun _ _=>rfl) (Mod.refl _ _)
      ·-- 20: t69:=move(t8)   [guard (17,true)]
       intro yv w' hR hF K hK;have f17:(yv 17) = .bool true:=hF 17 (by kernel_rfl) w' (Mod.refl _ _);clear hF;generalize yv 17 = y17 at *;subst f17
       go_simp
       exact hK _ _ (fun _ _=>by first | trivial | rfl | simp [*]) (Mod.refl _ _)
      ·-- 21: t70:=indexAddr(30,t68,t69)   [guard (17,true)]
       intro yv w' hR hF K hK;have f19:(yv 19) = .slice (some ⟨b,off,none⟩) n vc:=hF 19 (by kernel_rfl) w' (Mod.refl _ _);have f20:(yv 20) = .int .i64 (k:Nat):=hF 20 (by kernel_rfl) w' (Mod.refl _ _);have f17:(yv 17) = .bool true:=hF 17 (by kernel_rfl) w' (Mod.refl _ _);clear hF;generalize yv 19 = y19 at *;subst f19;generalize yv 20 = y20 at *;subst f20;generalize yv 17 = y17 at *;subst f17
       go_simp
       exact hK _ _ (fun _ _=>by first | trivial | rfl | simp [*]) (Mod.refl _ _)
      ·-- 22: t71:=fieldAddr(111,t70,0)   [guard (17,true)]
       intro yv w' hR hF K hK;have f21:(yv 21) = .pointer (some ⟨b,off + k * 5,none⟩):=hF 21 (by kernel_rfl) w' (Mod.refl _ _);have f17:(yv 17) = .bool true:=hF 17 (by kernel_rfl) w' (Mod.refl _ _);clear hF;generalize yv 21 = y21 at *;subst f21;generalize yv 17 = y17 at *;subst f17
       go_simp
       exact hK _ _ (fun _ _=>by first | trivial | rfl | simp [*]) (Mod.refl _ _)
      ·-- 23: t72:=fieldAddr(39,t71,1)   [guard (17,true)]
       intro yv w' hR hF K hK;have f22:(yv 22) = .pointer (some ⟨b,off + k * 5,none⟩):=hF 22 (by kernel_rfl) w' (Mod.refl _ _);have f17:(yv 17) = .bool true:=hF 17 (by kernel_rfl) w' (Mod.refl _ _);clear hF;generalize yv 22 = y22 at *;subst f22;generalize yv 17 = y17 at *;subst f17
       go_simp
       exact hK _ _ (fun _ _=>by first | trivial | rfl | simp [*]) (Mod.refl _ _)
      ·-- 24: t73:=load(3,t72)   [guard (17,true)]
       intro yv w' hR hF K hK;have f23:(yv 23) = .pointer (some ⟨b,off + k * 5 + 1,none⟩):=hF 23 (by kernel_rfl) w' (Mod.refl _ _);have f17:(yv 17) = .bool true:=hF 17 (by kernel_rfl) w' (Mod.refl _ _);clear hF;generalize yv 23 = y23 at *;subst f23;generalize yv 17 = y17 at *;subst f17;obtain ⟨zl,z0,z1⟩:=hat.out w' (hm.out.trans ((Mod.refl Nowhere wr).drew.trans hR))
       go_simp
       exact hK _ _ (fun _ _=>rfl) (Mod.refl _ _)
      ·-- 25: t74:=move(t2)   [guard (17,true)]
       intro yv w' hR hF K hK;have f17:(yv 17) = .bool true:=hF 17 (by kernel_rfl) w' (Mod.refl _ _);clear hF;generalize yv 17 = y17 at *;subst f17
       go_simp
       exact hK _ _ (fun _ _=>by first | trivial | rfl | simp [*]) (Mod.refl _ _)
      ·-- 26: t75:=binOp(eql,3,t73,t74,3)   [guard (17,true)]
       intro yv w' hR hF K hK;have f24:(yv 24) = .int .i64 (ek:Nat):=hF 24 (by kernel_rfl) w' (Mod.refl _ _);have f25:(yv 25) = .int .i64 kd:=hF 25 (by kernel_rfl) w' (Mod.refl _ _);have f17:(yv 17) = .bool true:=hF 17 (by kernel_rfl) w' (Mod.refl _ _);clear hF;generalize yv 24 = y24 at *;subst f24;generalize yv 25 = y25 at *;subst f25;generalize yv 17 = y17 at *;subst f17
       go_simp
       exact hK _ _ (fun _ _=>by first | trivial | rfl | simp [*]) (Mod.refl _ _)
      ·-- 27: t76:=pick(t66,t75,const(Value.bool(false)))
       intro yv w' hR hF K hK;have f17:(yv 17) = .bool true:=hF 17 (by kernel_rfl) w' (Mod.refl _ _);have f26:(yv 26) = .bool R:=hF 26 (by kernel_rfl) w' (Mod.refl _ _);clear hF;generalize yv 17 = y17 at *;subst f17;generalize yv 26 = y26 at *;subst f26
       go_simp
       exact hK _ _ (fun _ _=>by first | trivial | rfl | simp [*]) (Mod.refl _ _)
      ·-- 28: t6:=assign(t49)
       intro yv w' hR hF K hK;have f0:(yv 0) = .int .i64 (k:Nat):=hF 0 (by kernel_rfl) w' (Mod.refl _ _);have f17:(yv 17) = .bool true:=hF 17 (by kernel_rfl) w' (Mod.refl _ _);clear hF;generalize yv 0 = y0 at *;subst f0;generalize yv 17 = y17 at *;subst f17
       go_simp
       exact hK _ _ (fun _ _=>by first | trivial | rfl | simp [*]) (Mod.refl _ _)
      ·-- 29: t7:=assign(t76)
       intro yv w' hR hF K hK;have f27:(yv 27) = .bool R:=hF 27 (by kernel_rfl) w' (Mod.refl _ _);have f28:(yv 28) = .int .i64 (k:Nat):=hF 28 (by kernel_rfl) w' (Mod.refl _ _);have f0:(yv 0) = .int .i64 (k:Nat):=hF 0 (by kernel_rfl) w' (Mod.refl _ _);have f1:(yv 1) = .int .i64 (k:Nat):=hF 1 (by kernel_rfl) w' (Mod.refl _ _);have f2:(yv 2) = .pointer (some ⟨w.heap.size,0,none⟩):=hF 2 (by kernel_rfl) w' (Mod.refl _ _);have f3:(yv 3) = .slice (some ⟨b,off,none⟩) n vc:=hF 3 (by kernel_rfl) w' (Mod.refl _ _);have f4:(yv 4) = .int .i64 (n:Nat):=hF 4 (by kernel_rfl) w' (Mod.refl _ _);have f5:(yv 5) = .bool true:=hF 5 (by kernel_rfl) w' (Mod.refl _ _)
       have f6:(yv 6) = .bool true:=hF 6 (by kernel_rfl) w' (Mod.refl _ _);have f7:(yv 7) = .pointer (some ⟨w.heap.size,0,none⟩):=hF 7 (by kernel_rfl) w' (Mod.refl _ _);have f8:(yv 8) = .slice (some ⟨b,off,none⟩) n vc:=hF 8 (by kernel_rfl) w' (Mod.refl _ _);have f9:(yv 9) = .int .i64 (k:Nat):=hF 9 (by kernel_rfl) w' (Mod.refl _ _);have f10:(yv 10) = .pointer (some ⟨b,off + k * 5,none⟩):=hF 10 (by kernel_rfl) w' (Mod.refl _ _);have f11:(yv 11) = .pointer (some ⟨b,off + k * 5,none⟩):=hF 11 (by kernel_rfl) w' (Mod.refl _ _);have f12:(yv 12) = .pointer (some ⟨b,off + k * 5,none⟩):=hF 12 (by kernel_rfl) w' (Mod.refl _ _);have f13:(yv 13) = .int .i64 (es:Nat):=hF 13 (by kernel_rfl) w' (Mod.refl _ _)
       have f14:(yv 14) = .int .i64 (es:Nat):=hF 14 (by kernel_rfl) w' (Mod.refl _ _);have f15:(yv 15) = .bool true:=hF 15 (by kernel_rfl) w' (Mod.refl _ _);have f16:(yv 16) = .bool true:=hF 16 (by kernel_rfl) w' (Mod.refl _ _);have f17:(yv 17) = .bool true:=hF 17 (by kernel_rfl) w' (Mod.refl _ _);have f18:(yv 18) = .pointer (some ⟨w.heap.size,0,none⟩):=hF 18 (by kernel_rfl) w' (Mod.refl _ _);have f19:(yv 19) = .slice (some ⟨b,off,none⟩) n vc:=hF 19 (by kernel_rfl) w' (Mod.refl _ _);have f20:(yv 20) = .int .i64 (k:Nat):=hF 20 (by kernel_rfl) w' (Mod.refl _ _);have f21:(yv 21) = .pointer (some ⟨b,off + k * 5,none⟩):=hF 21 (by kernel_rfl) w' (Mod.refl _ _)
       have f22:(yv 22) = .pointer (some ⟨b,off + k * 5,none⟩):=hF 22 (by kernel_rfl) w' (Mod.refl _ _);have f23:(yv 23) = .pointer (some ⟨b,off + k * 5 + 1,none⟩):=hF 23 (by kernel_rfl) w' (Mod.refl _ _);have f24:(yv 24) = .int .i64 (ek:Nat):=hF 24 (by kernel_rfl) w' (Mod.refl _ _);have f25:(yv 25) = .int .i64 kd:=hF 25 (by kernel_rfl) w' (Mod.refl _ _);have f26:(yv 26) = .bool R:=hF 26 (by kernel_rfl) w' (Mod.refl _ _);clear hF;generalize yv 27 = y27 at *;subst f27;generalize yv 28 = y28 at *;subst f28;generalize yv 0 = y0 at *;subst f0;generalize yv 1 = y1 at *;subst f1
       generalize yv 2 = y2 at *;subst f2;generalize yv 3 = y3 at *;subst f3;generalize yv 4 = y4 at *;subst f4;generalize yv 5 = y5 at *;subst f5;generalize yv 6 = y6 at *;subst f6;generalize yv 7 = y7 at *;subst f7;generalize yv 8 = y8 at *;subst f8;generalize yv 9 = y9 at *;subst f9;generalize yv 10 = y10 at *;subst f10;generalize yv 11 = y11 at *;subst f11;generalize yv 12 = y12 at *;subst f12;generalize yv 13 = y13 at *;subst f13;generalize yv 14 = y14 at *;subst f14;generalize yv 15 = y15 at *;subst f15;generalize yv 16 = y16 at *;subst f16;generalize yv 17 = y17 at *;subst f17;generalize yv 18 = y18 at *
       subst f18;generalize yv 19 = y19 at *;subst f19;generalize yv 20 = y20 at *;subst f20;generalize yv 21 = y21 at *;subst f21;generalize yv 22 = y22 at *;subst f22;generalize yv 23 = y23 at *;subst f23;generalize yv 24 = y24 at *;subst f24;generalize yv 25 = y25 at *;subst f25;generalize yv 26 = y26 at *;subst f26
       go_simp
       exact hK _ _ (fun _ _=>by first | trivial | rfl | simp [*]) (Mod.refl _ _)
     case hE_ =>
      intro yv w' hR hF;have f0:(yv 0) = .int .i64 (k:Nat):=hF 0 (by simp) w' (Mod.refl _ _);have f1:(yv 1) = .int .i64 (k:Nat):=hF 1 (by simp) w' (Mod.refl _ _);have f2:(yv 2) = .pointer (some ⟨w.heap.size,0,none⟩):=hF 2 (by simp) w' (Mod.refl _ _);have f3:(yv 3) = .slice (some ⟨b,off,none⟩) n vc:=hF 3 (by simp) w' (Mod.refl _ _);have f4:(yv 4) = .int .i64 (n:Nat):=hF 4 (by simp) w' (Mod.refl _ _);have f5:(yv 5) = .bool true:=hF 5 (by simp) w' (Mod.refl _ _);have f6:(yv 6) = .bool true:=hF 6 (by simp) w' (Mod.refl _ _);have f7:(yv 7) = .pointer (some ⟨w.heap.size,0,none⟩):=hF 7 (by simp) w' (Mod.refl _ _);have f8:(yv 8) = .slice (some ⟨b,off,none⟩) n vc:=hF 8 (by simp) w' (Mod.refl _ _)
      have f9:(yv 9) = .int .i64 (k:Nat):=hF 9 (by simp) w' (Mod.refl _ _);have f10:(yv 10) = .pointer (some ⟨b,off + k * 5,none⟩):=hF 10 (by simp) w' (Mod.refl _ _);have f11:(yv 11) = .pointer (some ⟨b,off + k * 5,none⟩):=hF 11 (by simp) w' (Mod.refl _ _);have f12:(yv 12) = .pointer (some ⟨b,off + k * 5,none⟩):=hF 12 (by simp) w' (Mod.refl _ _);have f13:(yv 13) = .int .i64 (es:Nat):=hF 13 (by simp) w' (Mod.refl _ _);have f14:(yv 14) = .int .i64 (es:Nat):=hF 14 (by simp) w' (Mod.refl _ _);have f15:(yv 15) = .bool true:=hF 15 (by simp) w' (Mod.refl _ _);have f16:(yv 16) = .bool true:=hF 16 (by simp) w' (Mod.refl _ _);have f17:(yv 17) = .bool true:=hF 17 (by simp) w' (Mod.refl _ _)
      have f18:(yv 18) = .pointer (some ⟨w.heap.size,0,none⟩):=hF 18 (by simp) w' (Mod.refl _ _);have f19:(yv 19) = .slice (some ⟨b,off,none⟩) n vc:=hF 19 (by simp) w' (Mod.refl _ _);have f20:(yv 20) = .int .i64 (k:Nat):=hF 20 (by simp) w' (Mod.refl _ _);have f21:(yv 21) = .pointer (some ⟨b,off + k * 5,none⟩):=hF 21 (by simp) w' (Mod.refl _ _);have f22:(yv 22) = .pointer (some ⟨b,off + k * 5,none⟩):=hF 22 (by simp) w' (Mod.refl _ _);have f23:(yv 23) = .pointer (some ⟨b,off + k * 5 + 1,none⟩):=hF 23 (by simp) w' (Mod.refl _ _);have f24:(yv 24) = .int .i64 (ek:Nat):=hF 24 (by simp) w' (Mod.refl _ _);have f25:(yv 25) = .int .i64 kd:=hF 25 (by simp) w' (Mod.refl _ _)
      have f26:(yv 26) = .bool R:=hF 26 (by simp) w' (Mod.refl _ _);have f27:(yv 27) = .bool R:=hF 27 (by simp) w' (Mod.refl _ _);have f28:(yv 28) = .int .i64 (k:Nat):=hF 28 (by simp) w' (Mod.refl _ _);have f29:(yv 29) = .bool R:=hF 29 (by simp) w' (Mod.refl _ _);clear hF;generalize yv 0 = y0 at *;subst f0;generalize yv 1 = y1 at *;subst f1;generalize yv 2 = y2 at *;subst f2;generalize yv 3 = y3 at *;subst f3;generalize yv 4 = y4 at *;subst f4;generalize yv 5 = y5 at *;subst f5;generalize yv 6 = y6 at *;subst f6;generalize yv 7 = y7 at *;subst f7;generalize yv 8 = y8 at *;subst f8
      generalize yv 9 = y9 at *;subst f9;generalize yv 10 = y10 at *;subst f10;generalize yv 11 = y11 at *;subst f11;generalize yv 12 = y12 at *;subst f12;generalize yv 13 = y13 at *;subst f13;generalize yv 14 = y14 at *;subst f14;generalize yv 15 = y15 at *;subst f15;generalize yv 16 = y16 at *;subst f16;generalize yv 17 = y17 at *;subst f17;generalize yv 18 = y18 at *;subst f18;generalize yv 19 = y19 at *;subst f19;generalize yv 20 = y20 at *;subst f20;generalize yv 21 = y21 at *;subst f21;generalize yv 22 = y22 at *;subst f22;generalize yv 23 = y23 at *;subst f23;generalize yv 24 = y24 at *
      subst f24;generalize yv 25 = y25 at *;subst f25;generalize yv 26 = y26 at *;subst f26;generalize yv 27 = y27 at *;subst f27;generalize yv 28 = y28 at *;subst f28;generalize yv 29 = y29 at *;subst f29;have hm4:=hm.out.trans ((Mod.refl Nowhere wr).drew.trans hR);clear hR;replace hm4:=Lib.hid hm4;go_wp2
      go_ret2
      exact ⟨by rw [hres.out];rfl,hm4.out⟩
    ·have hres:rh = false:=by rw [hA2,decide_eq_false h3,Bool.false_and]
     subst heq;clear hA2 h2 hB hA;refine hid5 ?_ hm hbr hbx hat hres;clear hm hbr hbx hat hres;intro hm hbr hbx hat hres;go_wp2_with fail;refine Zo (fun i v w'=>match i with | 0=>(v = .int .i64 (k:Nat)) | 1=>(v = .int .i64 (k:Nat)) | 2=>(v = .pointer (some ⟨w.heap.size,0,none⟩)) | 3=>(v = .slice (some ⟨b,off,none⟩) n vc) | 4=>(v = .int .i64 (n:Nat)) | 5=>(v = .bool true) | 6=>(v = .bool true) | 7=>(v = .pointer (some ⟨w.heap.size,0,none⟩)) | 8=>(v = .slice (some ⟨b,off,none⟩) n vc) | 9=>(v = .int .i64 (k:Nat)) | 10=>(v = .pointer (some ⟨b,off + k * 5,none⟩)) | 11=>(v = .pointer (some ⟨b,off + k * 5,none⟩)) | 12=>(v = .pointer (some ⟨b,off + k * 5,none⟩)) | 13=>(v = .int .i64 (es:Nat)) | 14=>(v = .int .i64 st) | 15=>(v = .bool false) | 16=>(v = .bool false) | 17=>(v = .bool false) | 27=>(v = .bool false) | 28=>(v = .int .i64 (k:Nat)) | 29=>(v = .bool false) | _=>True) ?A_4_1 (by first | assumption | kernel_rfl) (by kernel_rfl) (by kernel_rfl) ?hA_4_1 ?hS_4_1 ?hE_4_1
     case hA_4_1=>intro xs;simp [putAll,List.range,List.range.loop,Act.put] <;> rfl
     case hS_4_1 =>
      refine ⟨?_,?_,?_,?_,?_,?_,?_,?_,?_,?_,?_,?_,?_,?_,?_,?_,?_,?_,?_,?_,?_,?_,?_,?_,?_,?_,?_,?_,?_,?_,trivial⟩
      ·-- 0: t49:=move(t8)
       intro yv w' hR hF K hK;clear hF
       go_simp
       exact hK _ _ (fun _ _=>by first | trivial | rfl | simp [*]) (Mod.refl _ _)
      ·-- 1: t50:=move(t8)
       intro yv w' hR hF K hK;clear hF
       go_simp
       exact hK _ _ (fun _ _=>by first | trivial | rfl | simp [*]) (Mod.refl _ _)
      ·-- 2: t51:=fieldAddr(32,t3,0)
       intro yv w' hR hF K hK;clear hF
       go_simp
       exact hK _ _ (fun _ _=>by first | trivial | rfl | simp [*]) (Mod.refl _ _)
      ·-- 3: t52:=load(30,t51)
       intro yv w' hR hF K hK;have f2:(yv 2) = .pointer (some ⟨w.heap.size,0,none⟩):=hF 2 (by kernel_rfl) w' (Mod.refl _ _);clear hF;generalize yv 2 = y2 at *;subst f2;have b2:=hbx.out w' ((Mod.refl Nowhere wr).drew.trans hR);have y0:=b2.cell 0;have yl:=b2.lt;simp only [gz0] at y0;clear b2
       go_simp
       exact hK _ _ (fun _ _=>rfl) (Mod.refl _ _)
      ·-- 4: t53:=CALL builtin(Builtin.len)(t52)
       intro yv w' hR hF K hK;have f3:(yv 3) = .slice (some ⟨b,off,none⟩) n vc:=hF 3 (by kernel_rfl) w' (Mod.refl _ _);clear hF;generalize yv 3 = y3 at *;subst f3
       go_simp
       exact hK _ _ (fun _ _=>by first | trivial | rfl | simp [*]) (Mod.refl _ _)
      ·-- 5: t54:=binOp(lss,3,t50,t53,3)
       intro yv w' hR hF K hK;have f1:(yv 1) = .int .i64 (k:Nat):=hF 1 (by kernel_rfl) w' (Mod.refl _ _);have f4:(yv 4) = .int .i64 (n:Nat):=hF 4 (by kernel_rfl) w' (Mod.refl _ _);clear hF;generalize yv 1 = y1 at *;subst f1;generalize yv 4 = y4 at *;subst f4
       go_simp
       exact hK _ _ (fun _ _=>by first | trivial | rfl | simp [*]) (Mod.refl _ _)
      ·-- 6: t55:=move(t54)
       intro yv w' hR hF K hK;have f5:(yv 5) = .bool true:=hF 5 (by kernel_rfl) w' (Mod.refl _ _);clear hF;generalize yv 5 = y5 at *;subst f5
       go_simp
       exact hK _ _ (fun _ _=>by first | trivial | rfl | simp [*]) (Mod.refl _ _)
      ·-- 7: t56:=fieldAddr(32,t3,0)   [guard (6,true)]
       intro yv w' hR hF K hK;have f6:(yv 6) = .bool true:=hF 6 (by kernel_rfl) w' (Mod.refl _ _);clear hF;generalize yv 6 = y6 at *;subst f6
       go_simp
       exact hK _ _ (fun _ _=>by first | trivial | rfl | simp [*]) (Mod.refl _ _)
      ·-- 8: t57:=load(30,t56)   [guard (6,true)]
       intro yv w' hR hF K hK;have f7:(yv 7) = .pointer (some ⟨w.heap.size,0,none⟩):=hF 7 (by kernel_rfl) w' (Mod.refl _ _);have f6:(yv 6) = .bool true:=hF 6 (by kernel_rfl) w' (Mod.refl _ _);clear hF;generalize yv 7 = y7 at *;subst f7;generalize yv 6 = y6 at *;subst f6;have b2:=hbx.out w' ((Mod.refl Nowhere wr).drew.trans hR);have y0:=b2.cell 0;have yl:=b2.lt;simp only [gz0] at y0;clear b2
       go_simp
       exact hK _ _ (fun _ _=>rfl) (Mod.refl _ _)
      ·-- 9: t58:=move(t8)   [guard (6,true)]
       intro yv w' hR hF K hK;have f6:(yv 6) = .bool true:=hF 6 (by kernel_rfl) w' (Mod.refl _ _);clear hF;generalize yv 6 = y6 at *;subst f6
       go_simp
       exact hK _ _ (fun _ _=>by first | trivial | rfl | simp [*]) (Mod.refl _ _)
      ·-- 10: t59:=indexAddr(30,t57,t58)   [guard (6,true)]
       intro yv w' hR hF K hK;have f8:(yv 8) = .slice (some ⟨b,off,none⟩) n vc:=hF 8 (by kernel_rfl) w' (Mod.refl _ _);have f9:(yv 9) = .int .i64 (k:Nat):=hF 9 (by kernel_rfl) w' (Mod.refl _ _);have f6:(yv 6) = .bool true:=hF 6 (by kernel_rfl) w' (Mod.refl _ _);clear hF;generalize yv 8 = y8 at *;subst f8;generalize yv 9 = y9 at *;subst f9;generalize yv 6 = y6 at *;subst f6
       go_simp
       exact hK _ _ (fun _ _=>by first | trivial | rfl | simp [*]) (Mod.refl _ _)
      ·-- 11: t60:=fieldAddr(111,t59,0)   [guard (6,true)]
       intro yv w' hR hF K hK;have f10:(yv 10) = .pointer (some ⟨b,off + k * 5,none⟩):=hF 10 (by kernel_rfl) w' (Mod.refl _ _);have f6:(yv 6) = .bool true:=hF 6 (by kernel_rfl) w' (Mod.refl _ _);clear hF;generalize yv 10 = y10 at *;subst f10;generalize yv 6 = y6 at *;subst f6
       go_simp
       exact hK _ _ (fun _ _=>by first | trivial | rfl | simp [*]) (Mod.refl _ _)
      ·-- 12: t61:=fieldAddr(39,t60,0)   [guard (6,true)]
       intro yv w' hR hF K hK;have f11:(yv 11) = .pointer (some ⟨b,off + k * 5,none⟩):=hF 11 (by kernel_rfl) w' (Mod.refl _ _);have f6:(yv 6) = .bool true:=hF 6 (by kernel_rfl) w' (Mod.refl _ _);clear hF;generalize yv 11 = y11 at *;subst f11;generalize yv 6 = y6 at *;subst f6
       go_simp
       exact hK _ _ (fun _ _=>by first | trivial | rfl | simp [*]) (Mod.refl _ _)
      ·-- 13: t62:=load(3,t61)   [guard (6,true)]
       intro yv w' hR hF K hK;have f12:(yv 12) = .pointer (some ⟨b,off + k * 5,none⟩):=hF 12 (by kernel_rfl) w' (Mod.refl _ _);have f6:(yv 6) = .bool true:=hF 6 (by kernel_rfl) w' (Mod.refl _ _);clear hF;generalize yv 12 = y12 at *;subst f12;generalize yv 6 = y6 at *;subst f6;obtain ⟨zl,z0,z1⟩:=hat.out w' (hm.out.trans ((Mod.refl Nowhere wr).drew.trans hR))
       go_simp
       exact hK _ _ (fun _ _=>rfl) (Mod.refl _ _)
      ·-- 14: t63:=move(t1)   [guard (6,true)]
       intro yv w' hR hF K hK;have f6:(yv 6) = .bool true:=hF 6 (by kernel_rfl) w' (Mod.refl _ _);clear hF;generalize yv 6 = y6 at *;subst f6
       go_simp
       exact hK _ _ (fun _ _=>by first | trivial | rfl | simp [*]) (Mod.refl _ _)
      ·-- 15: t64:=binOp(eql,3,t62,t63,3)   [guard (6,true)]
       intro yv w' hR hF K hK;have f13:(yv 13) = .int .i64 (es:Nat):=hF 13 (by kernel_rfl) w' (Mod.refl _ _);have f14:(yv 14) = .int .i64 st:=hF 14 (by kernel_rfl) w' (Mod.refl _ _);have f6:(yv 6) = .bool true:=hF 6 (by kernel_rfl) w' (Mod.refl _ _);clear hF;generalize yv 13 = y13 at *;subst f13;generalize yv 14 = y14 at *;subst f14;generalize yv 6 = y6 at *;subst f6
       go_simp
       exact hK _ _ (fun _ _=>by first | trivial | rfl | simp [*]) (Mod.refl _ _)
      ·-- 16: t65:=pick(t55,t64,const(Value.bool(false)))
       intro yv w' hR hF K hK;have f6:(yv 6) = .bool true:=hF 6 (by kernel_rfl) w' (Mod.refl _ _);have f15:(yv 15) = .bool false:=hF 15 (by kernel_rfl) w' (Mod.refl _ _);clear hF;generalize yv 6 = y6 at *;subst f6;generalize yv 15 = y15 at *;subst f15
       go_simp
       exact hK _ _ (fun _ _=>by first | trivial | rfl | simp [*]) (Mod.refl _ _)
      ·-- 17: t66:=move(t65)
       intro yv w' hR hF K hK;have f16:(yv 16) = .bool false:=hF 16 (by kernel_rfl) w' (Mod.refl _ _);have f6:(yv 6) = .bool true:=hF 6 (by kernel_rfl) w' (Mod.refl _ _);clear hF;generalize yv 16 = y16 at *;subst f16;generalize yv 6 = y6 at *;subst f6
       go_simp
       exact hK _ _ (fun _ _=>by first | trivial | rfl | simp [*]) (Mod.refl _ _)
      ·-- 18: t67:=fieldAddr(32,t3,0)   [guard (17,true)]
       intro yv w' hR hF K hK;have f17:(yv 17) = .bool false:=hF 17 (by kernel_rfl) w' (Mod.refl _ _);clear hF;generalize yv 17 = y17 at *;subst f17
       go_simp
       exact hK _ _ (fun _ _=>by first | trivial | rfl | simp [*]) (Mod.refl _ _)
      ·-- 19: t68:=load(30,t67)   [guard (17,true)]
       intro yv w' hR hF K hK;have f17:(yv 17) = .bool false:=hF 17 (by kernel_rfl) w' (Mod.refl _ _);clear hF;generalize yv 17 = y17 at *;subst f17
       go_simp
       exact hK _ _ (fun _ _=>by first | trivial | rfl | simp [*]) (Mod.refl _ _)
      ·-- 20: t69:=move(t8)   [guard (17,true)]
       intro yv w' hR hF K hK;have f17:(yv 17) = .bool false:=hF 17 (by kernel_rfl) w' (Mod.refl _ _);clear hF;generalize yv 17 = y17 at *;subst f17
       go_simp
       exact hK _ _ (fun _ _=>by first | trivial | rfl | simp [*]) (Mod.refl _ _)
      ·-- 21: t70:=indexAddr(30,t68,t69)   [guard (17,true)]
       intro yv w' hR hF K hK;have f17:(yv 17) = .bool false:=hF 17 (by kernel_rfl) w' (Mod.refl _ _);clear hF;generalize yv 17 = y17 at *;subst f17
       go_simp
       exact hK _ _ (fun _ _=>by first | trivial | rfl | simp [*]) (Mod.refl _ _)
      ·-- 22: t71:=fieldAddr(111,t70,0)   [guard (17,true)]
       intro yv w' hR hF K hK;have f17:(yv 17) = .bool false:=hF 17 (by kernel_rfl) w' (Mod.refl _ _);clear hF;generalize yv 17 = y17 at *;subst f17
       go_simp
       exact hK _ _ (fun _ _=>by first | trivial | rfl | simp [*]) (Mod.refl _ _)
      ·-- 23: t72:=fieldAddr(39,t71,1)   [guard (17,true)]
       intro yv w' hR hF K hK;have f17:(yv 17) = .bool false:=hF 17 (by kernel_rfl) w' (Mod.refl _ _);clear hF;generalize yv 17 = y17 at *;subst f17
       go_simp
       exact hK _ _ (fun _ _=>by first | trivial | rfl | simp [*]) (Mod.refl _ _)
      ·-- 24: t73:=load(3,t72)   [guard (17,true)]
       intro yv w' hR hF K hK;have f17:(yv 17) = .bool false:=hF 17 (by kernel_rfl) w' (Mod.refl _ _);clear hF;generalize yv 17 = y17 at *;subst f17
       go_simp
       exact hK _ _ (fun _ _=>by first | trivial | rfl | simp [*]) (Mod.refl _ _)
      ·-- 25: t74:=move(t2)   [guard (17,true)]
       intro yv w' hR hF K hK;have f17:(yv 17) = .bool false:=hF 17 (by kernel_rfl) w' (Mod.refl _ _);clear hF;generalize yv 17 = y17 at *;subst f17
       go_simp
       exact hK _ _ (fun _ _=>by first | trivial | rfl | simp [*]) (Mod.refl _ _)
      ·-- 26: t75:=binOp(eql,3,t73,t74,3)   [guard (17,true)]
       intro yv w' hR hF K hK;have f17:(yv 17) = .bool false:=hF 17 (by kernel_rfl) w' (Mod.refl _ _);clear hF;generalize yv 17 = y17 at *;subst f17
       go_simp
       exact hK _ _ (fun _ _=>by first | trivial | rfl | simp [*]) (Mod.refl _ _)
      ·-- 27: t76:=pick(t66,t75,const(Value.bool(false)))
       intro yv w' hR hF K hK;have f17:(yv 17) = .bool false:=hF 17 (by kernel_rfl) w' (Mod.refl _ _);clear hF;generalize yv 17 = y17 at *;subst f17
       go_simp
       exact hK _ _ (fun _ _=>by first | trivial | rfl | simp [*]) (Mod.refl _ _)
      ·-- 28: t6:=assign(t49)
       intro yv w' hR hF K hK;have f0:(yv 0) = .int .i64 (k:Nat):=hF 0 (by kernel_rfl) w' (Mod.refl _ _);have f17:(yv 17) = .bool false:=hF 17 (by kernel_rfl) w' (Mod.refl _ _);clear hF;generalize yv 0 = y0 at *;subst f0;generalize yv 17 = y17 at *;subst f17
       go_simp
       exact hK _ _ (fun _ _=>by first | trivial | rfl | simp [*]) (Mod.refl _ _)
      ·-- 29: t7:=assign(t76)
       intro yv w' hR hF K hK;have f27:(yv 27) = .bool false:=hF 27 (by kernel_rfl) w' (Mod.refl _ _);have f28:(yv 28) = .int .i64 (k:Nat):=hF 28 (by kernel_rfl) w' (Mod.refl _ _);have f0:(yv 0) = .int .i64 (k:Nat):=hF 0 (by kernel_rfl) w' (Mod.refl _ _);have f1:(yv 1) = .int .i64 (k:Nat):=hF 1 (by kernel_rfl) w' (Mod.refl _ _);have f2:(yv 2) = .pointer (some ⟨w.heap.size,0,none⟩):=hF 2 (by kernel_rfl) w' (Mod.refl _ _);have f3:(yv 3) = .slice (some ⟨b,off,none⟩) n vc:=hF 3 (by kernel_rfl) w' (Mod.refl _ _);have f4:(yv 4) = .int .i64 (n:Nat):=hF 4 (by kernel_rfl) w' (Mod.refl _ _);have f5:(yv 5) = .bool true:=hF 5 (by kernel_rfl) w' (Mod.refl _ _)
       have f6:(yv 6) = .bool true:=hF 6 (by kernel_rfl) w' (Mod.refl _ _);have f7:(yv 7) = .pointer (some ⟨w.heap.size,0,none⟩):=hF 7 (by kernel_rfl) w' (Mod.refl _ _);have f8:(yv 8) = .slice (some ⟨b,off,none⟩) n vc:=hF 8 (by kernel_rfl) w' (Mod.refl _ _);have f9:(yv 9) = .int .i64 (k:Nat):=hF 9 (by kernel_rfl) w' (Mod.refl _ _);have f10:(yv 10) = .pointer (some ⟨b,off + k * 5,none⟩):=hF 10 (by kernel_rfl) w' (Mod.refl _ _);have f11:(yv 11) = .pointer (some ⟨b,off + k * 5,none⟩):=hF 11 (by kernel_rfl) w' (Mod.refl _ _);have f12:(yv 12) = .pointer (some ⟨b,off + k * 5,none⟩):=hF 12 (by kernel_rfl) w' (Mod.refl _ _);have f13:(yv 13) = .int .i64 (es:Nat):=hF 13 (by kernel_rfl) w' (Mod.refl _ _)
       have f14:(yv 14) = .int .i64 st:=hF 14 (by kernel_rfl) w' (Mod.refl _ _);have f15:(yv 15) = .bool false:=hF 15 (by kernel_rfl) w' (Mod.refl _ _);have f16:(yv 16) = .bool false:=hF 16 (by kernel_rfl) w' (Mod.refl _ _);have f17:(yv 17) = .bool false:=hF 17 (by kernel_rfl) w' (Mod.refl _ _);clear hF;generalize yv 27 = y27 at *;subst f27;generalize yv 28 = y28 at *;subst f28;generalize yv 0 = y0 at *;subst f0;generalize yv 1 = y1 at *;subst f1;generalize yv 2 = y2 at *;subst f2;generalize yv 3 = y3 at *;subst f3;generalize yv 4 = y4 at *;subst f4;generalize yv 5 = y5 at *;subst f5
       generalize yv 6 = y6 at *;subst f6;generalize yv 7 = y7 at *;subst f7;generalize yv 8 = y8 at *;subst f8;generalize yv 9 = y9 at *;subst f9;generalize yv 10 = y10 at *;subst f10;generalize yv 11 = y11 at *;subst f11;generalize yv 12 = y12 at *;subst f12;generalize yv 13 = y13 at *;subst f13;generalize yv 14 = y14 at *;subst f14;generalize yv 15 = y15 at *;subst f15;generalize yv 16 = y16 at *;subst f16;generalize yv 17 = y17 at *;subst f17
       go_simp
       exact hK _ _ (fun _ _=>by first | trivial | rfl | simp [*]) (Mod.refl _ _)
     case hE_4_1 =>
      intro yv w' hR hF;have f0:(yv 0) = .int .i64 (k:Nat):=hF 0 (by simp) w' (Mod.refl _ _);have f1:(yv 1) = .int .i64 (k:Nat):=hF 1 (by simp) w' (Mod.refl _ _);have f2:(yv 2) = .pointer (some ⟨w.heap.size,0,none⟩):=hF 2 (by simp) w' (Mod.refl _ _);have f3:(yv 3) = .slice (some ⟨b,off,none⟩) n vc:=hF 3 (by simp) w' (Mod.refl _ _);have f4:(yv 4) = .int .i64 (n:Nat):=hF 4 (by simp) w' (Mod.refl _ _);have f5:(yv 5) = .bool true:=hF 5 (by simp) w' (Mod.refl _ _);have f6:(yv 6) = .bool true:=hF 6 (by simp) w' (Mod.refl _ _);have f7:(yv 7) = .pointer (some ⟨w.heap.size,0,none⟩):=hF 7 (by simp) w' (Mod.refl _ _);have f8:(yv 8) = .slice (some ⟨b,off,none⟩) n vc:=hF 8 (by simp) w' (Mod.refl _ _)
      have f9:(yv 9) = .int .i64 (k:Nat):=hF 9 (by simp) w' (Mod.refl _ _);have f10:(yv 10) = .pointer (some ⟨b,off + k * 5,none⟩):=hF 10 (by simp) w' (Mod.refl _ _);have f11:(yv 11) = .pointer (some ⟨b,off + k * 5,none⟩):=hF 11 (by simp) w' (Mod.refl _ _);have f12:(yv 12) = .pointer (some ⟨b,off + k * 5,none⟩):=hF 12 (by simp) w' (Mod.refl _ _);have f13:(yv 13) = .int .i64 (es:Nat):=hF 13 (by simp) w' (Mod.refl _ _);have f14:(yv 14) = .int .i64 st:=hF 14 (by simp) w' (Mod.refl _ _);have f15:(yv 15) = .bool false:=hF 15 (by simp) w' (Mod.refl _ _);have f16:(yv 16) = .bool false:=hF 16 (by simp) w' (Mod.refl _ _);have f17:(yv 17) = .bool false:=hF 17 (by simp) w' (Mod.refl _ _)
      have f27:(yv 27) = .bool false:=hF 27 (by simp) w' (Mod.refl _ _);have f28:(yv 28) = .int .i64 (k:Nat):=hF 28 (by simp) w' (Mod.refl _ _);have f29:(yv 29) = .bool false:=hF 29 (by simp) w' (Mod.refl _ _);clear hF;generalize yv 0 = y0 at *;subst f0;generalize yv 1 = y1 at *;subst f1;generalize yv 2 = y2 at *;subst f2;generalize yv 3 = y3 at *;subst f3;generalize yv 4 = y4 at *;subst f4;generalize yv 5 = y5 at *;subst f5;generalize yv 6 = y6 at *;subst f6;generalize yv 7 = y7 at *;subst f7;generalize yv 8 = y8 at *;subst f8;generalize yv 9 = y9 at *;subst f9;generalize yv 10 = y10 at *
      subst f10;generalize yv 11 = y11 at *;subst f11;generalize yv 12 = y12 at *;subst f12;generalize yv 13 = y13 at *;subst f13;generalize yv 14 = y14 at *;subst f14;generalize yv 15 = y15 at *;subst f15;generalize yv 16 = y16 at *;subst f16;generalize yv 17 = y17 at *;subst f17;generalize yv 27 = y27 at *;subst f27;generalize yv 28 = y28 at *;subst f28;generalize yv 29 = y29 at *;subst f29;have hm4:=hm.out.trans ((Mod.refl Nowhere wr).drew.trans hR);clear hR;replace hm4:=Lib.hid hm4;go_wp2
      go_ret2
      exact ⟨by rw [hres.out];rfl,hm4.out⟩
  ·have hkr:k = ri:=by omega
   subst hkr;obtain rfl:k = n:=by omega
   have hres:rh = false:=by
    rw [← hrh.out];exact Zcv (by rw [hri.out,hn.out])
   refine hid4 ?_ hm hbr hbx hres;clear hm hbr hbx hres;intro hm hbr hbx hres;go_wp2_with fail;refine Zo (fun i v w'=>match i with | 0=>(v = .int .i64 (k:Nat)) | 1=>(v = .int .i64 (k:Nat)) | 2=>(v = .pointer (some ⟨w.heap.size,0,none⟩)) | 3=>(v = .slice va k vc) | 4=>(v = .int .i64 (k:Nat)) | 5=>(v = .bool false) | 6=>(v = .bool false) | 16=>(v = .bool false) | 17=>(v = .bool false) | 27=>(v = .bool false) | 28=>(v = .int .i64 (k:Nat)) | 29=>(v = .bool false) | _=>True) ?A_4_2 (by first | assumption | kernel_rfl) (by kernel_rfl) (by kernel_rfl) ?hA_4_2 ?hS_4_2 ?hE_4_2
   case hA_4_2=>intro xs;simp [putAll,List.range,List.range.loop,Act.put] <;> rfl
   case hS_4_2 =>
    refine ⟨?_,?_,?_,?_,?_,?_,?_,?_,?_,?_,?_,?_,?_,?_,?_,?_,?_,?_,?_,?_,?_,?_,?_,?_,?_,?_,?_,?_,?_,?_,trivial⟩
    ·-- 0: t49:=move(t8)
     intro yv w' hR hF K hK;clear hF
     go_simp
     exact hK _ _ (fun _ _=>by first | trivial | rfl | simp [*]) (Mod.refl _ _)
    ·-- 1: t50:=move(t8)
     intro yv w' hR hF K hK;clear hF
     go_simp
     exact hK _ _ (fun _ _=>by first | trivial | rfl | simp [*]) (Mod.refl _ _)
    ·-- 2: t51:=fieldAddr(32,t3,0)
     intro yv w' hR hF K hK;clear hF
     go_simp
     exact hK _ _ (fun _ _=>by first | trivial | rfl | simp [*]) (Mod.refl _ _)
    ·-- 3: t52:=load(30,t51)
     intro yv w' hR hF K hK;have f2:(yv 2) = .pointer (some ⟨w.heap.size,0,none⟩):=hF 2 (by kernel_rfl) w' (Mod.refl _ _);clear hF;generalize yv 2 = y2 at *;subst f2;have b2:=hbx.out w' ((Mod.refl Nowhere wr).drew.trans hR);have y0:=b2.cell 0;have yl:=b2.lt;simp only [gz0] at y0;clear b2
     go_simp
     exact hK _ _ (fun _ _=>rfl) (Mod.refl _ _)
    ·-- 4: t53:=CALL builtin(Builtin.len)(t52)
     intro yv w' hR hF K hK;have f3:(yv 3) = .slice va k vc:=hF 3 (by kernel_rfl) w' (Mod.refl _ _);clear hF;generalize yv 3 = y3 at *;subst f3
     go_simp
     exact hK _ _ (fun _ _=>by first | trivial | rfl | simp [*]) (Mod.refl _ _)
    ·-- 5: t54:=binOp(lss,3,t50,t53,3)
     intro yv w' hR hF K hK;have f1:(yv 1) = .int .i64 (k:Nat):=hF 1 (by kernel_rfl) w' (Mod.refl _ _);have f4:(yv 4) = .int .i64 (k:Nat):=hF 4 (by kernel_rfl) w' (Mod.refl _ _);clear hF;generalize yv 1 = y1 at *;subst f1;generalize yv 4 = y4 at *;subst f4
     go_simp
     exact hK _ _ (fun _ _=>by first | trivial | rfl | simp [*]) (Mod.refl _ _)
    ·-- 6: t55:=move(t54)
     intro yv w' hR hF K hK;have f5:(yv 5) = .bool false:=hF 5 (by kernel_rfl) w' (Mod.refl _ _);clear hF;generalize yv 5 = y5 at *;subst f5
     go_simp
     exact hK _ _ (fun _ _=>by first | trivial | rfl | simp [*]) (Mod.refl _ _)
    ·-- 7: t56:=fieldAddr(32,t3,0)   [guard (6,true)]
     intro yv w' hR hF K hK;have f6:(yv 6) = .bool false:=hF 6 (by kernel_rfl) w' (Mod.refl _ _);clear hF;generalize yv 6 = y6 at *;subst f6
     go_simp
     exact hK _ _ (fun _ _=>by first | trivial | rfl | simp [*]) (Mod.refl _ _)
    ·-- 8: t57:=load(30,t56)   [guard (6,true)]
     intro yv w' hR hF K hK;have f6:(yv 6) = .bool false:=hF 6 (by kernel_rfl) w' (Mod.refl _ _);clear hF;generalize yv 6 = y6 at *;subst f6
     go_simp
     exact hK _ _ (fun _ _=>by first | trivial | rfl | simp [*]) (Mod.refl _ _)
    ·-- 9: t58:=move(t8)   [guard (6,true)]
     intro yv w' hR hF K hK;have f6:(yv 6) = .bool false:=hF 6 (by kernel_rfl) w' (Mod.refl _ _);clear hF;generalize yv 6 = y6 at *;subst f6
     go_simp
     exact hK _ _ (fun _ _=>by first | trivial | rfl | simp [*]) (Mod.refl _ _)
    ·-- 10: t59:=indexAddr(30,t57,t58)   [guard (6,true)]
     intro yv w' hR hF K hK;have f6:(yv 6) = .bool false:=hF 6 (by kernel_rfl) w' (Mod.refl _ _);clear hF;generalize yv 6 = y6 at *;subst f6
     go_simp
     exact hK _ _ (fun _ _=>by first | trivial | rfl | simp [*]) (Mod.refl _ _)
    ·-- 11: t60:=fieldAddr(111,t59,0)   [guard (6,true)]
     intro yv w' hR hF K hK;have f6:(yv 6) = .bool false:=hF 6 (by kernel_rfl) w' (Mod.refl _ _);clear hF;generalize yv 6 = y6 at *;subst f6
     go_simp
     exact hK _ _ (fun _ _=>by first | trivial | rfl | simp [*]) (Mod.refl _ _)
    ·-- 12: t61:=fieldAddr(39,t60,0)   [guard (6,true)]
     intro yv w' hR hF K hK;have f6:(yv 6) = .bool false:=hF 6 (by kernel_rfl) w' (Mod.refl _ _);clear hF;generalize yv 6 = y6 at *;subst f6
     go_simp
     exact hK _ _ (fun _ _=>by first | trivial | rfl | simp [*]) (Mod.refl _ _)
    ·-- 13: t62:=load(3,t61)   [guard (6,true)]
     intro yv w' hR hF K hK;have f6:(yv 6) = .bool false:=hF 6 (by kernel_rfl) w' (Mod.refl _ _);clear hF;generalize yv 6 = y6 at *;subst f6
     go_simp
     exact hK _ _ (fun _ _=>by first | trivial | rfl | simp [*]) (Mod.refl _ _)
    ·-- 14: t63:=move(t1)   [guard (6,true)]
     intro yv w' hR hF K hK;have f6:(yv 6) = .bool false:=hF 6 (by kernel_rfl) w' (Mod.refl _ _);clear hF;generalize yv 6 = y6 at *;subst f6
     go_simp
     exact hK _ _ (fun _ _=>by first | trivial | rfl | simp [*]) (Mod.refl _ _)
    ·-- 15: t64:=binOp(eql,3,t62,t63,3)   [guard (6,true)]
     intro yv w' hR hF K hK;have f6:(yv 6) = .bool false:=hF 6 (by kernel_rfl) w' (Mod.refl _ _);clear hF;generalize yv 6 = y6 at *;subst f6
     go_simp
     exact hK _ _ (fun _ _=>by first | trivial | rfl | simp [*]) (Mod.refl _ _)
    ·-- 16: t65:=pick(t55,t64,const(Value.bool(false)))
     intro yv w' hR hF K hK;have f6:(yv 6) = .bool false:=hF 6 (by kernel_rfl) w' (Mod.refl _ _);clear hF;generalize yv 6 = y6 at *;subst f6
     go_simp
     exact hK _ _ (fun _ _=>by first | trivial | rfl | simp [*]) (Mod.refl _ _)
    ·-- 17: t66:=move(t65)
     intro yv w' hR hF K hK;have f16:(yv 16) = .bool false:=hF 16 (by kernel_rfl) w' (Mod.refl _ _);have f6:(yv 6) = .bool false:=hF 6 (by kernel_rfl) w' (Mod.refl _ _);clear hF;generalize yv 16 = y16 at *;subst f16;generalize yv 6 = y6 at *;subst f6
     go_simp
     exact hK _ _ (fun _ _=>by first | trivial | rfl | simp [*]) (Mod.refl _ _)
    ·-- 18: t67:=fieldAddr(32,t3,0)   [guard (17,true)]
     intro yv w' hR hF K hK;have f17:(yv 17) = .bool false:=hF 17 (by kernel_rfl) w' (Mod.refl _ _);clear hF;generalize yv 17 = y17 at *;subst f17
     go_simp
     exact hK _ _ (fun _ _=>by first | trivial | rfl | simp [*]) (Mod.refl _ _)
    ·-- 19: t68:=load(30,t67)   [guard (17,true)]
     intro yv w' hR hF K hK;have f17:(yv 17) = .bool false:=hF 17 (by kernel_rfl) w' (Mod.refl _ _);clear hF;generalize yv 17 = y17 at *;subst f17
     go_simp
     exact hK _ _ (fun _ _=>by first | trivial | rfl | simp [*]) (Mod.refl _ _)
    ·-- 20: t69:=move(t8)   [guard (17,true)]
     intro yv w' hR hF K hK;have f17:(yv 17) = .bool false:=hF 17 (by kernel_rfl) w' (Mod.refl _ _);clear hF;generalize yv 17 = y17 at *;subst f17
     go_simp
     exact hK _ _ (fun _ _=>by first | trivial | rfl | simp [*]) (Mod.refl _ _)
    ·-- 21: t70:=indexAddr(30,t68,t69)   [guard (17,true)]
     intro yv w' hR hF K hK;have f17:(yv 17) = .bool false:=hF 17 (by kernel_rfl) w' (Mod.refl _ _);clear hF;generalize yv 17 = y17 at *;subst f17
     go_simp
     exact hK _ _ (fun _ _=>by first | trivial | rfl | simp [*]) (Mod.refl _ _)
    ·-- 22: t71:=fieldAddr(111,t70,0)   [guard (17,true)]
     intro yv w' hR hF K hK;have f17:(yv 17) = .bool false:=hF 17 (by kernel_rfl) w' (Mod.refl _ _);clear hF;generalize yv 17 = y17 at *;subst f17
     go_simp
     exact hK _ _ (fun _ _=>by first | trivial | rfl | simp [*]) (Mod.refl _ _)
    ·-- 23: t72:=fieldAddr(39,t71,1)   [guard (17,true)]
     intro yv w' hR hF K hK;have f17:(yv 17) = .bool false:=hF 17 (by kernel_rfl) w' (Mod.refl _ _);clear hF;generalize yv 17 = y17 at *;subst f17
     go_simp
     exact hK _ _ (fun _ _=>by first | trivial | rfl | simp [*]) (Mod.refl _ _)
    ·-- 24: t73:=load(3,t72)   [guard (17,true)]
     intro yv w' hR hF K hK;have f17:(yv 17) = .bool false:=hF 17 (by kernel_rfl) w' (Mod.refl _ _);clear hF;generalize yv 17 = y17 at *;subst f17
     go_simp
     exact hK _ _ (fun _ _=>by first | trivial | rfl | simp [*]) (Mod.refl _ _)
    ·-- 25: t74:=move(t2)   [guard (17,true)]
     intro yv w' hR hF K hK;have f17:(yv 17) = .bool false:=hF 17 (by kernel_rfl) w' (Mod.refl _ _);clear hF;generalize yv 17 = y17 at *;subst f17
     go_simp
     exact hK _ _ (fun _ _=>by first | trivial | rfl | simp [*]) (Mod.refl _ _)
    ·-- 26: t75:=binOp(eql,3,t73,t74,3)   [guard (17,true)]
     intro yv w' hR hF K hK;have f17:(yv 17) = .bool false:=hF 17 (by kernel_rfl) w' (Mod.refl _ _);clear hF;generalize yv 17 = y17 at *;subst f17
     go_simp
     exact hK _ _ (fun _ _=>by first | trivial | rfl | simp [*]) (Mod.refl _ _)
    ·-- 27: t76:=pick(t66,t75,const(Value.bool(false)))
     intro yv w' hR hF K hK;have f17:(yv 17) = .bool false:=hF 17 (by kernel_rfl) w' (Mod.refl _ _);clear hF;generalize yv 17 = y17 at *;subst f17
     go_simp
     exact hK _ _ (fun _ _=>by first | trivial | rfl | simp [*]) (Mod.refl _ _)
    ·-- 28: t6:=assign(t49)
     intro yv w' hR hF K hK;have f0:(yv 0) = .int .i64 (k:Nat):=hF 0 (by kernel_rfl) w' (Mod.refl _ _);have f17:(yv 17) = .bool false:=hF 17 (by kernel_rfl) w' (Mod.refl _ _);clear hF;generalize yv 0 = y0 at *;subst f0;generalize yv 17 = y17 at *;subst f17
     go_simp
     exact hK _ _ (fun _ _=>by first | trivial | rfl | simp [*]) (Mod.refl _ _)
    ·-- 29: t7:=assign(t76)
     intro yv w' hR hF K hK;have f27:(yv 27) = .bool false:=hF 27 (by kernel_rfl) w' (Mod.refl _ _);have f28:(yv 28) = .int .i64 (k:Nat):=hF 28 (by kernel_rfl) w' (Mod.refl _ _);have f0:(yv 0) = .int .i64 (k:Nat):=hF 0 (by kernel_rfl) w' (Mod.refl _ _);have f1:(yv 1) = .int .i64 (k:Nat):=hF 1 (by kernel_rfl) w' (Mod.refl _ _);have f2:(yv 2) = .pointer (some ⟨w.heap.size,0,none⟩):=hF 2 (by kernel_rfl) w' (Mod.refl _ _);have f3:(yv 3) = .slice va k vc:=hF 3 (by kernel_rfl) w' (Mod.refl _ _);have f4:(yv 4) = .int .i64 (k:Nat):=hF 4 (by kernel_rfl) w' (Mod.refl _ _);have f5:(yv 5) = .bool false:=hF 5 (by kernel_rfl) w' (Mod.refl _ _)
     have f6:(yv 6) = .bool false:=hF 6 (by kernel_rfl) w' (Mod.refl _ _);have f16:(yv 16) = .bool false:=hF 16 (by kernel_rfl) w' (Mod.refl _ _);have f17:(yv 17) = .bool false:=hF 17 (by kernel_rfl) w' (Mod.refl _ _);clear hF;generalize yv 27 = y27 at *;subst f27;generalize yv 28 = y28 at *;subst f28;generalize yv 0 = y0 at *;subst f0;generalize yv 1 = y1 at *;subst f1;generalize yv 2 = y2 at *;subst f2;generalize yv 3 = y3 at *;subst f3;generalize yv 4 = y4 at *;subst f4;generalize yv 5 = y5 at *;subst f5;generalize yv 6 = y6 at *;subst f6;generalize yv 16 = y16 at *;subst f16;generalize yv 17 = y17 at *
     subst f17
     go_simp
     exact hK _ _ (fun _ _=>by first | trivial | rfl | simp [*]) (Mod.refl _ _)
   case hE_4_2 =>
    intro yv w' hR hF;have f0:(yv 0) = .int .i64 (k:Nat):=hF 0 (by simp) w' (Mod.refl _ _);have f1:(yv 1) = .int .i64 (k:Nat):=hF 1 (by simp) w' (Mod.refl _ _);have f2:(yv 2) = .pointer (some ⟨w.heap.size,0,none⟩):=hF 2 (by simp) w' (Mod.refl _ _);have f3:(yv 3) = .slice va k vc:=hF 3 (by simp) w' (Mod.refl _ _);have f4:(yv 4) = .int .i64 (k:Nat):=hF 4 (by simp) w' (Mod.refl _ _);have f5:(yv 5) = .bool false:=hF 5 (by simp) w' (Mod.refl _ _);have f6:(yv 6) = .bool false:=hF 6 (by simp) w' (Mod.refl _ _);have f16:(yv 16) = .bool false:=hF 16 (by simp) w' (Mod.refl _ _);have f17:(yv 17) = .bool false:=hF 17 (by simp) w' (Mod.refl _ _)
    have f27:(yv 27) = .bool false:=hF 27 (by simp) w' (Mod.refl _ _);have f28:(yv 28) = .int .i64 (k:Nat):=hF 28 (by simp) w' (Mod.refl _ _);have f29:(yv 29) = .bool false:=hF 29 (by simp) w' (Mod.refl _ _);clear hF;generalize yv 0 = y0 at *;subst f0;generalize yv 1 = y1 at *;subst f1;generalize yv 2 = y2 at *;subst f2;generalize yv 3 = y3 at *;subst f3;generalize yv 4 = y4 at *;subst f4;generalize yv 5 = y5 at *;subst f5;generalize yv 6 = y6 at *;subst f6;generalize yv 16 = y16 at *;subst f16;generalize yv 17 = y17 at *;subst f17;generalize yv 27 = y27 at *;subst f27;generalize yv 28 = y28 at *
    subst f28;generalize yv 29 = y29 at *;subst f29;have hm4:=hm.out.trans ((Mod.refl Nowhere wr).drew.trans hR);clear hR;replace hm4:=Lib.hid hm4;go_wp2
    go_ret2
    exact ⟨by rw [hres.out];rfl,hm4.out⟩
end
theorem Jb:∀ (zs:List Kx) (k:Nat),kxsC (zs.drop k) = (kxsC zs).drop (k * 5)
 | zs,0=>rfl
 | [],k + 1=>by simp [kxsC]
 | z :: zs,k + 1=>by
  show kxsC (zs.drop k) = (kxC z ++ kxsC zs).drop ((k + 1) * 5)
  rw [Jb zs k,List.drop_append,show (kxC z).drop ((k + 1) * 5) = [] from List.drop_eq_nil_of_le (by rw [ZP];omega),List.nil_append,ZP,show (k + 1) * 5 - 5 = k * 5 by omega]
theorem Jc:∀ (zs:List Kx) (k:Nat),kxsC (zs.take k) = (kxsC zs).take (k * 5)
 | zs,0=>by simp [kxsC]
 | [],k + 1=>by simp [kxsC]
 | z :: zs,k + 1=>by
  show kxC z ++ kxsC (zs.take k) = (kxC z ++ kxsC zs).take ((k + 1) * 5)
  rw [Jc zs k,List.take_append,show (kxC z).take ((k + 1) * 5) = kxC z from List.take_of_length_le (by rw [ZP];omega),ZP,show (k + 1) * 5 - 5 = k * 5 by omega]
section
variable {w : World} {va : Option Addr} {vc : Nat} {L : List KEn}
theorem RL.rest (h:RL w va vc L) {k:Nat} (hk:k≤L.length) :
  ∃ ta tc,(∀ W,(Instr.slice 30 (.slice va L.length vc) (some (.int .i64 k)) none none).run Tryz.prog W = .ok (.slice ta (L.length - k) tc) W) ∧
   ∃ zs,zs.length = L.length - k∧kes zs = L.drop k∧(zs.length ≠ 0→KSl w (.slice ta zs.length tc) zs):=by
 obtain ⟨e1,e2⟩:=h.len0;obtain ⟨xs,hs,hx⟩:=h;have hl:xs.length = L.length:=by rw [← hx,kes,List.length_map]
 obtain ⟨i0,hi0,hz0,hz1,hz2⟩:=info_parts Xa;have hxd:kes (xs.drop k) = L.drop k:=by unfold kes at hx ⊢;rw [List.map_drop,hx]
 have hk1:(k:Int)≤(L.length:Int):=by omega
 rcases hs.sl.2 with ⟨e,h0⟩ | ⟨b,off,cap,cs,e,hb,h1,h2,h3,h4⟩
 ·simp at e;obtain ⟨rfl,-,rfl⟩:=e;have hL:L.length = 0:=by omega
  have hk0:k = 0:=by omega
  subst hk0;rw [hL];refine ⟨none,0,fun W=>?_,xs.drop 0,by rw [List.drop_zero,hl];omega,hxd,fun hn=>absurd (by rw [List.drop_zero,hl];omega) hn⟩;simp [Instr.slice,Instr.sliceBounds,Instr.sliceBound,run_underlying Tryz.underlying30,asIntOf,sizeOf,typeInfo,hi0,hz1,add_lit]
 ·simp at e;obtain ⟨rfl,-,rfl⟩:=e;by_cases hc:k < vc
  ·refine ⟨some ⟨b,off + k * 5,none⟩,vc - k,fun W=>?_,xs.drop k,by rw [List.length_drop,hl],hxd,fun hn=>?_⟩
   ·have h3':vc - k ≠ 0:=by omega
    simp [Instr.slice,Instr.sliceBounds,Instr.sliceBound,run_underlying Tryz.underlying30,asIntOf,sizeOf,typeInfo,hi0,hz1,add_lit,hk,h3',show ¬ vc = k by omega,show ¬ vc < L.length by omega]
   ·refine ⟨⟨?_,.inr ⟨b,off + k * 5,vc - k,cs,?_,hb,?_,?_,?_,?_⟩⟩,fun x hx'=>hs.data x (List.mem_of_mem_drop hx')⟩
    ·rw [Jb,List.length_drop,hs.sl.1,List.length_drop,Nat.sub_mul]
    ·rfl
    ·rw [List.length_drop];omega
    ·omega
    ·omega
    ·rw [Jb,← h4,List.drop_take,List.drop_drop,List.length_drop,Nat.sub_mul]
  ·have hn:L.length = k:=by omega
   have hcv:vc = k:=by omega
   refine ⟨some ⟨b,off,none⟩,0,fun W=>?_,xs.drop k,by rw [List.length_drop,hl],hxd,fun hn=>absurd (by rw [List.length_drop,hl];omega) hn⟩;rw [hn,hcv];simp [Instr.slice,Instr.sliceBounds,Instr.sliceBound,run_underlying Tryz.underlying30,asIntOf,sizeOf,typeInfo,hi0,hz1,add_lit]
theorem RL.upto (h:RL w va vc L) {k:Nat} (hk:k≤L.length) :
  ∃ tc,(∀ W,(Instr.slice 30 (.slice va L.length vc) none (some (.int .i64 k)) none).run Tryz.prog W = .ok (.slice va k tc) W) ∧
   ∃ zs,zs.length = k∧kes zs = L.take k∧(zs.length ≠ 0→KSl w (.slice va zs.length tc) zs):=by
 obtain ⟨e1,e2⟩:=h.len0;obtain ⟨xs,hs,hx⟩:=h;have hl:xs.length = L.length:=by rw [← hx,kes,List.length_map]
 obtain ⟨i0,hi0,hz0,hz1,hz2⟩:=info_parts Xa;have hxd:kes (xs.take k) = L.take k:=by unfold kes at hx ⊢;rw [List.map_take,hx]
 have hlk:(xs.take k).length = k:=by rw [List.length_take];omega
 rcases hs.sl.2 with ⟨e,h0⟩ | ⟨b,off,cap,cs,e,hb,h1,h2,h3,h4⟩
 ·simp at e;obtain ⟨rfl,-,rfl⟩:=e;have hk0:k = 0:=by omega
  subst hk0;refine ⟨0,fun W=>?_,xs.take 0,rfl,hxd,fun hn=>absurd hlk hn⟩;simp [Instr.slice,Instr.sliceBounds,Instr.sliceBound,run_underlying Tryz.underlying30,asIntOf,sizeOf,typeInfo,hi0,hz1,add_lit]
 ·simp at e;obtain ⟨rfl,-,rfl⟩:=e;refine ⟨vc,fun W=>Zfq Tryz.underlying30 Xa b off L.length vc k (by omega) W,xs.take k,hlk,hxd,fun hn=>?_⟩;rw [hlk];refine ⟨⟨?_,.inr ⟨b,off,vc,cs,by rw [hlk],hb,by omega,e2,h3,?_⟩⟩,fun x hx'=>hs.data x (List.mem_of_mem_take hx')⟩
  ·rw [Jc,List.length_take,hs.sl.1,hlk];omega
  ·rw [Jc,← h4,List.take_take,Nat.min_eq_left (by omega),hlk]
end
end Go.Proofs.YtoehlaeaafalmaaGreat
