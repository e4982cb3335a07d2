/-
  Maps from numbers to whatever values, as functions: their loops.
-/
import Derived.Test.YthmahbfmfpjjcaaGreatQG65
import Derived.Test.YthmahbfmfpjjcaaGreatQG29
set_option linter.unusedVariables false
set_option linter.unusedSimpArgs false
set_option maxHeartbeats 4000000
set_option maxRecDepth 100000
namespace Go.Proofs.YthmahbfmfpjjcaaGreat
open Go.RowKit
open Go.Maps (int_keyed keyOf_int_mk)
structure JMap (w:World) (b n:Nat) (f:Nat→Option Value):Prop where
 ex:∃ D:DataW Value,w.ownsMap Tryz.prog 3 tokR b n D∧(∀ k,Maps.has D (ik k) = (f k).isSome∧∀ v,f k = some v→∀ z,D.atKey (ik k) z = .held v)∧(∀ kl,Maps.has D kl = true→∃ k,k < 9223372036854775808∧kl = ik k)∧Maps.Tidy D∧Maps.size D = n
theorem JMap.imap {w:World} {b n:Nat} {f:Nat→Option Value} (h:JMap w b n f):IMap w b n f:=h.ex.elim fun D h=>⟨D,h.1,h.2.1⟩
theorem JMap.noCells {w:World} {b n:Nat} {f:Nat→Option Value} (h:JMap w b n f) {cs:List Value} {T:TypeId}:¬ Blk w b cs T:=by
 obtain ⟨D,⟨es,clock,h1,_⟩,_⟩:=h.ex;intro hb;unfold Blk at hb;rw [h1] at hb
 cases hb
theorem JMap.lt {w:World} {b n:Nat} {f:Nat→Option Value} (h:JMap w b n f):b < w.heap.size:=h.ex.elim fun _ h=>h.1.lt
theorem JMap.mod {w w':World} {b n:Nat} {f:Nat→Option Value} {S:Nat→Prop} (h:JMap w b n f) (hm:Mod S w w') (hb:¬ S b):JMap w' b n f:=by
 obtain ⟨D,⟨es,clock,h1,h2⟩,h3⟩:=h.ex;exact ⟨D,⟨es,clock,(hm.block b (Array.getElem?_eq_some_iff.1 h1).1 hb).trans h1,h2⟩,h3⟩
theorem JMap.made (w:World):JMap (w.alloc (.map #[] 0)) w.heap.size 0 (fun _=>none) :=
 ⟨.map [],World.ownsMap_made _ _ _ _,fun k=>⟨rfl,fun v h=>by cases h⟩,fun kl h=>by (cases h),Maps.tidy_empty,rfl⟩
theorem JMap.len {w:World} {b n:Nat} {f:Nat→Option Value} (h:JMap w b n f) {t e:TypeId} (ht:Tryz.prog.underlying t = some (.map 3 e)) (ty:TypeId):(Builtin.len_ #[t] ty #[.map (some b)]).run Tryz.prog w = .ok (.int .i64 n) w:=by
 obtain ⟨D,h1,-,-,-,hs⟩:=h.ex;rw [h1.len ht,hs]
theorem Zio {w:World} {ops:Array Oper} {rest:List Oper} {o:Oper} {a:Act} {Q:Exit→Act→World→Prop} (hg:o.guard = none) (m x v:Operand) (t:TypeId) (hop:o.op = Op.mapUpdate t m x v) (e:TypeId) (ht:Tryz.prog.underlying t = some (.map 3 e))
  (b n k:Nat) (f:Nat→Option Value) (u:Value) (hm:a.eval m = .map (some b)) (h:JMap w b n f) (hn:n < maxLen) (hx:a.eval x = .int .i64 k) (hv:a.eval v = u) (hk:k < 9223372036854775808) (hf0:f k = none)
  (hK:∀ w',JMap w' b (n + 1) (fun j=>if j = k then some u else f j)→Mod (fun j=>j = b) w w'→wpList Tryz.prog ops Q rest (a.put o.dst undef) w'):wpList Tryz.prog ops Q (o :: rest) a w:=by
 obtain ⟨D,h1,h2,hc,hty,hsz⟩:=h.ex;have hkey:keyOf Tryz.prog 3 (.int .i64 (k:Int)) = some (ik k):=keyOf_int_mk Tryz.underlying3 (ik_wf hk);refine wpList_mapUpdate_in w hg m x v t hop 3 e ikeyed ht tokR b n D hm h1 hn (.int .i64 (k:Int)) u (ik k) hx hv hkey (.held u) [] rfl ?_;intro w' h3 h4;have hD:Maps.IsMap D:=by obtain ⟨es,clock,_,_,_,hD⟩:=h1;exact ⟨_,hD⟩
 have hno:Maps.has D (ik k) = false:=by rw [(h2 k).1,hf0];rfl
 refine hK w' ⟨_,h3,fun j=>?_,fun kl hl=>?_,hty.put (Zx k) _,by rw [Maps.size_put hty,if_neg (by rw [hno];decide),hsz]⟩ (Ye h4)
 ·by_cases e:j = k
  ·subst e;rw [if_pos rfl];exact ⟨by rw [Maps.has_put_same hD (Zx _)];rfl,fun v' hv' z=>by cases hv';exact Maps.atKey_put_same hD (Zx _) _ _⟩
  ·rw [if_neg e];obtain ⟨h5,h6⟩:=h2 j;exact ⟨by rw [Maps.has_put_other (ik_ne e)];exact h5,fun v' hv' z=>by rw [Maps.atKey_put_other (ik_ne e)];exact h6 v' hv' z⟩
 ·by_cases e:kl = ik k
  ·exact ⟨k,hk,e⟩
  ·rw [Maps.has_put_other e] at hl;exact hc kl hl
structure JRange (w:World) (b r n:Nat) (f:Nat→Option Value) (left:Nat→Bool) (cnt:Nat):Prop where
 ex:∃ (D:DataW Value) (L:Lit→Bool),w.ranges Tryz.prog 3 tokR b r n D L cnt∧(∀ k,Maps.has D (ik k) = (f k).isSome∧∀ v,f k = some v→∀ z,D.atKey (ik k) z = .held v)∧(∀ kl,Maps.has D kl = true→∃ k,k < 9223372036854775808∧kl = ik k)∧∀ k,L (ik k) = left k
theorem JRange.left_eq {w:World} {b r n cnt:Nat} {f:Nat→Option Value} {left:Nat→Bool} (h:JRange w b r n f left cnt):w.rangeLeft b r = cnt:=h.ex.elim fun _ h=>h.elim fun _ h=>h.1.left_eq
theorem JRange.lt {w:World} {b r n cnt:Nat} {f:Nat→Option Value} {left:Nat→Bool} (h:JRange w b r n f left cnt):r < w.heap.size∧b < w.heap.size∧r ≠ b:=h.ex.elim fun _ h=>h.elim fun _ h=>⟨h.1.lt,h.1.owns.lt,h.1.ne⟩
theorem JRange.noCells {w:World} {b r n cnt:Nat} {f:Nat→Option Value} {left:Nat→Bool} (h:JRange w b r n f left cnt) {cs:List Value} {T:TypeId}:¬ Blk w r cs T:=by
 obtain ⟨D,L,⟨es,clock,since,seen,c0,h1,h2,h3,h4,h5,h6⟩,h7⟩:=h.ex;intro hb;unfold Blk at hb;rw [h5] at hb
 cases hb
theorem JRange.mod {w w':World} {b r n cnt:Nat} {f:Nat→Option Value} {left:Nat→Bool} {S:Nat→Prop} (h:JRange w b r n f left cnt) (hm:Mod S w w') (hb:¬ S b) (hr:¬ S r):JRange w' b r n f left cnt:=by
 obtain ⟨D,L,⟨es,clock,since,seen,c0,h1,h2,h3,h4,h5,h6⟩,h7⟩:=h.ex;exact ⟨D,L,⟨es,clock,since,seen,c0,(hm.block b (Array.getElem?_eq_some_iff.1 h1).1 hb).trans h1,h2,h3,h4,(hm.block r (Array.getElem?_eq_some_iff.1 h5).1 hr).trans h5,h6⟩,h7⟩
theorem ZcN {w w':World} {row:Option Nat} (h:w.grownBy w' row):Mod (fun k=>some k = row) w w':=⟨h.os,h.tape,h.output,h.size,fun k hk hn=>h.block k hk hn⟩
theorem ZcO {w:World} {ops:Array Oper} {rest:List Oper} {o:Oper} {a:Act} {Q:Exit→Act→World→Prop} (hg:o.guard = none) (m:Operand) (t:TypeId) (hop:o.op = Op.range t m) (e:TypeId) (ht:Tryz.prog.underlying t = some (.map 3 e))
  (b n:Nat) (f:Nat→Option Value) (hm:a.eval m = .map (some b)) (h:JMap w b n f)
  (hK:∀ w' cnt,JRange w' b w.heap.size n f (fun k=>(f k).isSome) cnt→Mod Nowhere w w'→w'.heap.size = w.heap.size + 1→wpList Tryz.prog ops Q rest (a.put o.dst (.pointer (some ⟨w.heap.size,0,none⟩))) w'):wpList Tryz.prog ops Q (o :: rest) a w:=by
 obtain ⟨D,h1,h2,hc,-⟩:=h.ex;refine wpList_range_own w hg m t hop 3 e ikeyed ht tokR b n D hm h1 ?_;intro w' h3 h4 h5;exact hK w' _ ⟨D,_,h3,h2,hc,fun k=>(h2 k).1⟩ ((ZcN h4).mono fun k _ hk=>by cases hk) h5
theorem ZcP {w:World} {ops:Array Oper} {rest:List Oper} {o:Oper} {a:Act} {Q:Exit→Act→World→Prop} (hg:o.guard = none) (it:Operand) (hop:o.op = Op.next it false)
  (b r n cnt:Nat) (f:Nat→Option Value) (left:Nat→Bool) (hit:a.eval it = .pointer (some ⟨r,0,none⟩)) (h:JRange w b r n f left cnt)
  (hDone:cnt = 0→(∀ k,left k = false)→wpList Tryz.prog ops Q rest (a.put o.dst (.tuple #[.bool false])) w)
  (hMore:∀ (k:Nat) (v:Value) (w':World) (cnt':Nat),k < 9223372036854775808→f k = some v→left k = true→JRange w' b r n f (fun j=>left j && !decide (j = k)) cnt'→cnt' < cnt→Mod (fun j=>j = r) w w'→w'.heap.size = w.heap.size →
   (Instr.entry (.pointer (some ⟨r,0,none⟩))).run Tryz.prog w' = .ok (.tuple #[.int .i64 k,v]) w'→wpList Tryz.prog ops Q rest (a.put o.dst (.tuple #[.bool true,.int .i64 k,v])) w'):wpList Tryz.prog ops Q (o :: rest) a w:=by
 obtain ⟨D,L,h1,h2,hc,hL⟩:=h.ex;refine wpList_next_ranges w hg it hop 3 ikeyed tokR (Value.int .i64) (fun v=>v) (fun key kl hkey=>by obtain ⟨x,rfl,_⟩:=Maps.keyOf_int_inv Tryz.underlying3 hkey;exact ⟨x,rfl⟩) (fun v y _=>⟨v,rfl⟩) b r n D L cnt hit h1 (fun h0 hl=>hDone h0 fun k=>by rw [← hL k];exact hl _) ?_;intro x c kl y w' cnt' hkey hlk hv hat hrg hlt hgr hsz hen;obtain ⟨x',ex,rfl,-⟩:=Maps.keyOf_int_inv Tryz.underlying3 hkey
 cases ex
 have hhas:Maps.has D (.int .i64 x) = true:=by
  cases hh:Maps.has D (.int .i64 x) with
  | true=>rfl
  | false =>
   have e1:=(Maps.atKey_of_not_has hh (.held (.bool true))).symm.trans (hat _);have e2:=(Maps.atKey_of_not_has hh (.held (.bool false))).symm.trans (hat _);have:=e1.trans e2.symm;simp at this
 obtain ⟨k,hk,ek⟩:=hc _ hhas;have exk:x = (k:Int):=by unfold ik at ek;simpa using ek
 subst exk;obtain ⟨g1,g2⟩:=h2 k;have hfs:(f k).isSome = true:=g1.symm.trans hhas;obtain ⟨u,hu⟩:=Option.isSome_iff_exists.1 hfs
 have hcu:c = u:=by
  have h5:=(g2 u hu .nil).symm.trans (hat .nil);simp only [tokR,Option.some.injEq] at hv;rw [← hv] at h5;simpa using h5.symm
 subst hcu;refine hMore k c w' cnt' hk hu (by rw [← hL k];exact hlk) ⟨D,_,hrg,h2,hc,fun j=>?_⟩ hlt ((ZcN hgr).mono fun j _ hj=>by simpa using hj) hsz hen
 have hs:(ik j).sameKey (.int .i64 (k:Int)) = decide (j = k):=by
  show decide (IntKind.i64 = IntKind.i64∧(j:Int) = (k:Int)) = decide (j = k)
  exact decide_eq_decide.2 ⟨fun q=>by have:=q.2;omega,fun q=>⟨rfl,by rw [q]⟩⟩
 show (L (ik j) && !(ik j).sameKey (.int .i64 (k:Int))) = _
 rw [hL j,hs]
end Go.Proofs.YthmahbfmfpjjcaaGreat
/-
 The registry: ready; all entries, by their slots.
-/
namespace Go.Proofs.YthmahbfmfpjjcaaGreat
open Go.RowKit
open Jn Vn Rg
attribute [local go_sem] Oper.semAt_some
theorem Zip (F:Items) (k:Nat):at_ F (k:Int) = F k:=by unfold at_;rw [if_pos (by omega),Int.toNat_natCast]
theorem Mod.newG {w W W':World} {B:Nat} (h:Mod Nowhere w W) (hm:Mod (fun j=>j = B) W W') (hB:w.heap.size≤B):Mod Nowhere w W':=h.own hm hB
def RgAt (w:World) (rb vb:Nat):Prop:=Blk w rb [ptr vb] 75
theorem RgAt.fresh {w w':World} {rb vb:Nat} (h:RgAt w rb vb) (hm:Mod Nowhere w w'):RgAt w' rb vb:=Blk.mod h hm id
def EEl (w:World):Option En→Option Value→Prop
 | none,none=>True
 | some e,some v=>∃ u1 u2,v = .agg (eCells u1 u2 e.raw).toArray∧DSl w u1 e.aid∧DSl w u2 e.dom
 | _,_=>False
theorem EEl.mod {S:Nat→Prop} {w w':World} {a:Option En} {v:Option Value} (h:EEl w a v) (hm:Mod S w w') (hS:Shun S w 5):EEl w' a v:=by
 cases a with
 | none=>cases v with
  | none=>trivial
  | some v=>exact h.elim
 | some d=>cases v with
  | none=>exact h.elim
  | some v=>obtain ⟨u1,u2,e,h1,h2⟩:=h;exact ⟨u1,u2,e,h1.mod hm hS,h2.mod hm hS⟩
structure EMap (w:World) (b c:Nat) (G:Nat→Option En):Prop where
 ex:∃ g,JMap w b c g∧∀ k,EEl w (G k) (g k)
theorem EMap.fresh {w w':World} {b c:Nat} {G:Nat→Option En} (h:EMap w b c G) (hm:Mod Nowhere w w'):EMap w' b c G:=by
 obtain ⟨g,h1,h2⟩:=h.ex;exact ⟨g,h1.mod hm id,fun k=>(h2 k).mod hm (Shun.none _ _)⟩
namespace Rg
def uptoG (G:Nat→Option En) (k:Nat):Nat→Option En:=fun j=>if j < k then G j else none
def cntG (G:Nat→Option En) (k:Nat):Nat:=((List.range k).filterMap G).length
theorem Ziq (G:Nat→Option En) (j:Nat):uptoG G 0 j = none:=by unfold uptoG;rw [if_neg (by omega)]
theorem ZcQ (G:Nat→Option En) (k j:Nat):uptoG G (k + 1) j = if j = k then G k else uptoG G k j:=by
 unfold uptoG;by_cases e:j = k
 ·subst e;rw [if_pos (by omega),if_pos rfl]
 ·rw [if_neg e];by_cases h:j < k
  ·rw [if_pos h,if_pos (by omega)]
  ·rw [if_neg h,if_neg (by omega)]
theorem ZcR (G:Nat→Option En) (k:Nat):cntG G (k + 1) = cntG G k + (if (G k).isSome = true then 1 else 0):=by
 unfold cntG;rw [List.range_succ,List.filterMap_append,List.length_append]
 cases h:G k <;> simp [h]
theorem Zir (G:Nat→Option En) (k:Nat):cntG G k≤k:=by
 unfold cntG;have:=List.length_filterMap_le G (List.range k);simpa using this
end Rg
theorem Y5 {w:World} {rb:Nat} {A:VAt} {m:Mem} {s:VSt} (hp:RgAt w rb A.vb) (h:VRep w A m s) :
  Calls Tryz.prog 50 #[ptr rb] w fun e w'=>e = .returned (errno 0)∧Mod Nowhere w w':=by
 have hA:=Jj h;have c0:=Blk.cell hp 0;have cl:=Blk.lt hp;simp only [gz0] at c0;replace hA:=Lib.hid hA;go_enter Tryz.func50,Tryz.ntmps50;go_wp2_with fail;refine (hA.out).mono ?_;rintro e w1 ⟨rfl,hm⟩;go_wp2;go_ret;exact ⟨rfl,hm⟩
theorem Zis {w:World} {rb:Nat} {A:VAt} {m:Mem} {s:VSt} (hp:RgAt w rb A.vb) (h:VRep w A m s) (hxn:s.l.length≤1000000) {G:Nat→Option En} (hG32:∀ k,k < 32→view s (192 + k) = (G k).map enB) (hok:∀ k e,G k = some e→EOk e) :
  Calls Tryz.prog 51 #[ptr rb] w fun e w'=>∃ b,e = .returned (.map (some b))∧w.heap.size≤b∧EMap w' b (cntG G 32) (uptoG G 32)∧Mod Nowhere w w':=by
 have hG:∀ W,Mod Nowhere w W→∀ k:Nat,k < 32→Calls Tryz.prog 94 #[ptr A.vb,.int .i64 ((192 + k:Nat):Int)] W (GetPost W ((G k).map enB)):=fun W hm k hk=>by
  have:=Zh4 (h.fresh hm) hxn ((192 + k:Nat):Int) (by omega) (by omega);rw [Zip] at this;rw [← hG32 k hk];exact this
 have hR:∀ W,Mod Nowhere w W→Calls Tryz.prog 50 #[ptr rb] W fun e w'=>e = .returned (errno 0)∧Mod Nowhere W w':=fun W hm=>Y5 (hp.fresh hm) (h.fresh hm);have hmm:=run_makeMap (P:=Tryz.prog) 78 w;have hmd0:Mod Nowhere w (w.alloc (.map #[] 0)):=(Mod.refl _ w).alloc _;have hmp0:EMap (w.alloc (.map #[] 0)) w.heap.size (cntG G 0) (uptoG G 0):=⟨_,JMap.made w,fun k=>by rw [Ziq];trivial⟩
 have hpc:∀ W,Mod Nowhere w W→W.cell? ⟨rb,0,none⟩ = some (ptr A.vb)∧rb < W.heap.size:=fun W hm=>by
  have c0:=Blk.cell (hp.fresh hm) 0;simp only [gz0] at c0;exact ⟨c0,Blk.lt (hp.fresh hm)⟩
 obtain ⟨mb,hmb⟩:∃ mb,w.heap.size = mb:=⟨_,rfl⟩;have hmb':w.heap.size≤mb:=by omega
 rw [hmb] at hmm hmp0;generalize w.alloc (.map #[] 0) = w1 at hmm hmp0 hmd0;refine hid9 ?_ hmb hmp0 hmd0 hG hpc h hR hG32 hok;clear hmb hmp0 hmd0 hG hpc h hR hG32 hok;intro hmb hmp0 hmd0 hG hpc h hR hG32 hok;go_enter Tryz.func51,Tryz.ntmps51;go_wp2_with fail;refine (hR.out _ hmd0.out).mono ?_;rintro e w2 ⟨rfl,hm12⟩;have hmp2:=hmp0.out.fresh hm12;have hmd2:=hmd0.out.trans hm12;refine hid3 ?_ hmp2 hmd2 hm12;clear hmp2 hmd2 hm12;intro hmp2 hmd2 hm12;go_wp2;clear hmm
 go_loopw [12] (fun i wr=>∃ k:Nat,k≤32∧i = .int .i64 k∧EMap wr mb (cntG G k) (uptoG G k)∧Mod Nowhere w wr) (fun i _=>32 - (RowKit.intOf i).toNat)
 case atStart=>exact ⟨0,by omega,rfl,hmp2.out,hmd2.out⟩
 case round =>
  obtain ⟨k,hk,rfl,hmp,hm⟩:=hrel;by_cases hlt:k < 32
  ·have hg1:=hG.out wr hm k hlt;obtain ⟨c0,cl⟩:=hpc.out wr hm;have hadd:IntKind.i64.wrap (192 + (k:Int)) = ((192 + k:Nat):Int):=by rw [IntKind.wrap_i64];omega
   have hlti:(k:Int) < 32:=by omega
   cases hF:G k with
   | none =>
    rw [hF] at hg1
    have hup:uptoG G (k + 1) = uptoG G k:=by
     funext j
     rw [ZcQ,hF]
     split
     ·rename_i e;subst e;unfold uptoG;rw [if_neg (by omega)]
     ·rfl
    have hcn:cntG G (k + 1) = cntG G k:=by rw [ZcR,hF];rfl
    unfold GetPost at hg1;refine hid6 ?_ hg1 hmp hm hF hup hcn;clear hg1 hmp hm hF hup hcn;intro hg1 hmp hm hF hup hcn;go_wp2_with fail;refine (hg1.out).mono ?_;rintro e w2 ⟨v,rfl,ho,hm2⟩;obtain ⟨va,vc,rfl,-⟩:=Zg ho;refine hid2 ?_ ho hm2;clear ho hm2;intro ho hm2;go_wp2;go_roundw
    case rel=>exact ⟨k + 1,by omega,by go_num,by rw [hup.out,hcn.out];exact hmp.out.fresh hm2.out,hm.out.trans hm2.out⟩
    case measure=>simp [RowKit.intOf];omega
   | some e =>
    have he:=hok.out k e hF;rw [hF] at hg1;unfold GetPost at hg1;have hD:=fun W v (hv:DSl W v (enB e))=>Zif he hv;unfold EnPost at hD;simp only [Option.isSome_some,Option.getD_some,Option.map_some] at hg1;obtain ⟨n,hn⟩:∃ n,(enB e).length = n:=⟨_,rfl⟩;have hup:∀ j,uptoG G (k + 1) j = if j = k then some e else uptoG G k j:=fun j=>by rw [ZcQ,hF]
    have hcn:cntG G (k + 1) = cntG G k + 1:=by rw [ZcR,hF];rfl
    have hcl:=Zir G k;obtain ⟨g,hng,hgl⟩:=hmp.ex
    have hgk:g k = none:=by
     have:=hgl k;unfold uptoG at this;rw [if_neg (Nat.lt_irrefl k)] at this
     cases hg:g k with
     | none=>rfl
     | some v=>rw [hg] at this;exact this.elim
    rw [hn] at hg1;generalize cntG G k = c at *;refine hid12 ?_ hD hmp hm hF hup hn hng hgl hg1 he hcn hgk;clear hD hmp hm hF hup hn hng hgl hg1 he hcn hgk;intro hD hmp hm hF hup hn hng hgl hg1 he hcn hgk;go_wp2_with fail;refine (hg1.out).mono ?_;rintro e w2 ⟨v,rfl,ho,hm2⟩;have hds:=Sl.of_owns ho;obtain ⟨va,vc,rfl,-⟩:=Zg ho;have hdc:=hD.out w2 (.slice va n vc) (by unfold DSl;rw [hn.out];exact hds);refine hid4 ?_ ho hm2 hds hdc;clear ho hm2 hds hdc;intro ho hm2 hds hdc;go_wp2_with fail;refine (hdc.out).mono ?_;rintro e w3 ⟨u1,u2,rfl,hd1,hd2,hm3⟩;have hm23:=hm2.out.trans hm3;have hng3:JMap w3 mb c g:=hng.out.mod hm23 id
    refine hid4 ?_ hd1 hd2 hm3 hm23;clear hd1 hd2 hm3 hm23;intro hd1 hd2 hm3 hm23;have hk9:k < 9223372036854775808:=by omega
    have hcm:c < maxLen:=by unfold maxLen;omega
    go_wp2_with (with_reducible refine Zio rfl (.tmp 26) (.tmp 27) (.tmp 29) 78 rfl 24 Tryz.underlying78 mb c k g (.agg (eCells u1 u2 e.raw).toArray) rfl hng3 hcm rfl rfl hk9 hgk.out ?_;intro w4 hmp4 hm4;replace hmp4:=Lib.hid hmp4;replace hm4:=Lib.hid hm4)
    go_roundw
    case rel =>
     refine ⟨k + 1,by omega,by go_num,?_,(hm.out.trans hm23.out).newG hm4.out hmb'⟩;rw [hcn.out];refine ⟨_,hmp4.out,fun j=>?_⟩;have hS:Shun (fun j=>j = mb) w3 5:=fun i hi cs hb=>by have hi:i = mb:=hi;subst hi;exact hng3.noCells hb
     rw [hup.out j]
     split
     ·exact ⟨u1,u2,rfl,hd1.out.mod hm4.out hS,hd2.out.mod hm4.out hS⟩
     ·exact ((hgl.out j).mod hm23.out (Shun.none _ _)).mod hm4.out hS
    case measure=>simp [RowKit.intOf];omega
  ·obtain rfl:k = 32:=by omega
   refine hid2 ?_ hmp hm;clear hmp hm;intro hmp hm;go_wp2;go_ret;exact ⟨mb,rfl,hmb',hmp.out,hm.out⟩
end Go.Proofs.YthmahbfmfpjjcaaGreat
/-
 The registry: the entries in the order of their identifiers.
-/
namespace Go.Proofs.YthmahbfmfpjjcaaGreat
open Go.RowKit
open Jn Vn Rg
attribute [local go_sem] Oper.semAt_some
namespace Rg
theorem Zit (G:Nat→Option En):(ents G).length≤32:=by
 unfold ents;have:=List.length_filterMap_le G (List.range 32);simpa using this
end Rg
theorem EOwn.modR {w w':World} {B r:Nat} {va:Option Addr} {L vcap:Nat} {ys:List Ex} (h:EOwn w B va L vcap ys) (hm:Mod (fun j=>j = r) w w') (hr:r < B) (hS:Shun (fun j=>j = r) w 5):EOwn w' B va L vcap ys :=
 ⟨h.len,Zd h.own hm (fun k hk e=>by have e:k = r:=e;omega),fun y hy=>(h.data y hy).mod hm hS⟩
theorem ZcS (e:En):e.raw.en = e:=rfl
theorem Ziu {G:Nat→Option En} {l q:List En} {zs ys:List Ex} (hS:SRel G l) (hq:q.Perm (ents G)) (hys:exps ys = q.map En.raw) (hp:zs.Perm ys) (ho:zs.Pairwise fun a b=>ltB b.2.aid a.2.aid = false):exps zs = l.map En.raw:=by
 have h1:(exps zs).Perm (q.map En.raw):=by rw [← hys];exact hp.map _
 have h2:((exps zs).map REn.en).Perm q:=by
  have:=h1.map REn.en;rw [List.map_map] at this
  have e:q.map (REn.en ∘ En.raw) = q:=by
   have:(REn.en ∘ En.raw) = id:=by funext e;exact ZcS e
   rw [this,List.map_id]
  rw [e] at this;exact this
 have h3:((exps zs).map REn.en).map En.raw = exps zs:=by
  rw [List.map_map]
  conv=>rhs;rw [← List.map_id (exps zs)]
  apply List.map_congr_left
  intro x hx;obtain ⟨e,-,rfl⟩:=List.mem_map.1 (h1.mem_iff.1 hx)
  show (e.raw.en).raw = e.raw
  rw [ZcS]
 have h4:((exps zs).map REn.en).Pairwise fun a b=>ltB b.aid a.aid = false:=by
  unfold exps;rw [List.map_map,List.pairwise_map];exact ho
 have:=ZgR hS hq h2 h4;rw [← h3,this]
theorem ZcT {w:World} {b c:Nat} {G:Nat→Option En} {l:List En} (hm:EMap w b c G) (hS:SRel G l) :
  Calls Tryz.prog 67 #[.map (some b),.func (.func 68) #[] #[]] w (EPost w (l.map En.raw)):=by
 obtain ⟨g,hj,hel⟩:=hm.ex;have hok:∀ k e,G k = some e→EOk e∧k < 32:=fun k e hk=>⟨hS.inv.ok e (hS.mem hk),hS.lt k e hk⟩
 have hgs:∀ k,(g k).isSome = (G k).isSome:=fun k=>by
  have:=hel k
  cases h1:G k <;> cases h2:g k <;> rw [h1,h2] at this <;> first | rfl | exact this.elim
 obtain ⟨B,hB⟩:∃ B,w.heap.size + 1 = B:=⟨_,rfl⟩;obtain ⟨r,hr⟩:∃ r,w.heap.size = r:=⟨_,rfl⟩;have hrB:r < B:=by omega
 have hwB:w.heap.size≤B:=by omega
 have hrw:w.heap.size≤r:=by omega
 refine hid7 ?_ hm hel hok hgs hB hr hS;clear hm hel hok hgs hB hr hS;intro hm hel hok hgs hB hr hS;go_enter Tryz.func67,Tryz.ntmps67
 go_wp2_with (with_reducible refine ZcO rfl (.tmp 8) 78 rfl 24 Tryz.underlying78 b c g rfl hj ?_;intro w1 cnt1 hrg1 hmd1 hsz1;rw [hr.out] at hrg1 ⊢;replace hrg1:=Lib.hid hrg1;replace hmd1:=Lib.hid hmd1;replace hsz1:=Lib.hid hsz1)
 go_frame
 go_loopw [5] (fun v wr=>∃ (left:Nat→Bool) (cnt L:Nat) (va:Option Addr) (vcap:Nat) (ys:List Ex) (q:List En),v = .slice va L vcap∧JRange wr b r c g left cnt∧EOwn wr B va L vcap ys∧exps ys = q.map En.raw∧q.Perm (ents (shown G left))∧L≤32∧Mod Nowhere w wr) (fun _ wr=>wr.rangeLeft b r)
 case atStart=>exact ⟨_,cnt1,0,none,0,[],[],rfl,hrg1.out,EOwn.nil _ _,rfl,ZgO hgs.out,by omega,hmd1.out⟩
 case round =>
  obtain ⟨left,cnt,L,va,vcap,ys,q,rfl,hrg,hown,hys,hq,hL,hmw⟩:=hrel;have hleq:=hrg.left_eq;have hqe:=hown.len;refine hid6 ?_ hown hys hq hmw hqe hleq;clear hown hys hq hmw hqe hleq;intro hown hys hq hmw hqe hleq
  go_wp2_with (with_reducible refine ZcP rfl (.tmp 9) rfl b r c cnt g left rfl hrg ?_ ?_)
  ·intro h0 hall;have hq2:=ZgQ hq.out hall
   have hby:∀ y ∈ ys,Bytes y.2.aid∧Bytes y.2.dom:=fun y hy=>by
    have h1:y.2 ∈ exps ys:=List.mem_map_of_mem hy;rw [hys.out] at h1;obtain ⟨e,he,h2⟩:=List.mem_map.1 h1;obtain ⟨k,-,hk⟩:=XJ.1 (hq2.mem_iff.1 he);have:=(hok.out k e hk).1;rw [← h2];exact ⟨this.ba,this.bd⟩
   have hsr:=Zin hown.out hby (by omega);have hbw:wr.heap.size + 0 = wr.heap.size:=rfl
   refine hid3 ?_ hsr hq2 hby;clear hsr hq2 hby;intro hsr hq2 hby
   go_wp2_with fail;refine (hsr.out).mono ?_;rintro e w2 ⟨rfl,zs,hzp,hzo,hown2,hm2⟩;have hfin:EPost w (l.map En.raw) (.returned (.slice va L vcap)) w2:=⟨_,zs,rfl,hown2.esl,Ziu hS.out hq2.out hys.out hzp hzo,hmw.out.step hm2 fun i hi e=>by have e:B≤i:=e;omega⟩;clear hown2 hzp hzo hm2;replace hfin:=Lib.hid hfin;go_wp2;go_ret;exact hfin.out
  ·intro k v w' cnt' hk hgk hlk hrg' hlt hmr hszr hen;have hGs:(G k).isSome = true:=by rw [← hgs.out k,hgk];rfl
   obtain ⟨e,hGk⟩:=Option.isSome_iff_exists.1 hGs;have hev:=hel.out k;rw [hGk,hgk] at hev;obtain ⟨u1,u2,rfl,hd1,hd2⟩:=hev;have hsh:Shun (fun j=>j = r) wr 5:=fun i hi cs hb=>by have hi:i = r:=hi;subst hi;exact hrg.noCells hb
   have hown':=hown.out.modR hmr hrB hsh;have hd1':=DSl.mod (hd1.fresh hmw.out) hmr hsh;have hd2':=DSl.mod (hd2.fresh hmw.out) hmr hsh;have hmw':=hmw.out.own hmr hrw;have hleq':=hrg'.left_eq;have hq':=ZgP hq.out (hok.out k e hGk).2 hlk hGk
   have hL':L + 1≤32:=by
    have h1:=hq'.length_eq;have h2:=Zit (shown G fun j=>left j && !decide (j = k));have h3:(exps ys).length = (q.map En.raw).length:=by rw [hys.out]
    rw [Zs,List.length_map] at h3;have h4:=hqe.out;rw [List.length_append,List.length_singleton] at h1;omega
   clear hd1 hd2;obtain ⟨a1,c1,rfl,-⟩:=Sl.len hd1';obtain ⟨a2,c2,rfl,-⟩:=Sl.len hd2';have hrl:=hrg'.lt.1;have hBw:B≤w'.heap.size:=by have h1:=hr.out;have h2:=hB.out;omega
   have hmA:Mod Nowhere w' (w'.alloc (.cells (exCells ((.slice a1 e.aid.length c1,.slice a2 e.dom.length c2),e.raw)).toArray 24)):=(Mod.refl _ w').alloc _;obtain ⟨va',vc',W2,r3,ho2,hm2,hm2b⟩:=e_put (w:=w) (x:=((.slice a1 e.aid.length c1,.slice a2 e.dom.length c2),e.raw)) ⟨DSl.fresh hd1' hmA,DSl.fresh hd2' hmA⟩ (hown'.fresh hmA) (Nat.le_trans hBw hmA.size) (by omega) (hmw'.trans hmA) hwB;have hys2:exps (ys ++ [((.slice a1 e.aid.length c1,.slice a2 e.dom.length c2),e.raw)]) = (q ++ [e]).map En.raw:=by rw [Zy,List.map_append,hys.out];rfl
   unfold exCells at r3;dsimp only at r3;simp only [World.size_alloc,hszr] at r3;have hbB:b < B:=by have h1:=hj.lt;omega
   have hrel2:JRange W2 b r c g (fun j=>left j && !decide (j = k)) cnt':=hrg'.mod ((hmA.nowhere (S:=Above B)).trans hm2b) (fun h=>by have h:B≤b:=h;omega) (fun h=>by have h:B≤r:=h;omega);have hcl:W2.rangeLeft b r < wr.rangeLeft b r:=by rw [hrel2.left_eq,hleq.out];exact hlt
   refine hid12 ?_ hown' hd1' hd2' hmw' hleq' hq' hrg' hGk hlk hmr hsh ho2;clear hown' hd1' hd2' hmw' hleq' hq' hrg' hGk hlk hmr hsh ho2;intro hown' hd1' hd2' hmw' hleq' hq' hrg' hGk hlk hmr hsh ho2;refine hid6 ?_ hm2 hm2b hmA hys2 hrel2 hcl;clear hm2 hm2b hmA hys2 hrel2 hcl;intro hm2 hm2b hmA hys2 hrel2 hcl;unfold eCells at hen ⊢
   go_wp2_with (at_builtin;refine Lib.wpList_append_run _ rfl _ _ _ _ rfl _ _ (by rfl) (by rfl) _ _ r3 ?_;clear r3)
   go_roundw
   case rel=>exact ⟨_,_,L + 1,va',vc',_,q ++ [e],rfl,hrel2.out,ho2.out,hys2.out,hq'.out,hL',hm2.out⟩
   case measure=>exact hcl.out
end Go.Proofs.YthmahbfmfpjjcaaGreat
/-
 The registry: List; the first entry with a property.
-/
namespace Go.Proofs.YthmahbfmfpjjcaaGreat
open Go.RowKit
open Jn Vn Rg
attribute [local go_sem] Oper.semAt_some
structure Reg (w:World) (rb:Nat) (A:VAt) (m:Mem) (s:VSt) (l:List En):Prop where
 at_:RgAt w rb A.vb
 rep:VRep w A m s
 len:s.l.length≤1000000
 ex:∃ G,(∀ k,k < 32→view s (192 + k) = (G k).map enB)∧SRel G l
theorem Reg.fresh {w w':World} {rb:Nat} {A:VAt} {m:Mem} {s:VSt} {l:List En} (h:Reg w rb A m s l) (hm:Mod Nowhere w w'):Reg w' rb A m s l:=⟨h.at_.fresh hm,h.rep.fresh hm,h.len,h.ex⟩
theorem Reg.inv {w:World} {rb:Nat} {A:VAt} {m:Mem} {s:VSt} {l:List En} (h:Reg w rb A m s l):RInv l:=by obtain ⟨G,-,h2⟩:=h.ex;exact h2.inv
theorem Ziv {G:Nat→Option En} {l:List En} (h:SRel G l):uptoG G 32 = G:=by
 funext k
 unfold uptoG;by_cases hk:k < 32
 ·rw [if_pos hk]
 ·rw [if_neg hk]
  cases hg:G k with
  | none=>rfl
  | some e=>exact absurd (h.lt k e hg) hk
theorem Ziw {G:Nat→Option En} {l:List En} (h:SRel G l):cntG G 32 = l.length:=h.perm.length_eq
theorem Jl {w:World} {rb:Nat} {A:VAt} {m:Mem} {s:VSt} {l:List En} {G:Nat→Option En} (h:Reg w rb A m s l) (hG:∀ k,k < 32→view s (192 + k) = (G k).map enB) (hS:SRel G l) :
  Calls Tryz.prog 51 #[ptr rb] w fun e w'=>∃ b,e = .returned (.map (some b))∧w.heap.size≤b∧EMap w' b l.length G∧Mod Nowhere w w':=by
 have:=Zis h.at_ h.rep h.len hG (fun k e hk=>hS.inv.ok e (hS.mem hk));rw [Ziv hS,Ziw hS] at this;exact this
theorem Jm {w:World} {rb:Nat} {A:VAt} {m:Mem} {s:VSt} {l:List En} (h:Reg w rb A m s l):Calls Tryz.prog 24 #[ptr rb] w (EPost w (l.map En.raw)):=by
 obtain ⟨G,hG,hS⟩:=h.ex;have hA:=Jl h hG hS;have hO:=fun W b (hm:EMap W b l.length G)=>ZcT hm hS;generalize l.map En.raw = R at *;refine hid2 ?_ hA hO;clear hA hO;intro hA hO;go_enter Tryz.func24,Tryz.ntmps24;go_wp2_with fail;refine (hA.out).mono ?_;rintro e w1 ⟨b,rfl,hb,hm,hmd⟩;have hO1:=hO.out w1 b hm;refine hid4 ?_ hm hmd hb hO1;clear hm hmd hb hO1;intro hm hmd hb hO1;go_wp2_with fail;refine (hO1.out).mono ?_;rintro e w2 ⟨v,xs,rfl,hs,hx,hm2⟩;obtain ⟨va,vc,rfl,-⟩:=hs.sl.gen;have hfin:EPost w R (.returned (.slice va xs.length vc)) w2:=⟨_,xs,rfl,hs,hx,hmd.out.trans hm2⟩
 clear hs hx hm2;replace hfin:=Lib.hid hfin;go_wp2;go_ret;exact hfin.out
theorem Z0 {w:World} {rb:Nat} {A:VAt} {m:Mem} {s:VSt} {l:List En} (h:Reg w rb A m s l) (g:FuncId) (cap:Array Value) (hent:∀ args w,(callFunc g args).run Tryz.prog w = .ok (.enter g args) w) (pd:En→Bool)
  (hcall:∀ e ∈ l,∀ u v W,Mod Nowhere w W→DSl W u e.aid→DSl W v e.dom→Calls Tryz.prog g (#[.agg (eCells u v e.raw).toArray] ++ cap) W fun r w'=>r = .returned (.bool (pd e))∧Mod Nowhere W w') :
  Calls Tryz.prog 43 #[ptr rb,.func (.func g) #[] cap] w (FPost w (l.find? pd)):=by
 have hinv:=h.inv;have hm0:Mod Nowhere w (w.alloc (.cells zero8.toArray 24)):=(Mod.refl _ w).alloc _;have hL:=Jm (h.fresh hm0);have hT0:=Blk.new w zero8 24;have hT:∀ W,Mod Nowhere (w.alloc (.cells zero8.toArray 24)) W→Blk W w.heap.size zero8 24:=fun W hm=>hT0.mod hm id
 have hI:∀ W v xs,Mod Nowhere w W→ESl W v xs→exps xs = l.map En.raw→Calls Tryz.prog 91 #[v,.func (.func g) #[] cap] W fun e w'=>∃ r:Int,e = .returned (.int .i64 r)∧FoundAt (exps xs) (fun r=>pd r.en) r∧Mod Nowhere W w':=fun W v xs hm hs hx =>
  Zii hs (by
   have h1:(exps xs).length = (l.map En.raw).length:=by rw [hx]
   rw [Zs,List.length_map] at h1;have:=hinv.len
   omega) g cap hent (fun r=>pd r.en) fun x hxm wr hmr=>by
   have h2:x.2 ∈ l.map En.raw:=by rw [← hx];exact List.mem_map_of_mem hxm
   obtain ⟨e,he,hee⟩:=List.mem_map.1 h2;have hd:=(hs.data x hxm).fresh hmr;obtain ⟨⟨u1,u2⟩,y⟩:=x;have hee:e.raw = y:=hee;subst hee;exact hcall e he u1 u2 wr (hm.trans hmr) hd.da hd.dd
 have hfo:=Zfv (l:=l) (pd:=pd);obtain ⟨o,ho⟩:∃ o,l.find? pd = o:=⟨_,rfl⟩;rw [ho] at hfo ⊢;unfold zero8 at hL hm0 hT;clear hT0 hcall h;refine hid7 ?_ hL hm0 hT hI hfo ho hinv;clear hL hm0 hT hI hfo ho hinv;intro hL hm0 hT hI hfo ho hinv;go_enter Tryz.func43,Tryz.ntmps43;go_wp2_with fail;refine (hL.out).mono ?_;rintro e w1 ⟨v,xs,rfl,hs,hx,hm1⟩;have hI1:=hI.out w1 v xs (hm0.out.trans hm1) hs hx;obtain ⟨va,vc,rfl,-⟩:=hs.sl.gen;refine hid4 ?_ hI1 hs hx hm1;clear hI1 hs hx hm1;intro hI1 hs hx hm1;go_wp2_with fail;refine (hI1.out).mono ?_;rintro e w2 ⟨r,rfl,hf,hm2⟩;have hm12:=hm1.out.trans hm2;have bT:=hT.out w2 hm12
 have hmw:=hm0.out.trans hm12;unfold FoundAt at hf;rw [hx.out,hfo.out] at hf;rcases hf with ⟨rfl,hno⟩ | ⟨k,e,rfl,hk,hfe⟩
 ·have h0:o = none:=by cases o with
   | none=>rfl
   | some e=>cases hno
  subst h0;have hb8:=blk8 bT (.slice none 0 0) (.int .i64 0) (.int .i64 0) (.int .i64 0) (.int .i64 0) (.slice none 0 0) (.int .i64 0) (.int .i64 0);unfold put8 at hb8;have hmf:=hmw.own hb8.2 (Nat.le_refl _);have hbl:=hb8.1;clear hb8;have yl:=bT.lt;have y0:=bT.cell 0;have y1:=bT.cell 1;have y2:=bT.cell 2;have y3:=bT.cell 3;have y4:=bT.cell 4;have y5:=bT.cell 5;have y6:=bT.cell 6;have y7:=bT.cell 7;have yf0:=bT.frozen 0;have yf1:=bT.frozen 1;have yf2:=bT.frozen 2;have yf3:=bT.frozen 3;have yf4:=bT.frozen 4;have yf5:=bT.frozen 5;have yf6:=bT.frozen 6;have yf7:=bT.frozen 7;simp only [gz0,gs0] at y0 y1 y2 y3 y4 y5 y6 y7
  refine hid6 ?_ hmf hbl hm12 hmw bT hm2;clear hmf hbl hm12 hmw bT hm2;intro hmf hbl hm12 hmw bT hm2;go_wp2;refine bodyPost_ret (ZX rfl _ _ w.heap.size _ _ _ _ _ _ _ _ rfl hbl.out) rfl ?_;exact ⟨_,_,rfl,Sl.nil _ _ _,Sl.nil _ _ _,hmf.out⟩
 ·obtain ⟨en,rfl⟩:∃ en,o = some en:=by cases o with
   | none=>cases hfe
   | some e=>exact ⟨e,rfl⟩
  have hfe:some en.raw = some e:=hfe;obtain rfl:en.raw = e:=by simpa using hfe
  have hlt:k < xs.length:=by
   have:=(List.getElem?_eq_some_iff.1 hk).1;rw [← hx.out,Zs] at this;exact this
  have hs2:=hs.out.fresh hm2;obtain ⟨b,off,cap',a1,c1,a2,c2,e0,hb,_,_,hc,e1,e2⟩:=hs2.at_ hlt
  have hxe:xs[k].2 = en.raw:=by
   have h1:(exps xs)[k]? = some xs[k].2:=by unfold exps;rw [List.getElem?_map,List.getElem?_eq_getElem hlt];rfl
   rw [hx.out,hk] at h1;simpa using h1.symm
  obtain ⟨q0,q1,q2,q3,q4,q5,q6,q7⟩:=eight hc;have hd:=hs2.data xs[k] (List.getElem_mem hlt);obtain ⟨d1,d2⟩:=hd;rw [e1] at d1 q0;rw [e2] at d2 q5;rw [hxe] at d1 d2 q0 q1 q2 q3 q4 q5 q6 q7
  obtain ⟨rfl,rfl⟩:va = some ⟨b,off,none⟩∧vc = cap':=by
   simp at e0;exact ⟨e0.1,e0.2⟩
  have hb8:=blk8 bT (.slice a1 en.raw.aid.length c1) (.int .i64 en.raw.kind) (.int .i64 en.raw.st) (.int .i64 en.raw.bf) (.int .i64 en.raw.pr) (.slice a2 en.raw.dom.length c2) (.int .i64 en.raw.pk) (.int .i64 en.raw.ob);unfold put8 at hb8;have hs1:=shun1 (U:=5) bT (by decide);have f1:=DSl.mod d1 hb8.2 hs1;have f2:=DSl.mod d2 hb8.2 hs1;have hmf:=hmw.own hb8.2 (Nat.le_refl _);have hbl:=hb8.1;clear hb8 hs1 hc e1 e2 d1 d2 hxe hk hfe;have yl:=bT.lt;have y0:=bT.cell 0;have y1:=bT.cell 1;have y2:=bT.cell 2;have y3:=bT.cell 3;have y4:=bT.cell 4;have y5:=bT.cell 5;have y6:=bT.cell 6;have y7:=bT.cell 7;have yf0:=bT.frozen 0;have yf1:=bT.frozen 1;have yf2:=bT.frozen 2;have yf3:=bT.frozen 3;have yf4:=bT.frozen 4;have yf5:=bT.frozen 5;have yf6:=bT.frozen 6;have yf7:=bT.frozen 7
  simp only [gz0,gs0] at y0 y1 y2 y3 y4 y5 y6 y7;have hki:(k:Int) < (xs.length:Int):=by omega
  refine hid9 ?_ hmf hbl hm12 hmw bT hm2 f1 f2 hs2;clear hmf hbl hm12 hmw bT hm2 f1 f2 hs2;intro hmf hbl hm12 hmw bT hm2 f1 f2 hs2;go_wp2;refine bodyPost_ret (ZX rfl _ _ w.heap.size _ _ _ _ _ _ _ _ rfl hbl.out) rfl ?_;exact ⟨_,_,rfl,f1.out,f2.out,hmf.out⟩
end Go.Proofs.YthmahbfmfpjjcaaGreat
