/-
  The vault's maps of items: setting, deleting, copying, weighing.
-/
import Derived.Test.YtanioleniadhoaaGreatALaysD
import Derived.Test.YtanioleniadhoaaGreatAG14
set_option linter.unusedVariables false
set_option linter.unusedSimpArgs false
set_option maxHeartbeats 4000000
set_option maxRecDepth 100000
namespace Go.Proofs.YtanioleniadhoaaGreat
open Go.RowKit
open Jn Vn
section
variable {S : Nat → Prop} {w w' : World} {v : Value} {d : List Nat} {b : Nat} {f : Items} {xs : List Vx}
theorem VMap.shun (h:VMap w b f) (T:TypeId):Shun (fun j=>j = b) w T:=fun k e cs hb=>by
 have e:k = b:=e;subst e;exact h.noCells hb
theorem VMap.congr {f':Items} (h:VMap w b f) (e:f = f'):VMap w b f':=e ▸ h
theorem VMap.made (w:World):VMap (w.alloc (.map #[] 0)) w.heap.size none_:=⟨fun _=>none,NMap.made w,fun k=>.inl ⟨rfl,rfl⟩⟩
theorem wpList_vmap_put {ops:Array Oper} {rest:List Oper} {o:Oper} {a:Act} {Q:Exit→Act→World→Prop} (hg:o.guard = none) (m x v:Operand) (t:TypeId) (hop:o.op = Op.mapUpdate t m x v) (e:TypeId) (ht:Tryz.prog.underlying t = some (.map 3 e))
  (b k:Nat) (f:Items) (u:Value) (d:List Nat) (hm:a.eval m = .map (some b)) (h:VMap w b f) (hd:DSl w u d) (hx:a.eval x = .int .i64 k) (hv:a.eval v = u) (hk:k < 4097)
  (hK:∀ w',VMap w' b (set1 f (k,some d))→Mod (fun j=>j = b) w w'→wpList Tryz.prog ops Q rest (a.put o.dst undef) w'):wpList Tryz.prog ops Q (o :: rest) a w:=by
 have hsh:=h.shun 5;obtain ⟨g,h1,h2⟩:=h.ex;refine wpList_nmap_put hg m x v t hop e ht b k g u hm h1 hx hv hk ?_;intro w' h3 h4;refine hK w' ⟨_,h3,fun j=>?_⟩ h4;unfold set1;by_cases e:j = k
 ·subst e;exact .inr ⟨d,u,by simp,by simp,hd.mod h4 hsh⟩
 ·rcases h2 j with ⟨h5,h6⟩ | ⟨d',v',h5,h6,h7⟩
  ·exact .inl ⟨by simp [e,h5],by simp [e,h6]⟩
  ·exact .inr ⟨d',v',by simp [e,h5],by simp [e,h6],h7.mod h4 hsh⟩
theorem wpList_vmap_del {ops:Array Oper} {rest:List Oper} {o:Oper} {a:Act} {Q:Exit→Act→World→Prop} (hg:o.guard = none) (m x:Operand) (t:TypeId) (hop:o.op = Op.call { callee:=Callee.builtin Builtin.delete,args:=#[m,x],argTypes:=#[t,3] }) (e:TypeId) (ht:Tryz.prog.underlying t = some (.map 3 e))
  (b k:Nat) (f:Items) (hm:a.eval m = .map (some b)) (h:VMap w b f) (hx:a.eval x = .int .i64 k) (hk:k < 4097)
  (hK:∀ w',VMap w' b (set1 f (k,none))→Mod (fun j=>j = b) w w'→wpList Tryz.prog ops Q rest (a.put o.dst (.tuple #[])) w'):wpList Tryz.prog ops Q (o :: rest) a w:=by
 have hsh:=h.shun 5;obtain ⟨g,h1,h2⟩:=h.ex;refine wpList_nmap_del hg m x t hop e ht b k g hm h1 hx hk ?_;intro w' h3 h4;refine hK w' ⟨_,h3,fun j=>?_⟩ h4;unfold set1;by_cases e:j = k
 ·subst e;exact .inl ⟨by simp,by simp⟩
 ·rcases h2 j with ⟨h5,h6⟩ | ⟨d',v',h5,h6,h7⟩
  ·exact .inl ⟨by simp [e,h5],by simp [e,h6]⟩
  ·exact .inr ⟨d',v',by simp [e,h5],by simp [e,h6],h7.mod h4 hsh⟩
theorem NMap.put_run {g:Nat→Option Value} (h:NMap w b g) {t e:TypeId} (ht:Tryz.prog.underlying t = some (.map 3 e)) {k:Nat} (hk:k < 4097) (u:Value) :
  ∃ w',(Instr.mapUpdate t (.map (some b)) (.int .i64 k) u).run Tryz.prog w = .ok () w'∧NMap w' b (fun j=>if j = k then some u else g j)∧Mod (fun j=>j = b) w w':=by
 obtain ⟨D,h1,h2⟩:=h.ex;have hkey:keyOf Tryz.prog 3 (.int .i64 (k:Int)) = some (ik k):=Maps.keyOf_int_mk Tryz.underlying3 (ik_wf (by omega));obtain ⟨w',hrun,h3,h4⟩:=h1.store ikeyed ht (by unfold maxLen;omega) hkey (show tokR u = some (.held u,[]) from rfl);have hD:Maps.IsMap D:=by obtain ⟨es,clock,_,_,_,hD⟩:=h1;exact ⟨_,hD⟩
 have hI:NIs (D.put (ik k) (.held u)) (fun j=>if j = k then some u else g j):=by
  refine ⟨fun j=>?_,fun kl hkl=>?_⟩
  ·by_cases e:j = k
   ·subst e;rw [if_pos rfl];exact ⟨by rw [Maps.has_put_same hD (ik_key _)];rfl,fun v' hv' z=>by cases hv';exact Maps.atKey_put_same hD (ik_key _) _ _⟩
   ·rw [if_neg e];obtain ⟨h5,h6⟩:=h2.is j;exact ⟨by rw [Maps.has_put_other (ik_ne e)];exact h5,fun v' hv' z=>by rw [Maps.atKey_put_other (ik_ne e)];exact h6 v' hv' z⟩
  ·by_cases e:kl = ik k
   ·exact ⟨k,hk,e⟩
   ·rw [Maps.has_put_other e] at hkl;exact h2.only _ hkl
 exact ⟨w',hrun,⟨_,tighten h3 hI.only,hI⟩,mod_turned h4⟩
theorem VMap.put_run (h:VMap w b f) {t e:TypeId} (ht:Tryz.prog.underlying t = some (.map 3 e)) {k:Nat} (hk:k < 4097) {u:Value} (hd:DSl w u d) :
  ∃ w',(Instr.mapUpdate t (.map (some b)) (.int .i64 k) u).run Tryz.prog w = .ok () w'∧VMap w' b (set1 f (k,some d))∧Mod (fun j=>j = b) w w':=by
 have hsh:=h.shun 5;obtain ⟨g,h1,h2⟩:=h.ex;obtain ⟨w',hrun,h3,h4⟩:=h1.put_run ht hk u;refine ⟨w',hrun,⟨_,h3,fun j=>?_⟩,h4⟩;unfold set1;by_cases e:j = k
 ·subst e;exact .inr ⟨d,u,by simp,by simp,hd.mod h4 hsh⟩
 ·rcases h2 j with ⟨h5,h6⟩ | ⟨d',v',h5,h6,h7⟩
  ·exact .inl ⟨by simp [e,h5],by simp [e,h6]⟩
  ·exact .inr ⟨d',v',by simp [e,h5],by simp [e,h6],h7.mod h4 hsh⟩
theorem VMap.look_ok (h:VMap w b f) {t e:TypeId} (ht:Tryz.prog.underlying t = some (.map 3 e)) (hz:(zeroValue e).run Tryz.prog w = .ok (.slice none 0 0) w) {k:Nat} (hk:k < 9223372036854775808) :
  ∃ u,(Instr.lookup t (.map (some b)) (.int .i64 k) true).run Tryz.prog w = .ok (.tuple #[u,.bool (f k).isSome]) w∧DSl w u ((f k).getD []):=by
 obtain ⟨g,h1,h2⟩:=h.ex;have hl:=h1.look_ok ht hz hk;rcases h2 k with ⟨h5,h6⟩ | ⟨d',v',h5,h6,h7⟩
 ·rw [h6] at hl;rw [h5];exact ⟨_,hl,Sl.nil _ _ _⟩
 ·rw [h6] at hl;rw [h5];exact ⟨_,hl,h7⟩
theorem VMap.look (h:VMap w b f) {t e:TypeId} (ht:Tryz.prog.underlying t = some (.map 3 e)) (hz:(zeroValue e).run Tryz.prog w = .ok (.slice none 0 0) w) {k:Nat} (hk:k < 9223372036854775808) :
  ∃ u,(Instr.lookup t (.map (some b)) (.int .i64 k) false).run Tryz.prog w = .ok u w∧DSl w u ((f k).getD []):=by
 obtain ⟨g,h1,h2⟩:=h.ex;have hl:=h1.look ht hz hk;rcases h2 k with ⟨h5,h6⟩ | ⟨d',v',h5,h6,h7⟩
 ·rw [h6] at hl;rw [h5];exact ⟨_,hl,Sl.nil _ _ _⟩
 ·rw [h6] at hl;rw [h5];exact ⟨_,hl,h7⟩
theorem VMap.dom {g:Nat→Option Value} (h:∀ k,(f k = none∧g k = none) ∨ ∃ d v,f k = some d∧g k = some v∧DSl w v d):Vn.dom g = Vn.dom f :=
 dom_congr fun k=>by rcases h k with ⟨a,b⟩ | ⟨d,v,a,b,_⟩ <;> rw [a,b] <;> rfl
end
theorem vClone_ok {w:World} {b:Nat} {f:Items} (h:VMap w b f) :
  Calls Tryz.prog 222 #[.map (some b)] w fun e w'=>e = .returned (.map (some w.heap.size))∧VMap w' w.heap.size f∧Mod Nowhere w w':=by
 obtain ⟨g,⟨D,h1,h2⟩,h3⟩:=h.ex;refine (AnyW.maps_Clone_owns Tryz.mapsClone 3 tokR b 4097 D w h1).mono ?_;rintro e w' ⟨rfl,h4,h5,h6⟩;have hm:Mod Nowhere w w':=Mod.of_below h6;refine ⟨rfl,⟨⟨g,⟨⟨D,h4,h2⟩⟩,fun k=>?_⟩⟩,hm⟩;rcases h3 k with h7 | ⟨d,v,e1,e2,h7⟩
 ·exact .inl h7
 ·exact .inr ⟨d,v,e1,e2,h7.fresh hm⟩
def wtL (f:Items) (ss:List Nat):Nat:=(ss.map fun k=>16 + ((f k).getD []).length).sum
theorem wtL_snoc (f:Items) (ss:List Nat) (k:Nat):wtL f (ss ++ [k]) = wtL f ss + (16 + ((f k).getD []).length):=by simp [wtL]
theorem wtL_all {f:Items} (hf:∀ k,(f k).isSome = true→k < 4097) {ss:List Nat} (hn:ss.Nodup) (hm:∀ k,k ∈ ss ↔ (f k).isSome = true):wtL f ss = wt f:=by
 have hp:ss.Perm (dom f):=(List.perm_ext_iff_of_nodup hn (dom_nodup f)).2 fun k=>by
  rw [hm k,mem_dom];exact ⟨fun h=>⟨hf k h,h⟩,fun h=>h.2⟩
 exact (hp.map _).sum_nat
theorem wtL_le {f:Items} (hI:IOk f):∀ ss:List Nat,wtL f ss≤2064 * ss.length
 | []=>by simp [wtL]
 | k :: ss=>by
  have:=wtL_le hI ss
  have hk:((f k).getD []).length≤2048:=by
   cases hf:f k with
   | none=>simp
   | some d=>have:=(hI.ok k d hf).len;simpa using this
  have e:wtL f (k :: ss) = 16 + ((f k).getD []).length + wtL f ss:=by simp [wtL]
  rw [e,List.length_cons];omega
theorem nodup_le4097 {ss:List Nat} (hn:ss.Nodup) (h:∀ k ∈ ss,k < 4097):ss.length≤4097:=by
 have h1:=hn.length_le_of_subset (l₂:=List.range 4097) fun x hx=>List.mem_range.2 (h x hx);simpa using h1
end Go.Proofs.YtanioleniadhoaaGreat
/-
 The vault's small functions.
-/
namespace Go.Proofs.YtanioleniadhoaaGreat
open Go.RowKit
open Jn Vn
theorem vok_ok {w:World} {vb jb:Nat} (h:w.cell? ⟨vb,0,none⟩ = some (ptr jb)) :
  Calls Tryz.prog 140 #[ptr vb] w fun e w'=>e = .returned (.bool true)∧w = w':=by
 go_enter Tryz.func140,Tryz.ntmps140;go_wp2;go_ret;exact ⟨rfl,rfl⟩
def okE (b:Bool):Nat:=if b then 0 else 7
theorem vAlive_ok {w:World} {A:VAt} {m:Mem} {P:PAt} {p:PSt} (h:VStub w A m P p) :
  Calls Tryz.prog 66 #[ptr A.vb] w fun e w'=>e = .returned (.bool (alive m p))∧∃ n,w' = w.drewN n:=by
 have hc:=h.cell;have hO:=vok_ok hc;have hA:=jAlive_ok h.mem h.jb;refine hid2 ?_ hO hA;clear hO hA;intro hO hA;clear h;generalize alive m p = al at *;go_enter Tryz.func66,Tryz.ntmps66
 go_wp2_with (first | (go_at_call 140;refine hO.out.mono ?_;rintro e w1 ⟨rfl,rfl⟩) | (go_at_call 141;refine hA.out.mono ?_;rintro e w1 ⟨rfl,n,rfl⟩))
 go_ret;exact ⟨ret_bool rfl,n,rfl⟩
theorem vReady_ok {w:World} {A:VAt} {m:Mem} {P:PAt} {p:PSt} (h:VStub w A m P p) :
  Calls Tryz.prog 97 #[ptr A.vb] w fun e w'=>e = .returned (errno (okE (alive m p)))∧∃ n,w' = w.drewN n:=by
 have hc:=h.cell;have hO:=vok_ok hc;have hA:=jAlive_ok h.mem h.jb;refine hid2 ?_ hO hA;clear hO hA;intro hO hA;clear h;generalize alive m p = al at *
 cases al
 all_goals
  go_enter Tryz.func97,Tryz.ntmps97
  go_wp2_with (first | (go_at_call 140;refine hO.out.mono ?_;rintro e w1 ⟨rfl,rfl⟩) | (go_at_call 141;refine hA.out.mono ?_;rintro e w1 ⟨rfl,n,rfl⟩))
  go_ret;exact ⟨rfl,n,rfl⟩
theorem vBankSize_ok {w:World} {A:VAt} {m:Mem} {P:PAt} {p:PSt} (h:VStub w A m P p) (hO:A.Of P p) (h33:33≤A.count) (h16:A.count≤65536) :
  Calls Tryz.prog 163 #[ptr A.vb] w fun e w'=>e = .returned (.int .i64 (bs A.Z:Nat))∧w = w':=by
 have hc:=h.cell;have hS:=jSize_ok h.jb (by rw [hO.count];omega) (by rw [hO.count];omega);rw [hO.count] at hS;have hZ:(A.count - 32) * 48 = A.Z:=rfl;rw [hZ] at hS;have hz1:48≤A.Z:=by rw [← hZ];omega
 have hz2:A.Z≤4000000:=by rw [← hZ];omega
 unfold bs;clear hZ hO;generalize A.Z = Z at *;replace hS:=Lib.hid hS;clear h;go_enter Tryz.func163,Tryz.ntmps163
 go_wp2_with (go_at_call 160;refine hS.out.mono ?_;rintro e w1 ⟨rfl,rfl⟩)
 go_ret;exact ⟨ret_int (by omega),rfl⟩
theorem vStart_ok {w:World} {A:VAt} {m:Mem} {P:PAt} {p:PSt} (h:VStub w A m P p) (hO:A.Of P p) (h33:33≤A.count) (h16:A.count≤65536) (bank:Nat) (hb:bank≤1) :
  Calls Tryz.prog 227 #[ptr A.vb,.int .i64 bank] w fun e w'=>e = .returned (.int .i64 (8 + bank * bs A.Z:Nat))∧w = w':=by
 have hS:=vBankSize_ok h hO h33 h16;have hz:bs A.Z≤4000000:=by unfold bs VAt.Z;omega
 generalize bs A.Z = q at *;replace hS:=Lib.hid hS;clear h hO;rcases (by omega:bank = 0 ∨ bank = 1) with e | e
 all_goals
  subst e;go_enter Tryz.func227,Tryz.ntmps227
  go_wp2_with (go_at_call 163;refine hS.out.mono ?_;rintro e w1 ⟨rfl,rfl⟩)
  go_ret;exact ⟨ret_int (by omega),rfl⟩
theorem vRoom_ok {w:World} {A:VAt} {m:Mem} {P:PAt} {p:PSt} (h:VStub w A m P p) (hO:A.Of P p) (h33:33≤A.count) (h16:A.count≤65536) :
  Calls Tryz.prog 104 #[ptr A.vb] w fun e w'=>e = .returned (.int .i64 (A.Z / 2:Nat))∧w = w':=by
 have hc:=h.cell;have hS:=jSize_ok h.jb (by rw [hO.count];omega) (by rw [hO.count];omega);rw [hO.count] at hS;have hZ:(A.count - 32) * 48 = A.Z:=rfl;rw [hZ] at hS;have hz2:A.Z≤4000000:=by rw [← hZ];omega
 clear hZ hO;generalize A.Z = Z at *;replace hS:=Lib.hid hS;clear h;go_enter Tryz.func104,Tryz.ntmps104
 go_wp2_with (go_at_call 160;refine hS.out.mono ?_;rintro e w1 ⟨rfl,rfl⟩)
 go_ret;exact ⟨ret_int (by omega),rfl⟩
def validB (id:Int) (n:Nat):Bool:=decide (1≤id) && decide (id≤4096) && decide (n≤2048)
theorem vValid_ok {w:World} (id:Int) (a:Option Addr) (n c:Nat) (hn:n≤1099511627776) :
  Calls Tryz.prog 219 #[.int .i64 id,.slice a n c] w fun e w'=>e = .returned (.bool (validB id n))∧w = w':=by
 unfold validB;by_cases h1:1≤id
 ·by_cases h2:id≤4096
  ·by_cases h3:n≤2048
   ·have h3':(n:Int)≤2048:=by omega
    go_enter Tryz.func219,Tryz.ntmps219;go_wp2;go_ret;exact ⟨ret_bool (by simp [h1,h2,h3]),rfl⟩
   ·have h3':¬ (n:Int)≤2048:=by omega
    go_enter Tryz.func219,Tryz.ntmps219;go_wp2;go_ret;exact ⟨ret_bool (by simp [h1,h2,h3]),rfl⟩
  ·go_enter Tryz.func219,Tryz.ntmps219;go_wp2;go_ret;exact ⟨ret_bool (by simp;omega),rfl⟩
 ·go_enter Tryz.func219,Tryz.ntmps219;go_wp2;go_ret;exact ⟨ret_bool (by simp;omega),rfl⟩
end Go.Proofs.YtanioleniadhoaaGreat
/-
 The vault: items after changes; their weight.
-/
namespace Go.Proofs.YtanioleniadhoaaGreat
open Go.RowKit
open Jn Vn
theorem Mod.newb {a w w':World} {ob:Nat} (h:Mod Nowhere w a) (hm:Mod (fun j=>j = ob) a w') (hob:w.heap.size≤ob):Mod Nowhere w w' :=
 h.step hm fun i hi e=>by have e:i = ob:=e;omega
theorem recs_take (xs:List Vx) (k:Nat) (h:k < xs.length):recs (xs.take (k + 1)) = recs (xs.take k) ++ [xs[k].2]:=by
 unfold recs;rw [List.take_succ_eq_append_getElem h,List.map_append];rfl
theorem vApply_ok {w:World} {b:Nat} {f:Items} {lv:Value} {xs:List Vx} (h:VMap w b f) (hl:VcSl w lv xs) (hid:∀ x ∈ xs,x.2.1 < 4097) (hn:xs.length≤1099511627776) :
  Calls Tryz.prog 159 #[.map (some b),lv] w fun e w'=>∃ b',e = .returned (.map (some b'))∧w.heap.size≤b'∧VMap w' b' (sets f (recs xs))∧Mod Nowhere w w':=by
 have hC:=vClone_ok h;obtain ⟨la,lc,rfl,h1,h2,_⟩:=hl.sl.gen;refine hid3 ?_ hC hl hid;clear hC hl hid;intro hC hl hid;clear h;go_enter Tryz.func159,Tryz.ntmps159;go_wp2_with fail;refine hC.out.mono ?_;rintro e w1 ⟨rfl,hm1,hmd1⟩;obtain ⟨ob,hob⟩:∃ ob,w.heap.size = ob:=⟨_,rfl⟩;have hob':w.heap.size≤ob:=by omega
 rw [hob] at hm1 ⊢;refine hid3 ?_ hob hm1 hmd1;clear hob hm1 hmd1;intro hob hm1 hmd1;clear hC;go_wp2
 go_loopw [12] (fun i wr=>∃ k:Nat,k≤xs.length∧i = .int .i64 k∧VMap wr ob (sets f (recs (xs.take k)))∧Mod Nowhere w wr) (fun i _=>xs.length - (RowKit.intOf i).toNat)
 case atStart=>exact ⟨0,by omega,rfl,hm1.out,hmd1.out⟩
 case round =>
  obtain ⟨k,hk,rfl,hmp,hm⟩:=hrel;by_cases hlt:k < xs.length
  ·obtain ⟨lb,off,cap',xa,xc,e0,hb,_,_,c1,c2,c3,e3⟩:=(hl.out.fresh hm).at_ hlt;have hdt:=(hl.out.fresh hm).data _ (List.getElem_mem hlt);have hi:=hid.out _ (List.getElem_mem hlt);have hrt:=recs_take xs k hlt;obtain ⟨rfl,rfl⟩:la = some ⟨lb,off,none⟩∧lc = cap':=by simp at e0;exact ⟨e0.1,e0.2⟩
   obtain ⟨⟨xv,xid,xd⟩,hx⟩:∃ x,xs[k] = x:=⟨_,rfl⟩;rw [hx] at c1 c2 c3 e3 hdt hi hrt;dsimp only at c1 c2 c3 e3 hdt hi hrt;subst e3;obtain ⟨xl,hxl⟩:∃ xl,(xd.getD []).length = xl:=⟨_,rfl⟩;rw [hxl] at hdt c2;have hmA:Mod Nowhere wr (wr.alloc (.cells #[.int .i64 xid,.slice xa xl xc,.bool xd.isNone] 238)):=(Mod.refl _ wr).alloc _;have hmpA:=hmp.fresh hmA;have hdA:=hdt.fresh hmA;have hmwA:=hm.trans hmA;have hset:sets f (recs (xs.take (k + 1))) = set1 (sets f (recs (xs.take k))) (xid,xd):=by rw [hrt,sets_snoc]
   refine hid6 ?_ hset hmpA hdA hmwA hx hxl;clear hset hmpA hdA hmwA hx hxl;intro hset hmpA hdA hmwA hx hxl;clear hmp hdt hrt hm hmA e0
   cases xd with
   | none =>
    simp only [Option.isNone_none] at c3 hmpA hdA hmwA
    go_wp2_with (with_reducible refine wpList_vmap_del rfl (.tmp 18) (.tmp 20) 159 rfl 22 Tryz.underlying159 ob xid _ rfl hmpA.out rfl hi ?_;intro w2 hmp2 hm2;replace hmp2:=Lib.hid hmp2;replace hm2:=Lib.hid hm2)
    go_roundw
    case rel=>exact ⟨k + 1,by omega,by go_num,hset.out ▸ hmp2.out,hmwA.out.newb hm2.out hob'⟩
    case measure=>simp [RowKit.intOf];omega
   | some d =>
    simp only [Option.isNone_some,Option.getD_some] at c3 hmpA hdA hmwA
    go_wp2_with (with_reducible refine wpList_vmap_put rfl (.tmp 21) (.tmp 23) (.tmp 25) 159 rfl 22 Tryz.underlying159 ob xid _ (.slice xa xl xc) d rfl hmpA.out hdA.out rfl rfl hi ?_;intro w2 hmp2 hm2;replace hmp2:=Lib.hid hmp2;replace hm2:=Lib.hid hm2)
    go_roundw
    case rel=>exact ⟨k + 1,by omega,by go_num,hset.out ▸ hmp2.out,hmwA.out.newb hm2.out hob'⟩
    case measure=>simp [RowKit.intOf];omega
  ·obtain rfl:k = xs.length:=by omega
   rw [List.take_length] at hmp;refine hid2 ?_ hmp hm;clear hmp hm;intro hmp hm;go_wp2;go_ret;exact ⟨_,rfl,hob',hmp.out,hm.out⟩
theorem vWeight_ok {w:World} {b:Nat} {f:Items} (h:VMap w b f) (hI:IOk f) :
  Calls Tryz.prog 102 #[.map (some b)] w fun e w'=>e = .returned (.int .i64 (wt f:Nat))∧Mod Nowhere w w':=by
 obtain ⟨g,hN,hfg⟩:=h.ex;refine hid2 ?_ hfg hI;clear hfg hI;intro hfg hI;clear h;go_enter Tryz.func102,Tryz.ntmps102
 go_wp2_with (with_reducible refine wpList_nmap_range rfl (.tmp 6) 159 rfl 22 Tryz.underlying159 b g rfl hN ?_;intro w1 hr1 hm1 hs1;clear hs1)
 obtain ⟨r,hr⟩:∃ r,w.heap.size = r:=⟨_,rfl⟩;have hr':w.heap.size≤r:=by omega
 rw [hr] at hr1 ⊢;replace hr:=Lib.hid hr
 go_frame
 go_loopw [3] (fun n wr=>∃ ss:List Nat,n = .int .i64 (wtL f ss:Nat)∧NRange wr b r g ss∧ss.Nodup∧(∀ k ∈ ss,k < 4097)∧Mod Nowhere w wr) (fun _ wr=>wr.rangeLeft b r)
 case atStart=>exact ⟨[],rfl,hr1,List.nodup_nil,(by simp),hm1⟩
 case round =>
  obtain ⟨ss,rfl,hrg,hnd,hlo,hm⟩:=hrel;have hle:=wtL_le hI.out ss;have hsl:=nodup_le4097 hnd hlo;have hrg0:=hrg;refine hid4 ?_ hnd hlo hm hrg0;clear hnd hlo hm hrg0;intro hnd hlo hm hrg0
  go_wp2_with (with_reducible refine wpList_nmap_next rfl (.tmp 7) rfl b r g ss rfl hrg ?_ ?_)
  ·intro h1 h2
   have hfin:=wtL_all (f:=f) (fun k hk=>hI.out.supp k hk) hnd.out (fun k=>by
    rw [h2 k]
    rcases hfg.out k with ⟨a,b⟩ | ⟨d,v,a,b,_⟩ <;> rw [a,b] <;> simp)
   replace hfin:=Lib.hid hfin;clear h1 h2 hrg;go_wp2;go_ret;exact ⟨ret_int (by rw [hfin.out]),hm.out⟩
  ·intro k v w2 hk1 hk2 hk3 hrg2 hlt hm2 hsz hen
   obtain ⟨d,hd,hv⟩:∃ d,f k = some d∧∃ a c,v = .slice a d.length c:=by
    rcases hfg.out k with ⟨a,b⟩ | ⟨d,v',a,b,hds⟩
    ·rw [b] at hk3;cases hk3
    ·rw [b] at hk3;cases hk3;obtain ⟨x,c,e,_⟩:=Sl.len hds;exact ⟨d,a,x,c,e⟩
   obtain ⟨va,vc,rfl⟩:=hv;have hsn:=wtL_snoc f ss k;rw [hd,Option.getD_some] at hsn;have hdl:=(hI.out.ok k d hd).len;simp only [Option.getD_some] at hdl;generalize d.length = dl at *;generalize wtL f ss = q at *;have hm3:=hm.out.newb hm2 hr';refine hid6 ?_ hsn hm3 hrg2 hlt hk1 hd;clear hsn hm3 hrg2 hlt hk1 hd;intro hsn hm3 hrg2 hlt hk1 hd;clear hsz hm2 hk3 hrg;go_wp2;go_roundw
   case rel=>exact ⟨ss ++ [k],by rw [hsn.out];go_num,hrg2.out,List.nodup_append.2 ⟨hnd.out,by simp,fun a ha b hb e=>hk1.out (by have hb:=List.mem_singleton.1 hb;rw [← hb,← e];exact ha)⟩,fun j hj=>by rcases List.mem_append.1 hj with h | h;exact hlo.out j h;simp at h;omega,hm3.out⟩
   case measure=>exact hlt.out
end Go.Proofs.YtanioleniadhoaaGreat
/-
 The vault: the last change of each item, and what changes need.
-/
namespace Go.Proofs.YtanioleniadhoaaGreat
open Go.RowKit
open Jn Vn
def vAgg (x:Vx):Value:=.agg #[.int .i64 x.2.1,x.1,.bool x.2.2.isNone]
def lastX (xs:List Vx) (k:Nat):Option Vx:=xs.reverse.find? fun x=>x.2.1 == k
theorem lastX_snoc (l:List Vx) (r:Vx) (k:Nat):lastX (l ++ [r]) k = if k = r.2.1 then some r else lastX l k:=by
 unfold lastX;rw [List.reverse_append,List.reverse_singleton,List.singleton_append,List.find?_cons];by_cases e:k = r.2.1
 ·rw [if_pos e];simp [e]
 ·rw [if_neg e];have:(r.2.1 == k) = false:=by simp;omega
  rw [this]
theorem lastX_mem {l:List Vx} {k:Nat} {r:Vx} (h:lastX l k = some r):r.2.1 = k∧r ∈ l:=by
 unfold lastX at h;refine ⟨by simpa using List.find?_some h,?_⟩;simpa using List.mem_of_find?_eq_some h
theorem lastX_rec (xs:List Vx) (k:Nat):(lastX xs k).map (·.2) = lastOf (recs xs) k:=by
 induction xs using snoc_ind with
 | h0=>rfl
 | h1 l r ih =>
  have e:recs (l ++ [r]) = recs l ++ [r.2]:=by simp [recs]
  rw [lastX_snoc,e,lastOf_snoc,← ih]
  split <;> rfl
def lastXs (xs:List Vx):List Vx:=(dom (lastX xs)).filterMap (lastX xs)
theorem recs_lastXs (xs:List Vx):recs (lastXs xs) = recsOf (lastOf (recs xs)):=by
 unfold lastXs recs recsOf;rw [List.map_filterMap]
 have e:(fun k=>(lastX xs k).map (·.2)) = lastOf (recs xs):=funext (lastX_rec xs)
 have e2:(fun x:Nat=>Option.map (fun x:Vx=>x.2) (lastX xs x)) = lastOf (recs xs):=e;rw [e2,dom_congr (h:=lastOf (recs xs)) (fun k=>by rw [← lastX_rec];simp)]
 rfl
theorem lastXs_mem {xs:List Vx} {x:Vx} (h:x ∈ lastXs xs):x ∈ xs:=by
 obtain ⟨k,_,hk⟩:=List.mem_filterMap.1 h;exact (lastX_mem hk).2
theorem dom_len {α:Type} (g:Nat→Option α):(dom g).length≤4097:=by
 unfold dom;exact Nat.le_trans (List.length_filter_le _ _) (by simp)
theorem lastXs_len (xs:List Vx):(lastXs xs).length≤4097:=Nat.le_trans (List.length_filterMap_le _ _) (dom_len _)
theorem fm_take {α β:Type} (g:α→Option β) (ks:List α) (h:∀ k ∈ ks,(g k).isSome = true) (j:Nat) (hj:j < ks.length) :
  ∃ y,g ks[j] = some y∧(ks.take (j + 1)).filterMap g = (ks.take j).filterMap g ++ [y]∧((ks.take j).filterMap g).length = j:=by
 obtain ⟨y,hy⟩:=Option.isSome_iff_exists.1 (h _ (List.getElem_mem hj));refine ⟨y,hy,?_,?_⟩
 ·rw [List.take_succ_eq_append_getElem hj,List.filterMap_append];simp [hy]
 ·have:∀ l:List α,(∀ k ∈ l,(g k).isSome = true)→(l.filterMap g).length = l.length:=by
   intro l
   induction l with
   | nil=>intro _;rfl
   | cons a l ih =>
    intro hl;obtain ⟨z,hz⟩:=Option.isSome_iff_exists.1 (hl a (by simp));rw [List.filterMap_cons,hz];simp [ih fun k hk=>hl k (by simp [hk])]
  rw [this _ fun k hk=>h k (List.mem_of_mem_take hk),List.length_take];omega
theorem fm_len {α β:Type} (g:α→Option β):∀ l:List α,(∀ k ∈ l,(g k).isSome = true)→(l.filterMap g).length = l.length:=by
 intro l
 induction l with
 | nil=>intro _;rfl
 | cons a l ih =>
  intro hl;obtain ⟨z,hz⟩:=Option.isSome_iff_exists.1 (hl a (by simp));rw [List.filterMap_cons,hz];simp [ih fun k hk=>hl k (by simp [hk])]
def LastPost (w:World) (xs:List Vx) (e:Ending) (w':World):Prop :=
 ∃ v,e = .returned v∧w'.ownsRow w.heap.size 238 3 v (lastXs xs).length (vcsCells (lastXs xs))∧Mod Nowhere w w'
theorem lastVc {w w':World} {lv v:Value} {xs:List Vx} (hl:VcSl w lv xs) (ho:w'.ownsRow w.heap.size 238 3 v (lastXs xs).length (vcsCells (lastXs xs))) (hm:Mod Nowhere w w'):VcSl w' v (lastXs xs) :=
 ⟨Sl.of_owns ho,fun x hx=>(hl.data x (lastXs_mem hx)).fresh hm⟩
theorem vLast_ok {w:World} {lv:Value} {xs:List Vx} (hl:VcSl w lv xs) (hid:∀ x ∈ xs,x.2.1 < 4097) (hn:xs.length≤1099511627776) :
  Calls Tryz.prog 161 #[lv] w (LastPost w xs):=by
 obtain ⟨i0,hi0,hz0,hz1,hz2⟩:=info_parts info_cl_chg;obtain ⟨la,lc,rfl,h1,h2,-⟩:=hl.sl.gen;have hmm:=run_makeMap (P:=Tryz.prog) 284 w;have hmd0:Mod Nowhere w (w.alloc (.map #[] 0)):=(Mod.refl _ w).alloc _;have hmp0:NMap (w.alloc (.map #[] 0)) w.heap.size (fun k=>(lastX (xs.take 0) k).map vAgg):=(NMap.made w).congr fun k=>by simp [lastX]
 obtain ⟨mb,hmb⟩:∃ mb,w.heap.size = mb:=⟨_,rfl⟩;have hmb':w.heap.size≤mb:=by omega
 rw [hmb] at hmm hmp0;generalize w.alloc (.map #[] 0) = w1 at hmm hmp0 hmd0;refine hid5 ?_ hmb hl hid hmp0 hmd0;clear hmb hl hid hmp0 hmd0;intro hmb hl hid hmp0 hmd0;go_enter Tryz.func161,Tryz.ntmps161;go_wp2;clear hmm
 go_loopw [12] (fun i wr=>∃ k:Nat,k≤xs.length∧i = .int .i64 k∧NMap wr mb (fun j=>(lastX (xs.take k) j).map vAgg)∧Mod Nowhere w wr) (fun i _=>xs.length - (RowKit.intOf i).toNat)
 case atStart=>exact ⟨0,by omega,rfl,hmp0.out,hmd0.out⟩
 case round =>
  obtain ⟨k,hk,rfl,hmp,hm⟩:=hrel;by_cases hlt:k < xs.length
  ·obtain ⟨lb,off,cap',xa,xc,e0,hb,_,_,c1,c2,c3,e3⟩:=(hl.out.fresh hm).at_ hlt;have hi:=hid.out _ (List.getElem_mem hlt)
   have hrt:∀ j,(lastX (xs.take (k + 1)) j).map vAgg = if j = xs[k].2.1 then some (vAgg xs[k]) else (lastX (xs.take k) j).map vAgg:=by
    intro j;rw [List.take_succ_eq_append_getElem hlt,lastX_snoc]
    split <;> rfl
   obtain ⟨rfl,rfl⟩:la = some ⟨lb,off,none⟩∧lc = cap':=by simp at e0;exact ⟨e0.1,e0.2⟩
   obtain ⟨⟨xv,xid,xd⟩,hx⟩:∃ x,xs[k] = x:=⟨_,rfl⟩;rw [hx] at c1 c2 c3 e3 hi hrt;dsimp only [vAgg] at c1 c2 c3 e3 hi hrt;subst e3;generalize (xd.getD []).length = xl at *;generalize xd.isNone = xg at *;have hmA:Mod Nowhere wr (wr.alloc (.cells #[.int .i64 xid,.slice xa xl xc,.bool xg] 238)):=(Mod.refl _ wr).alloc _;have hmpA:=hmp.mod hmA id;have hmwA:=hm.trans hmA;refine hid4 ?_ hrt hmpA hmwA hx;clear hrt hmpA hmwA hx;intro hrt hmpA hmwA hx;clear hmp hm hmA e0
   go_wp2_with (with_reducible refine wpList_nmap_put rfl (.tmp 16) (.tmp 18) (.tmp 19) 284 rfl 238 Tryz.underlying284 mb xid _ (.agg #[.int .i64 xid,.slice xa xl xc,.bool xg]) rfl hmpA.out rfl rfl hi ?_;intro w2 hmp2 hm2;replace hmp2:=Lib.hid hmp2;replace hm2:=Lib.hid hm2)
   go_roundw
   case rel=>exact ⟨k + 1,by omega,by go_num,hmp2.out.congr fun j=>(hrt.out j).symm,hmwA.out.newb hm2.out hmb'⟩
   case measure=>simp [RowKit.intOf];omega
  ·obtain rfl:k = xs.length:=by omega
   rw [List.take_length] at hmp;have hS:=SortedB_ok hmp;have hKS:dom (fun j=>(lastX xs j).map vAgg) = dom (lastX xs):=dom_congr fun j=>by simp
   have hsome:∀ j ∈ dom (lastX xs),(lastX xs j).isSome = true:=fun j hj=>(mem_dom.1 hj).2;have hlo:∀ j ∈ dom (lastX xs),j < 4097:=fun j hj=>(mem_dom.1 hj).1;have hdl:=dom_len (lastX xs);refine hid6 ?_ hS hmp hm hKS hsome hlo;clear hS hmp hm hKS hsome hlo;intro hS hmp hm hKS hsome hlo
   go_wp2_with (first
    | (go_at_call 224;refine (KeysB_ok _ _).mono ?_;rintro e w' ⟨rfl,rfl⟩)
    | (go_at_call 223;refine hS.out.mono ?_;rintro e w4 ⟨sv,rfl,hown,hm4⟩;rw [hKS.out] at hown;have hmw4:=hm.out.trans hm4;have hmp4:=hmp.out.mod hm4 id;have hsl:=Sl.of_owns hown;obtain ⟨sa,sc,rfl,hs1,hs2,-⟩:=hsl.gen;replace hsl:=Lib.hid hsl;replace hmw4:=Lib.hid hmw4;replace hmp4:=Lib.hid hmp4;clear hown hm4 hS))
   generalize hks:dom (lastX xs) = ks at *;replace hks:=Lib.hid hks
   go_loopw [25,6] (fun i v wr=>∃ j:Nat,∃ va:Option Addr,∃ vcap:Nat,j≤ks.length∧i = .int .i64 j∧v = .slice va j vcap∧wr.ownsRow w4.heap.size 238 3 (.slice va j vcap) j (vcsCells ((ks.take j).filterMap (lastX xs)))∧Mod Nowhere w4 wr) (fun i _ _=>ks.length - (RowKit.intOf i).toNat)
   case atStart=>exact ⟨0,none,0,by omega,rfl,rfl,World.ownsRow_nil _ _ _ _,Mod.refl _ _⟩
   case round =>
    obtain ⟨j,va,vcap,hj,rfl,rfl,hown,hmr⟩:=hrel;by_cases hlt:j < ks.length
    ·obtain ⟨y,hy,hft,hfl⟩:=fm_take (lastX xs) ks hsome.out j hlt;have hkj:=hlo.out _ (List.getElem_mem hlt);obtain ⟨sb,so,sc',e0,hsb,hs3,hs4,hcell,_⟩:=(hsl.out.mod hmr (fun _ _=>id)).open (by omega);obtain ⟨rfl,rfl⟩:sa = some ⟨sb,so,none⟩∧sc = sc':=by simp at e0;exact ⟨e0.1,e0.2⟩
     have ck:=hcell j (by omega);have ekj:(ks.map fun k:Nat=>Value.int .i64 (k:Int)).getD j default = .int .i64 (ks[j]:Nat):=by simp [gd0,hlt]
     rw [ekj] at ck;have hlk:=(hmp4.out.mod hmr id).look (t:=284) (e:=238) Tryz.underlying284 (z:=.agg #[.int .i64 0,.slice none 0 0,.bool false]) rfl (k:=ks[j]) (by omega);rw [hy] at hlk;have hyx:=(lastX_mem hy).2;obtain ⟨ya,yc,e3,_⟩:=(hl.out.data y hyx).len;obtain ⟨yv,yid,yd⟩:=y;dsimp only at e3;subst e3;simp only [Option.map_some,Option.getD_some,vAgg] at hlk;have hcs:vcsCells [((.slice ya (yd.getD []).length yc:Value),((yid,yd):Rec))] = [.int .i64 (yid:Int),.slice ya (yd.getD []).length yc,.bool yd.isNone]:=rfl;obtain ⟨yl,hyl⟩:∃ yl,(yd.getD []).length = yl:=⟨_,rfl⟩;obtain ⟨yg,hyg⟩:∃ yg,yd.isNone = yg:=⟨_,rfl⟩
     rw [hyl,hyg] at hlk hcs;rw [hyl] at hft hy hyx;generalize ks[j] = key at *;have hmA:Mod Nowhere wr (wr.alloc (.cells #[.int .i64 yid,.slice ya yl yc,.bool yg] 238)):=(Mod.refl _ wr).alloc _;have hownA:=owns_mod hown hmA (fun _ _=>id);have hmwA:=hmr.trans hmA;have hsz:=hmr.size;clear hcell e0 hmA hown;refine hid11 ?_ hownA hmwA hmr hft hy hyl hyg hyx ekj hfl hcs;clear hownA hmwA hmr hft hy hyl hyg hyx ekj hfl hcs;intro hownA hmwA hmr hft hy hyl hyg hyx ekj hfl hcs
     go_wp2_with (at_builtin;refine wpList_append_lies _ rfl _ _ 160 rfl w4.heap.size 238 i0 (.agg #[.int .i64 0,.slice none 0 0,.bool false]) 3 40 Tryz.underlying160 hi0 hz0 hz1 hz2 rfl (by decide) _ j _ rfl hownA.out ⟨wr.heap.size,0,none⟩ 1 1 [.int .i64 (yid:Int),.slice ya yl yc,.bool yg] rfl rfl (cells_new wr _ _) (by simp [Value.oneCell']) (by decide) (by unfold maxLen;omega) (by omega) (by simp;omega) _ rfl ?_;intro g cap w2 hown2 hgrow2 hat2 hlt2;have hM2:Mod Nowhere w4 w2:=hmwA.out.step ((Mod.refl (Above w4.heap.size) _).app hownA.out hgrow2) (fun i hi e=>by have e:w4.heap.size≤i:=e;omega);clear hgrow2 hat2;replace hown2:=Lib.hid hown2;replace hM2:=Lib.hid hM2)
     go_roundw
     case rel=>exact ⟨j + 1,_,_,by omega,by go_num,rfl,by rw [hft.out,vcsCells_append,hcs.out];exact hown2.out,hM2.out⟩
     case measure=>simp [RowKit.intOf];omega
    ·obtain rfl:j = ks.length:=by omega
     rw [List.take_length] at hown
     have hkl:ks.length = (lastXs xs).length:=by
      have:=(fm_len (lastX xs) ks hsome.out);unfold lastXs;rw [hks.out];exact this.symm
     have hkc:ks.filterMap (lastX xs) = lastXs xs:=by unfold lastXs;rw [hks.out]
     rw [hkc] at hown;have hsz:=hmw4.out.size;have hfin:LastPost w xs (.returned (.slice va ks.length vcap)) wr:=⟨_,rfl,by rw [hkl] at hown ⊢;exact ownsRow_base_a hown hsz,hmw4.out.trans hmr⟩;replace hfin:=Lib.hid hfin;clear hown hmr hkc;go_wp2;go_ret;exact hfin.out
def needL (ys:List Vx):Nat:=(ys.map fun y=>8 + (y.2.2.getD []).length).sum
theorem needL_snoc (ys:List Vx) (y:Vx):needL (ys ++ [y]) = needL ys + (8 + (y.2.2.getD []).length):=by simp [needL]
theorem needL_all (xs:List Vx):needL (lastXs xs) = Vn.need (recs xs):=by
 unfold needL Vn.need;rw [← recs_lastXs,recs,List.map_map]
 rfl
theorem needL_le:∀ ys:List Vx,(∀ y ∈ ys,(y.2.2.getD []).length≤2048)→needL ys≤2056 * ys.length
 | [],_=>by simp [needL]
 | y :: ys,h=>by
  have:=needL_le ys fun z hz=>h z (by simp [hz]);have:=h y (by simp);have e:needL (y :: ys) = 8 + (y.2.2.getD []).length + needL ys:=by simp [needL]
  rw [e,List.length_cons];omega
theorem vNeed_ok {w:World} {lv:Value} {xs:List Vx} (hl:VcSl w lv xs) (hok:∀ x ∈ xs,ROk x.2) (hn:xs.length≤1099511627776) :
  Calls Tryz.prog 221 #[lv] w fun e w'=>e = .returned (.int .i64 (Vn.need (recs xs):Nat))∧Mod Nowhere w w':=by
 have hL:=vLast_ok hl (fun x hx=>by have:=(hok x hx).hi;omega) hn;obtain ⟨la,lc,rfl,h1,h2,-⟩:=hl.sl.gen;refine hid3 ?_ hL hl hok;clear hL hl hok;intro hL hl hok;go_enter Tryz.func221,Tryz.ntmps221;go_wp2_with fail;refine hL.out.mono ?_;rintro e w1 ⟨v,rfl,hown,hm1⟩;have hvc:=lastVc hl.out hown hm1;have hyk:∀ y ∈ lastXs xs,(y.2.2.getD []).length≤2048:=fun y hy=>(hok.out y (lastXs_mem hy)).len;have hall:=needL_all xs;have hll:=lastXs_len xs;obtain ⟨va,vc,rfl,hv1,hv2,-⟩:=hvc.sl.gen;generalize lastXs xs = ys at *;refine hid4 ?_ hvc hyk hall hm1;clear hvc hyk hall hm1;intro hvc hyk hall hm1
 clear hown hL;go_wp2
 go_loopw [3,9] (fun n i wr=>∃ k:Nat,k≤ys.length∧i = .int .i64 k∧n = .int .i64 (needL (ys.take k):Nat)∧Mod Nowhere w1 wr) (fun _ i _=>ys.length - (RowKit.intOf i).toNat)
 case atStart=>exact ⟨0,by omega,rfl,by simp [needL],Mod.refl _ _⟩
 case round =>
  obtain ⟨k,hk,rfl,rfl,hm⟩:=hrel;by_cases hlt:k < ys.length
  ·obtain ⟨lb,off,cap',xa,xc,e0,hb,_,_,c1,c2,c3,e3⟩:=(hvc.out.fresh hm).at_ hlt;have hns:=needL_snoc (ys.take k) ys[k];rw [← List.take_succ_eq_append_getElem hlt] at hns;have hle:=needL_le (ys.take k) (fun y hy=>hyk.out y (List.mem_of_mem_take hy));have hlk:=hyk.out _ (List.getElem_mem hlt);have htl:(ys.take k).length = k:=by rw [List.length_take];omega
   rw [htl] at hle;obtain ⟨rfl,rfl⟩:va = some ⟨lb,off,none⟩∧vc = cap':=by simp at e0;exact ⟨e0.1,e0.2⟩
   rw [e3] at c2;generalize (ys[k].2.2.getD []).length = q at *;generalize needL (ys.take k) = s at *;generalize ys[k].2.2.isNone = xg at *;generalize ys[k].2.1 = xid at *;have hmA:Mod Nowhere wr (wr.alloc (.cells #[.int .i64 xid,.slice xa q xc,.bool xg] 238)):=(Mod.refl _ wr).alloc _;have hmw:=hm.trans hmA;refine hid4 ?_ hmw hns e3 htl;clear hmw hns e3 htl;intro hmw hns e3 htl;clear hm hmA e0;go_wp2;go_roundw
   case rel=>exact ⟨k + 1,by omega,by go_num,by rw [hns.out];go_num,hmw.out⟩
   case measure=>simp [RowKit.intOf];omega
  ·obtain rfl:k = ys.length:=by omega
   rw [List.take_length];replace hm:=Lib.hid hm;go_wp2;go_ret;exact ⟨ret_int (by rw [hall.out]),hm1.out.trans hm.out⟩
end Go.Proofs.YtanioleniadhoaaGreat
/-
 The vault: the records of a bank are applied.
-/
namespace Go.Proofs.YtanioleniadhoaaGreat
open Go.RowKit
open Jn Vn
attribute [local go_sem] Oper.semAt_some
theorem run_upto {P:Program} {t e:TypeId} {z:Value} {bytes:Nat} (ht:P.underlying t = some (.slice e)) (hi:(P.info? e).map (fun i=>(i.zero,i.size,i.bytes)) = some (some z,1,bytes)) (b off n cap j:Nat) (hj:j≤cap) (W:World) :
  (Instr.slice t (.slice (some ⟨b,off,none⟩) n cap) none (some (.int .i64 j)) none).run P W = .ok (.slice (some ⟨b,off,none⟩) j cap) W:=by
 obtain ⟨i0,hi0,hz0,hz1,hz2⟩:=info_parts hi;simp [Instr.slice,Instr.sliceBounds,Instr.sliceBound,run_underlying ht,asIntOf,sizeOf,typeInfo,hi0,hz1,add_lit,show ¬ cap < j by omega]
 all_goals (try (cases j <;> simp))
theorem one_u8 (l:List Nat):∀ u ∈ u8s l,u.oneCell' = true:=by
 intro u hu;simp only [u8s,List.mem_map] at hu;obtain ⟨x,_,rfl⟩:=hu
 rfl
theorem vReplay_ok {w:World} {vb ib:Nat} {cs:List Value} {vv:Value} {l:List Rec} (hbv:Blk w vb cs 162) (h3:cs[3]? = some (.map (some ib))) (hmp:VMap w ib none_) (h:DSl w vv (encRs l)) (hok:∀ r ∈ l,ROk r) (hle:(encRs l).length≤4000000) :
  Calls Tryz.prog 246 #[ptr vb,vv] w fun e w'=>e = .returned (errno 0)∧VMap w' ib (sets none_ l)∧Mod (fun k=>k = ib) w w':=by
 have hvi:¬ (fun k=>k = ib) vb:=fun e=>by
  have e:vb = ib:=e;subst e;exact hmp.noCells hbv
 have hsh:=hmp.shun 5;obtain ⟨va,vc,rfl,-⟩:=Sl.gen h;refine hid7 ?_ hbv h3 hmp h hok hsh hvi;clear hbv h3 hmp h hok hsh hvi;intro hbv h3 hmp h hok hsh hvi;go_enter Tryz.func246,Tryz.ntmps246;go_wp2
 go_loopg [1] (encRs l).length (fun gg tb wr=>∃ (pre rest:List Rec) (ta:Option Addr) (tc:Nat),gg = (encRs rest).length∧tb = .slice ta (encRs rest).length tc∧l = pre ++ rest∧DSl w (.slice ta (encRs rest).length tc) (encRs rest)∧VMap wr ib (sets none_ pre)∧Mod (fun k=>k = ib) w wr)
 case atStart=>exact ⟨[],l,va,vc,rfl,rfl,rfl,h.out,hmp.out,Mod.refl _ _⟩
 case round =>
  obtain ⟨pre,rest,ta,tc,hgg,rfl,hL,hsl,hvm,hm⟩:=hrel
  cases rest with
  | nil =>
   rw [List.append_nil] at hL;have e0:(encRs ([]:List Rec)).length = 0:=rfl;rw [e0];clear hsl hgg;subst hL;refine hid2 ?_ hvm hm;clear hvm hm;intro hvm hm;go_wp2;go_ret;exact ⟨rfl,hvm.out,hm.out⟩
  | cons r rest =>
   have hr:=hok.out r (by rw [hL];simp);obtain ⟨rid,rd⟩:=r;have hr1:=hr.lo;have hr2:=hr.hi;have hr3:=hr.len;dsimp only at hr1 hr2 hr3;have hne:(encRs ((rid,rd) :: rest)).length = 4 + (rd.getD []).length + (encRs rest).length:=by rw [encRs_cons,List.length_append,encR_len]
   have hnL:(encRs ((rid,rd) :: rest)).length≤(encRs l).length:=by rw [hL];simp [encRs]
   obtain ⟨he2,he4,he8⟩:=encR_head (rid,rd) (encRs rest);rw [← encRs_cons] at he2 he4 he8;dsimp only at he2 he4 he8;have hsl':Sl w (.slice ta (encRs ((rid,rd) :: rest)).length tc) 5 1 (encRs ((rid,rd) :: rest)).length (u8s (encRs ((rid,rd) :: rest))):=hsl;obtain ⟨bb,bo,bcap,e0,hbl,hnc,hcm,_,_⟩:=hsl'.open (by omega);obtain ⟨rfl,rfl⟩:ta = some ⟨bb,bo,none⟩∧tc = bcap:=by simp at e0;exact e0
   have S0:=hsl.mod hm hsh.out;have S0':Sl wr (.slice (some ⟨bb,bo,none⟩) (encRs ((rid,rd) :: rest)).length tc) 5 1 (encRs ((rid,rd) :: rest)).length (u8s (encRs ((rid,rd) :: rest))):=S0;have S2:=S0'.upto 2 tc (by omega) (by omega) (Nat.le_refl _);have S4:=S0'.mid 2 4 (by omega) (by omega);obtain ⟨o4,hr4,T4⟩:=hsl'.from_ (t:=22) Tryz.underlying22 info_u8 4 (by omega);rw [u8s_take,he2] at S2;rw [u8s_drop,u8s_take,he4] at S4;rw [u8s_drop,he8] at T4;have hbe1:(be 2 rid).length = 2:=be_len 2 rid;obtain ⟨ln,hln⟩:∃ ln,(rd.map List.length).getD 65535 = ln:=⟨_,rfl⟩;rw [hln] at S4 he4
   have hlb:ln≤65535:=by
    cases rd with
    | none=>simp at hln;omega
    | some d=>simp at hln hr3;omega
   have hbe2:(be 2 ln).length = 2:=be_len 2 ln;have hnum1:num (be 2 rid) = rid:=num_be_lt (by omega);have hnum2:num (be 2 ln) = ln:=num_be_lt (by omega);have hN1:=fun n=>quiet_world (vnumber_ok (w:=wr.drewN n) (v:=.slice (some ⟨bb,bo,none⟩) 2 tc) (l:=be 2 rid) (by rw [hbe1];exact S2.mod ((Mod.refl Nowhere wr).drewN n) (fun _ _=>id)) (be_bytes _ _) (by omega) (by rw [hnum1];omega));have hN2:=fun n=>quiet_world (vnumber_ok (w:=wr.drewN n) (v:=.slice (some ⟨bb,bo + 2,none⟩) 2 (tc - 2)) (l:=be 2 ln) (by rw [hbe2];exact S4.mod ((Mod.refl Nowhere wr).drewN n) (fun _ _=>id)) (be_bytes _ _) (by omega) (by rw [hnum2];omega));rw [hnum1] at hN1
   rw [hnum2] at hN2;rw [hne] at hr4 T4 hnc hnL hgg ⊢;have hn4:4 + (rd.getD []).length + (encRs rest).length - 4 = (rd.getD []).length + (encRs rest).length:=by omega
   rw [hn4] at hr4 T4;obtain ⟨c4,hc4⟩:∃ c4,tc - 4 = c4:=⟨_,rfl⟩;rw [hc4] at hr4 T4;rw [show ((4:Nat):Int) = 4 from rfl] at hr4;have hbv0:=hbv.out.mod hm hvi.out;have hset:sets none_ (pre ++ [(rid,rd)]) = set1 (sets none_ pre) (rid,rd):=sets_snoc _ _ _;have hL2:l = (pre ++ [(rid,rd)]) ++ rest:=by rw [hL];simp
   obtain ⟨re,hre⟩:∃ re,(encRs rest).length = re:=⟨_,rfl⟩;rw [hre] at hr4 T4 hnc hnL hgg ⊢;have hi1:¬ (rid:Int) < 1:=by omega
   have hi2:¬ (4096:Int) < (rid:Int):=by omega
   have hle':(4:Int)≤((4 + (rd.getD []).length + re:Nat):Int):=by omega
   clear hne he2 he4 he8 S0 S0' S2 S4 hbe1 hbe2 hnum1 hnum2 hn4 hL hr hsl';refine hid8 ?_ hset hL2 hN1 hN2 hgg hsl hre hc4;clear hset hL2 hN1 hN2 hgg hsl hre hc4;intro hset hL2 hN1 hN2 hgg hsl hre hc4
   cases rd with
   | none =>
    simp only [Option.getD_none,List.length_nil,Nat.add_zero,Nat.zero_add,List.nil_append] at hr4 T4 hnc hnL hgg hr3 hle' ⊢;have hln2:ln = 65535:=by simpa using hln.symm
    subst hln2;clear hln;have hcell:=hbv0.cell 3;rw [h3.out] at hcell;have hb65:(((65535:Nat):Int) == 65535) = true:=rfl;refine hid4 ?_ hvm hm hbv0 T4;clear hvm hm hbv0 T4;intro hvm hm hbv0 T4;go_wp2_with fail
    go_quiet (first | (go_at_call 245;with_reducible exact Calls.quiet_of_same (hN1.out _)) | (go_at_call 245;with_reducible exact Calls.quiet_of_same (hN2.out _)))
    have hvm2:=hvm.out.mod ((Mod.refl Nowhere wr).drewN nq) id (Shun.none _ _);have hmd2:=hm.out.drewN nq;refine hid2 ?_ hvm2 hmd2;clear hvm2 hmd2;intro hvm2 hmd2
    go_wp2_with (with_reducible refine wpList_vmap_del rfl (.tmp 34) (.tmp 35) 159 rfl 22 Tryz.underlying159 ib rid _ rfl hvm2.out rfl (by omega) ?_;intro w2 hmp2 hm2;replace hmp2:=Lib.hid hmp2;replace hm2:=Lib.hid hm2)
    go_roundg re
    case measure=>rw [hgg.out];omega
    case rel=>exact ⟨pre ++ [(rid,none)],rest,some ⟨bb,o4,none⟩,c4,by rw [hre.out],by rw [hre.out],hL2.out,by rw [DSl,hre.out];exact T4.out,hset.out ▸ hmp2.out,hmd2.out.trans hm2.out⟩
   | some d =>
    simp only [Option.getD_some,Option.map_some] at hr4 T4 hnc hnL hgg hr3 hle' hln ⊢;obtain ⟨dl,hdl⟩:∃ dl,d.length = dl:=⟨_,rfl⟩;rw [hdl] at hr4 T4 hnc hnL hgg hr3 hle' hln ⊢;obtain rfl:dl = ln:=hln;have hcell:=hbv0.cell 3;rw [h3.out] at hcell;have hb65:(((dl:Nat):Int) == 65535) = false:=by simp;omega
    have hn1:¬ (2048:Int) < (dl:Int):=by omega
    have hn2:¬ ((dl + re:Nat):Int) < (dl:Int):=by omega
    have hup:=fun W=>run_upto (P:=Tryz.prog) (t:=22) Tryz.underlying22 info_u8 bb o4 (dl + re) c4 dl (by have:=hc4.out;omega) W;have D3:=T4.upto dl c4 (by omega) (by have:=hc4.out;omega) (Nat.le_refl _);rw [u8s_take,List.take_left' hdl] at D3;obtain ⟨o9,hr9,T9⟩:=T4.from_ (t:=22) Tryz.underlying22 info_u8 dl (by omega);rw [u8s_drop,List.drop_left' hdl] at T9;have hn9:dl + re - dl = re:=by omega
    rw [hn9] at hr9 T9;refine hid8 ?_ hn9 hdl hvm hm hbv0 T4 T9 D3;clear hn9 hdl hvm hm hbv0 T4 T9 D3;intro hn9 hdl hvm hm hbv0 T4 T9 D3;go_wp2_with fail
    go_quiet (first | (go_at_call 245;with_reducible exact Calls.quiet_of_same (hN1.out _)) | (go_at_call 245;with_reducible exact Calls.quiet_of_same (hN2.out _)))
    have hvm2:=hvm.out.mod ((Mod.refl Nowhere wr).drewN nq) id (Shun.none _ _);have hmd2:=hm.out.drewN nq;have hbv2:=hbv0.out.drewN nq;have D4:DSl (wr.drewN nq).drew (.slice (some ⟨bb,o4,none⟩) dl c4) d:=DSl.mod (w:=w) (by rw [DSl,hdl.out];exact D3.out) hmd2.drew hsh.out;generalize wr.drewN nq = W4 at *;have hCl:=Clone_u8 (w:=W4.drew) (v:=.slice (some ⟨bb,o4,none⟩) dl c4) (n:=dl) (xs:=u8s d) (by rw [DSl,hdl.out] at D4;exact D4) (one_u8 d) (by omega);refine hid3 ?_ hCl D3 D4;clear hCl D3 D4;intro hCl D3 D4;have hrid:rid < 4097:=by omega
    have c12:=hbv2.cell 3;rw [h3.out] at c12;clear hcell;refine hid3 ?_ hbv2 hvm2 hmd2;clear hbv2 hvm2 hmd2;intro hbv2 hvm2 hmd2;go_wp2
    go_region_held3 (fun w'=>w'.cell? ⟨vb,3,none⟩ = some (.map (some ib))) (simp [*,World.cell?_alloc_some,World.cell?_setCell_far,World.cell?_setCell_other])
     (first | (go_at_call 123;(with_reducible refine hCl.out.mono ?_);rintro e w5 ⟨v5,rfl,hown5,hnil5,hm5⟩;have hm45:Mod Nowhere W4 w5:=(Mod.refl Nowhere W4).drew.trans hm5;have kc5:w5.cell? ⟨vb,3,none⟩ = some (.map (some ib)):=(hm45.cell (p:=⟨vb,3,none⟩) hbv2.out.lt id).trans c12;obtain ⟨w6,hput,hmp6,hm6⟩:=(hvm2.out.fresh hm45).put_run (t:=159) (e:=22) Tryz.underlying159 hrid (u:=v5) (d:=d) (by have h5:=Sl.of_owns hown5;rw [← hdl.out] at h5;exact h5);have kc6:w6.cell? ⟨vb,3,none⟩ = some (.map (some ib)):=(hm6.cell (p:=⟨vb,3,none⟩) (Nat.lt_of_lt_of_le hbv2.out.lt hm45.size) hvi.out).trans kc5;replace hmp6:=Lib.hid hmp6;replace hm6:=Lib.hid hm6;replace hm45:=Lib.hid hm45;clear hown5 hnil5 hm5))
    go_wp2
    go_roundg re
    case measure=>rw [hgg.out];omega
    case rel=>exact ⟨pre ++ [(rid,some d)],rest,some ⟨bb,o9,none⟩,c4 - dl,by rw [hre.out],by rw [hre.out],hL2.out,by rw [DSl,hre.out];exact T9.out,hset.out ▸ hmp6.out,hmd2.out.trans ((hm45.out.nowhere).trans hm6.out)⟩
end Go.Proofs.YtanioleniadhoaaGreat
/-
 The vault: the record of a change.
-/
namespace Go.Proofs.YtanioleniadhoaaGreat
open Go.RowKit
open Jn Vn
attribute [local go_sem] Oper.semAt_some
theorem owns_blk {w:World} {b n base:Nat} {l:List Value} {T:TypeId} (h:Blk w b l T) (hb:base≤b) (hn:l.length = n) (hm:n≤maxLen):w.ownsRow base T 1 (.slice (some ⟨b,0,none⟩) n n) n l :=
 ⟨by omega,.inr ⟨b,n,l.toArray,rfl,hb,h,Nat.le_refl _,hm,by simp [hn],by simp [← hn]⟩⟩
theorem blk_src {w:World} {b:Nat} {l:List Value} {T:TypeId} (h:Blk w b l T):∀ j u,l[j]? = some u→w.cell? ((⟨b,0,none⟩:Addr).add j) = some u:=by
 intro j u hj;have hadd:(⟨b,0,none⟩:Addr).add j = ⟨b,j,none⟩:=by unfold Addr.add;split <;> simp_all
 rw [hadd,h.cell];exact hj
def RecPost (w:World) (r:Rec) (e:Ending) (w':World):Prop :=
 ∃ v,e = .returned v∧w'.ownsRow w.heap.size 5 1 v (encR r).length (u8s (encR r))∧Mod Nowhere w w'
theorem vRecord_none {w:World} {xa:Option Addr} {xc:Nat} (rid:Nat) (h1:rid≤4096) :
  Calls Tryz.prog 162 #[.agg #[.int .i64 rid,.slice xa 0 xc,.bool true]] w (RecPost w (rid,none)):=by
 obtain ⟨i0,hi0,hz0,hz1,hz2⟩:=info_parts info_u8;have hB1:∀ W,Calls Tryz.prog 225 #[.int .i64 rid,.int .i64 2] W fun e w'=>e = .returned (.slice (some ⟨W.heap.size,0,none⟩) 2 2)∧Blk w' W.heap.size (u8s (be 2 rid)) 5∧Mod Nowhere W w':=fun W=>vbytesOf_ok rid 2 (by omega) (by omega) (by omega);have hB2:∀ W,Calls Tryz.prog 225 #[.int .i64 65535,.int .i64 2] W fun e w'=>e = .returned (.slice (some ⟨W.heap.size,0,none⟩) 2 2)∧Blk w' W.heap.size (u8s (be 2 65535)) 5∧Mod Nowhere W w':=fun W=>vbytesOf_ok 65535 2 (by omega) (by omega) (by omega);have hl1:(u8s (be 2 rid)).length = 2:=by simp [u8s,be_len]
 have hl2:(u8s (be 2 65535)).length = 2:=by simp [u8s,be_len]
 have henc:u8s (be 2 rid) ++ u8s (be 2 65535) = u8s (encR (rid,none)):=by simp [encR,u8s]
 have hel:(encR (rid,none)).length = 4:=by rw [encR_len];rfl
 have hone2:=one_u8 (be 2 65535);unfold RecPost;rw [hel,← henc];generalize u8s (be 2 rid) = L1 at *;generalize u8s (be 2 65535) = L2 at *;have hm0:Mod Nowhere w (w.alloc (.cells #[.int .i64 rid,.slice xa 0 xc,.bool true] 238)):=(Mod.refl _ w).alloc _;have hs0:(w.alloc (.cells #[.int .i64 rid,.slice xa 0 xc,.bool true] 238)).heap.size = w.heap.size + 1:=by simp
 refine hid8 ?_ hB1 hB2 henc hel hl1 hl2 hm0 hs0;clear hB1 hB2 henc hel hl1 hl2 hm0 hs0;intro hB1 hB2 henc hel hl1 hl2 hm0 hs0;go_enter Tryz.func162,Tryz.ntmps162;go_wp2_with fail;refine (hB1.out _).mono ?_;rintro e w1 ⟨rfl,hb1,hm1⟩;have hsz1:=hm1.size;go_wp2_with fail;refine (hB2.out _).mono ?_;rintro e w2 ⟨rfl,hb2,hm2⟩;have hsz2:=hm2.size;rw [hs0.out] at hsz1 hb1;have hown:=owns_blk (base:=w.heap.size) (hb1.mod hm2 id) (by omega) hl1.out (by unfold maxLen;omega);have hsrc:=blk_src hb2;have hm3:=(hm0.out.trans hm1).trans hm2;replace hm3:=Lib.hid hm3;clear hm1 hm2 hb1 hb2
 go_wp2_with (at_builtin;refine wpList_append_lies _ rfl _ _ 22 rfl w.heap.size 5 i0 (.int .u8 0) 1 1 Tryz.underlying22 hi0 hz0 hz1 hz2 rfl (by decide) _ 2 _ (by rfl) hown ⟨w1.heap.size,0,none⟩ 2 2 L2 rfl hl2.out hsrc hone2 (by decide) (by unfold maxLen;omega) (by omega) (by omega) _ rfl ?_;intro g cap w4 hown4 hgrow4 hat4 hlt4;have hM4:Mod Nowhere w w4:=hm3.out.step ((Mod.refl (Above w.heap.size) _).app hown hgrow4) (fun i hi e=>by have e:w.heap.size≤i:=e;omega);clear hgrow4 hat4 hown;replace hown4:=Lib.hid hown4;replace hM4:=Lib.hid hM4)
 go_ret;exact ⟨_,rfl,hown4.out,hM4.out⟩
theorem vRecord_some {w:World} {xa:Option Addr} {xc:Nat} (rid:Nat) (d:List Nat) (hd:DSl w (.slice xa d.length xc) d) (h1:rid≤4096) (h2:d.length≤2048) :
  Calls Tryz.prog 162 #[.agg #[.int .i64 rid,.slice xa d.length xc,.bool false]] w (RecPost w (rid,some d)):=by
 obtain ⟨q,hq⟩:∃ q,d.length = q:=⟨_,rfl⟩;rw [hq] at hd h2 ⊢;have hB1:∀ W,Calls Tryz.prog 225 #[.int .i64 rid,.int .i64 2] W fun e w'=>e = .returned (.slice (some ⟨W.heap.size,0,none⟩) 2 2)∧Blk w' W.heap.size (u8s (be 2 rid)) 5∧Mod Nowhere W w':=fun W=>vbytesOf_ok rid 2 (by omega) (by omega) (by omega);have hB2:∀ W,Calls Tryz.prog 225 #[.int .i64 q,.int .i64 2] W fun e w'=>e = .returned (.slice (some ⟨W.heap.size,0,none⟩) 2 2)∧Blk w' W.heap.size (u8s (be 2 q)) 5∧Mod Nowhere W w':=fun W=>vbytesOf_ok q 2 (by omega) (by omega) (by omega)
 have hCat:∀ eA eB:World,Blk eA (w.heap.size + 1) (u8s (be 2 rid)) 5→Mod Nowhere w eA→Blk eB eA.heap.size (u8s (be 2 q)) 5→Mod Nowhere eA eB →
   Calls Tryz.prog 213 #[.slice (some ⟨eB.heap.size,0,none⟩) 3 3] (eB.alloc (.cells #[.slice (some ⟨w.heap.size + 1,0,none⟩) 2 2,.slice (some ⟨eA.heap.size,0,none⟩) 2 2,.slice xa q xc] 22)) fun e w' =>
    ∃ v',e = .returned v'∧w'.ownsRow w.heap.size 5 1 v' (encR (rid,some d)).length (u8s (encR (rid,some d)))∧Mod Nowhere w w'∧Mod Nowhere eB w':=by
  intro eA eB b1 m1 b2 m2;have m12:=(m1.trans m2).alloc (.cells #[.slice (some ⟨w.heap.size + 1,0,none⟩) 2 2,.slice (some ⟨eA.heap.size,0,none⟩) 2 2,.slice xa q xc] 22);have m2':=m2.alloc (.cells #[.slice (some ⟨w.heap.size + 1,0,none⟩) 2 2,.slice (some ⟨eA.heap.size,0,none⟩) 2 2,.slice xa q xc] 22);have mB:Mod Nowhere eB (eB.alloc (.cells #[.slice (some ⟨w.heap.size + 1,0,none⟩) 2 2,.slice (some ⟨eA.heap.size,0,none⟩) 2 2,.slice xa q xc] 22)):=(Mod.refl _ eB).alloc _;have hb4:Blk (eB.alloc (.cells #[.slice (some ⟨w.heap.size + 1,0,none⟩) 2 2,.slice (some ⟨eA.heap.size,0,none⟩) 2 2,.slice xa q xc] 22)) eB.heap.size [.slice (some ⟨w.heap.size + 1,0,none⟩) 2 2,.slice (some ⟨eA.heap.size,0,none⟩) 2 2,.slice xa q xc] 22:=Blk.new eB _ _;have hsz2:=m1.size
  have hsz3:=m2.size;generalize eB.alloc (.cells #[.slice (some ⟨w.heap.size + 1,0,none⟩) 2 2,.slice (some ⟨eA.heap.size,0,none⟩) 2 2,.slice xa q xc] 22) = eC at *
  have s2:Sl eC (.slice (some ⟨w.heap.size + 1,0,none⟩) 2 2) 5 1 (be 2 rid).length (u8s (be 2 rid)):=by
   rw [be_len];exact ⟨by simp [u8s,be_len],.inr ⟨_,0,2,_,rfl,b1.mod m2' id,Nat.le_refl _,by unfold maxLen;omega,by simp [u8s,be_len],by simp [List.take_of_length_le,u8s,be_len]⟩⟩
  have s3:Sl eC (.slice (some ⟨eA.heap.size,0,none⟩) 2 2) 5 1 (be 2 q).length (u8s (be 2 q)):=by
   rw [be_len];exact ⟨by simp [u8s,be_len],.inr ⟨_,0,2,_,rfl,b2.mod mB id,Nat.le_refl _,by unfold maxLen;omega,by simp [u8s,be_len],by simp [List.take_of_length_le,u8s,be_len]⟩⟩
  have s4:Sl eC (.slice xa q xc) 5 1 d.length (u8s d):=hd.fresh m12
  have hcl:(cat [(.slice (some ⟨w.heap.size + 1,0,none⟩) 2 2,be 2 rid),(.slice (some ⟨eA.heap.size,0,none⟩) 2 2,be 2 q),(.slice xa q xc,d)]) = encR (rid,some d):=by
   simp [cat,encR,hq]
  have:=Concat_u8 (w:=eC) (v:=.slice (some ⟨eB.heap.size,0,none⟩) 3 3)
   (xs:=[(.slice (some ⟨w.heap.size + 1,0,none⟩) 2 2,be 2 rid),(.slice (some ⟨eA.heap.size,0,none⟩) 2 2,be 2 q),(.slice xa q xc,d)])
   ⟨rfl,.inr ⟨eB.heap.size,0,3,_,rfl,hb4,Nat.le_refl _,by unfold maxLen;decide,Nat.le_refl _,rfl⟩⟩
   (by
    intro x hx;simp only [List.mem_cons,List.not_mem_nil,or_false] at hx;rcases hx with rfl | rfl | rfl
    ·exact s2
    ·exact s3
    ·exact s4) (by show 3≤1000;decide) (by rw [hcl,encR_len];simp;omega)
  rw [hcl] at this;refine this.mono ?_;rintro e w' ⟨v',rfl,ho',hm'⟩;have hsz4:=m12.size;exact ⟨v',rfl,ownsRow_base_a ho' hsz4,m12.trans hm',mB.trans hm'⟩
 have hm0:Mod Nowhere w (w.alloc (.cells #[.int .i64 rid,.slice xa q xc,.bool false] 238)):=(Mod.refl _ w).alloc _;unfold RecPost;refine hid5 ?_ hCat hB1 hB2 hq hd;clear hCat hB1 hB2 hq hd;intro hCat hB1 hB2 hq hd;generalize hR:encR (rid,some d) = R at *;replace hR:=Lib.hid hR;go_enter Tryz.func162,Tryz.ntmps162;go_wp2_with fail
 go_region_held3 (fun w'=>w'.cell? ⟨w.heap.size,0,none⟩ = some (.int .i64 rid)∧w'.cell? ⟨w.heap.size,1,none⟩ = some (.slice xa q xc)) (simp [*,World.cell?_alloc_some,World.cell?_setCell_far,World.cell?_setCell_other])
  (first | (go_at_call 225;(with_reducible refine (hB1.out _).mono ?_);rintro e eA ⟨rfl,hbA,hmA⟩;have k1:=hmA.cell (p:=⟨w.heap.size,0,none⟩) (by simp) id;have k2:=hmA.cell (p:=⟨w.heap.size,1,none⟩) (by simp) id;have hsA:w.heap.size < eA.heap.size:=(by have:=hmA.size;simp at this;omega);have hmA2:Mod Nowhere w eA:=Mod.trans (((Mod.refl _ w).alloc _).drew) hmA;(simp only [World.size_alloc,drew_hp] at hbA);replace hbA:=Lib.hid hbA;replace hmA:=Lib.hid hmA;replace hmA2:=Lib.hid hmA2) | (go_at_call 225;(with_reducible refine (hB2.out _).mono ?_);rintro e eB ⟨rfl,hbB,hmB⟩;have k1:=hmB.cell (p:=⟨w.heap.size,0,none⟩) (by assumption) id;have k2:=hmB.cell (p:=⟨w.heap.size,1,none⟩) (by assumption) id;have hsB:w.heap.size < eB.heap.size:=(by have:=hmB.size;omega);replace hbB:=Lib.hid hbB;replace hmB:=Lib.hid hmB) | (go_at_call 213;refine (hCat.out eA eB hbA.out hmA2.out hbB.out hmB.out).mono ?_;rintro e w5 ⟨v5,rfl,hown5,hm5,hm6⟩;have k1:=hm6.cell (p:=⟨w.heap.size,0,none⟩) (by assumption) id;have k2:=hm6.cell (p:=⟨w.heap.size,1,none⟩) (by assumption) id;replace hm6:=Lib.hid hm6;replace hown5:=Lib.hid hown5;replace hm5:=Lib.hid hm5))
 go_wp2;go_ret;exact ⟨_,rfl,hown5.out,hm5.out⟩
theorem vRecord_ok {w:World} {x:Vx} (hd:DSl w x.1 (x.2.2.getD [])) (hr:ROk x.2):Calls Tryz.prog 162 #[vAgg x] w (RecPost w x.2):=by
 obtain ⟨xv,rid,rd⟩:=x;obtain ⟨xa,xc,e,_⟩:=Sl.len hd;have h1:=hr.hi;have h2:=hr.len;dsimp only at e h1 h2 hd;subst e
 cases rd with
 | none=>exact vRecord_none rid h1
 | some d=>exact vRecord_some rid d hd h1 h2
end Go.Proofs.YtanioleniadhoaaGreat
