/-
  Keys: the kinds of a set; a key; the sets.
-/
import Derived.Test.YtoehlaeaafalmaaGreatCK3
set_option linter.unusedVariables false
set_option linter.unusedSimpArgs false
set_option maxHeartbeats 4000000
set_option maxRecDepth 100000
namespace Go.Proofs.YtoehlaeaafalmaaGreat
open Go.RowKit
open Jn Vn Rg Ky
attribute [local go_sem] Oper.semAt_some
theorem Y5:(Tryz.prog.info? 3).map (fun i=>(i.zero,i.size,i.bytes)) = some (some (Value.int .i64 0),1,8):=by kernel_rfl
def NPost (w:World) (kb mb:Nat) (A:VAt) (m:Mem) (s:VSt) (l:List Nat) (e:Ending) (w':World):Prop:=∃ v,e = .returned v∧Sl w' v 3 1 l.length (ints l)∧(∀ k,v.ownBlock = some k→w.heap.size≤k)∧KyR w' kb mb A m s∧Mod (OneB mb) w w'
theorem KLk.map {W:World} {mb:Nat} {L:List KEn} (h:KLk W mb L):∃ n f,KMap W mb n f:=by
 obtain ⟨n,g,h0,h1,h2⟩:=h;exact ⟨_,_,h1⟩
theorem ZgG (p:Nat→Bool) {j:Nat} (hj:j < 6):(six.take (j + 1)).filter p = (six.take j).filter p ++ (if p (j + 1) = true then [j + 1] else []):=by
 have h1:six.take (j + 1) = six.take j ++ [j + 1]:=by
  rcases (show j = 0 ∨ j = 1 ∨ j = 2 ∨ j = 3 ∨ j = 4 ∨ j = 5 by omega) with rfl | rfl | rfl | rfl | rfl | rfl <;> rfl
 rw [h1,List.filter_append]
 congr 1
 rw [List.filter_cons]
 split <;> rfl
theorem ZgH (p:Nat→Bool) (j:Nat):((six.take j).filter p).length≤6:=Nat.le_trans (List.length_filter_le _ _) (by rw [List.length_take];exact Nat.min_le_right _ _)
theorem Y6 {w:World} {kb mb:Nat} {A:VAt} {m:Mem} {s:VSt} (h:KyR w kb mb A m s) (st:Int) (hst:I64 st):Calls Tryz.prog 59 #[ptr kb,.int .i64 st] w (NPost w kb mb A m s (pKinds (kl (view s)) st)):=by
 have hA:=Yw h;have hL:=kl_KL h.it;have hfin:∀ W v,Mod (OneB mb) w W→KLk W mb (kl (view s))→Sl W v 3 1 (pKinds (kl (view s)) st).length (ints (pKinds (kl (view s)) st))→(∀ k,v.ownBlock = some k→w.heap.size≤k)→NPost w kb mb A m s (pKinds (kl (view s)) st) (.returned v) W:=fun W v hm hk hsl hfr=>⟨v,rfl,hsl,hfr,h.only hm hk.map,hm⟩;generalize NPost w kb mb A m s (pKinds (kl (view s)) st) = R at *;have hpk:pKinds (kl (view s)) st = (six.take 6).filter fun k:Nat=>(kfind (kl (view s)) st (k:Int)).isSome:=rfl;generalize kl (view s) = L at *;clear h;refine hid4 ?_ hA hL hfin hpk;clear hA hL hfin hpk;intro hA hL hfin hpk
 go_enter Tryz.func59,Tryz.ntmps59;go_wp2_with fail;refine (hA.out).mono ?_;rintro e w1 ⟨rfl,hKL1,hm1⟩;have hsz:=hm1.size;refine hid3 ?_ hKL1 hm1 hsz;clear hKL1 hm1 hsz;intro hKL1 hm1 hsz;go_wp2_with fail
 go_loopw [5,7] (fun v i wr=>∃ j:Nat,j≤6∧i = .int .i64 ((j:Int) + 1)∧wr.ownsRow w1.heap.size 3 1 v ((six.take j).filter fun k:Nat=>(kfind L st (k:Int)).isSome).length (ints ((six.take j).filter fun k:Nat=>(kfind L st (k:Int)).isSome))∧KLk wr mb L∧Mod (OneB mb) w wr∧w1.heap.size≤wr.heap.size) (fun _ i _=>7 - (intOf i).toNat)
 case atStart=>exact ⟨0,by omega,rfl,(by show World.ownsRow w1 w1.heap.size 3 1 (.slice none 0 0) 0 [];exact World.ownsRow_nil _ _ _ _),hKL1.out,hm1.out,Nat.le_refl _⟩
 case round =>
  obtain ⟨j,hj,rfl,hown,hKL,hm,hsw⟩:=hrel;by_cases hlt:j < 6
  ·have hc2:decide ((j:Int) + 1≤6) = true:=decide_eq_true (by omega);obtain ⟨u,hlook,hdu⟩:=hKL.look hL.out hst (show I64 ((j:Int) + 1) by unfold I64;omega);have hl1:=hlook wr (Mod.refl _ _);clear hlook;have hst6:=ZgG (fun k:Nat=>(kfind L st (k:Int)).isSome) hlt;have hfl:=ZgH (fun k:Nat=>(kfind L st (k:Int)).isSome) j;rw [show (((j + 1:Nat)):Int) = (j:Int) + 1 by omega] at hst6
   cases hf:kfind L st ((j:Int) + 1) with
   | none =>
    rw [hf] at hst6 hl1 hdu;rw [if_neg (show ¬ (none:Option KEn).isSome = true from by decide),List.append_nil] at hst6;obtain ⟨ua,uc,rfl,-⟩:=Sl.len hdu;simp only [Option.map_none,Option.getD_none,Option.isSome_none,List.length_nil] at hl1;have hmA:Mod Nowhere wr (wr.alloc (.cells #[.int .i64 ((0:Nat):Int),.int .i64 ((0:Nat):Int),.slice ua 0 uc] 93)):=(Mod.refl _ wr).alloc _;have hsz2:=hmA.size;have hown2:=Zb hown hmA (fun _ _ e=>e);have hKL2:=hKL.fresh hmA;have hm2:=hm.trans (hmA.nowhere (S:=OneB mb));rw [← hst6] at hown2;clear hown hKL hm hdu hmA hst6;refine hid7 ?_ hown2 hKL2 hm2 hfl hf hsw hsz2;clear hown2 hKL2 hm2 hfl hf hsw hsz2;intro hown2 hKL2 hm2 hfl hf hsw hsz2
    go_wp2;go_roundw
    case rel=>exact ⟨j + 1,by omega,by go_num,hown2.out,hKL2.out,hm2.out,Nat.le_trans hsw.out hsz2.out⟩
    case measure=>simp [intOf];omega
   | some e =>
    rw [hf] at hst6 hl1 hdu;rw [if_pos (show (some e).isSome = true from rfl)] at hst6;obtain ⟨ua,uc,rfl,-⟩:=Sl.len hdu;simp only [Option.map_some,Option.getD_some,Option.isSome_some] at hl1;have hmA:Mod Nowhere wr (wr.alloc (.cells #[.int .i64 ((e.tries:Nat):Int),.int .i64 ((e.lim:Nat):Int),.slice ua e.val.length uc] 93)):=(Mod.refl _ wr).alloc _;have hsz2:=hmA.size;have hown2:=Zb hown hmA (fun _ _ e=>e);have hKL2:=hKL.fresh hmA;have hm2:=hm.trans (hmA.nowhere (S:=OneB mb));generalize e.val.length = vn at *;generalize e.tries = et at *;generalize e.lim = el at *;obtain ⟨va,vc,rfl,-⟩:=Zf hown
    obtain ⟨va2,vc2,w3,hrun,hown3,hmO⟩:=ZM Tryz.underlying59 Y5 rfl (by decide) hown2 (news:=[.int .i64 ((j:Int) + 1)]) rfl (by intro u hu;simp only [List.mem_cons,List.not_mem_nil,or_false] at hu;subst hu;rfl) (by omega) (by omega) (Nat.le_trans hsw hsz2);have hab:=Own1.above hown2;have hblk:=Own1.blk hown2
    have hm3:=hm2.step hmO fun i hi e=>by
     have h1:=(hab i e).1;have h2:=hsz.out;omega
    have hKL3:KLk w3 mb L:=by
     obtain ⟨n,g,h0,h1,h2⟩:=hKL2;refine ⟨n,g,h0,h1.mod hmO (fun e=>?_),fun e he=>(h2 e he).mod hmO fun k hk cs hb=>?_⟩
     ·obtain ⟨cs,hb⟩:=hblk mb e;exact Ze h1.map hb
     ·obtain ⟨cs',hb'⟩:=hblk k hk;exact absurd (hb.inj hb').2 (by decide)
    have hsz3:=hmO.size;have hln:ints ((six.take j).filter fun k:Nat=>(kfind L st (k:Int)).isSome) ++ [.int .i64 ((j:Int) + 1)] = ints ((six.take (j + 1)).filter fun k:Nat=>(kfind L st (k:Int)).isSome):=by rw [hst6];simp [ints]
    have hll:((six.take j).filter fun k:Nat=>(kfind L st (k:Int)).isSome).length + 1 = ((six.take (j + 1)).filter fun k:Nat=>(kfind L st (k:Int)).isSome).length:=by rw [hst6,List.length_append];rfl
    rw [hln,hll] at hown3;rw [hll] at hrun;simp only [World.size_alloc] at hrun;generalize hq1:((six.take j).filter fun k:Nat=>(kfind L st (k:Int)).isSome).length = q1 at *;generalize hq2:((six.take (j + 1)).filter fun k:Nat=>(kfind L st (k:Int)).isSome).length = q2 at *;clear hown hown2 hKL hKL2 hm hm2 hdu hmA hmO hst6 hab hblk hln hll;refine hid10 ?_ hown3 hKL3 hm3 hfl hf hsw hsz2 hsz3 hq1 hq2;clear hown3 hKL3 hm3 hfl hf hsw hsz2 hsz3 hq1 hq2;intro hown3 hKL3 hm3 hfl hf hsw hsz2 hsz3 hq1 hq2
    go_wp2_with (at_builtin;refine Lib.wpList_append_run _ rfl _ _ _ _ rfl _ _ (by rfl) (by rfl) _ _ hrun ?_;clear hrun)
    go_roundw
    case rel=>exact ⟨j + 1,by omega,by go_num,by rw [hq2.out];exact hown3.out,hKL3.out,hm3.out,Nat.le_trans hsw.out (Nat.le_trans hsz2.out hsz3.out)⟩
    case measure=>simp [intOf];omega
  ·obtain rfl:j = 6:=by omega
   rw [← hpk.out] at hown;have hf:=hfin.out wr _ hm hKL (Sl.of_owns hown) fun k hk=>Nat.le_trans hsz.out (ZB hown k hk);refine hid5 ?_ hf hown hKL hm hsw;clear hf hown hKL hm hsw;intro hf hown hKL hm hsw;go_wp2;exact hf.out
def eightS:List Nat:=[1,2,3,4,5,6,7,8]
theorem ZgI (p:Nat→Bool) {j:Nat} (hj:j < 8):(eightS.take (j + 1)).filter p = (eightS.take j).filter p ++ (if p (j + 1) = true then [j + 1] else []):=by
 have h1:eightS.take (j + 1) = eightS.take j ++ [j + 1]:=by
  rcases (show j = 0 ∨ j = 1 ∨ j = 2 ∨ j = 3 ∨ j = 4 ∨ j = 5 ∨ j = 6 ∨ j = 7 by omega) with rfl | rfl | rfl | rfl | rfl | rfl | rfl | rfl <;> rfl
 rw [h1,List.filter_append]
 congr 1
 rw [List.filter_cons]
 split <;> rfl
theorem ZgJ (p:Nat→Bool) (j:Nat):((eightS.take j).filter p).length≤8:=Nat.le_trans (List.length_filter_le _ _) (by rw [List.length_take];exact Nat.min_le_right _ _)
theorem KyR.mbl {w:World} {kb mb:Nat} {A:VAt} {m:Mem} {s:VSt} (h:KyR w kb mb A m s):mb < w.heap.size:=by
 obtain ⟨n,f,hf⟩:=h.map;exact hf.lt
def MapIs (w:World) (mb:Nat):Prop:=∃ n f,KMap w mb n f
theorem MapIs.fresh {w w':World} {mb:Nat} (h:MapIs w mb) (hm:Mod Nowhere w w'):MapIs w' mb:=by
 obtain ⟨n,f,hf⟩:=h;exact ⟨n,f,hf.fresh hm⟩
theorem MapIs.own {w w':World} {mb B:Nat} {T:TypeId} {sz n:Nat} {v:Value} {xs:List Value} (h:MapIs w mb) (ho:w.ownsRow B T sz v n xs) (hm:Mod (Own1 v) w w'):MapIs w' mb:=by
 obtain ⟨n',f,hf⟩:=h;refine ⟨n',f,hf.mod hm (fun e=>?_)⟩;obtain ⟨cs,hb⟩:=Own1.blk ho mb e;exact Ze hf.map hb
theorem KyR.mapIs {w:World} {kb mb:Nat} {A:VAt} {m:Mem} {s:VSt} (h:KyR w kb mb A m s):MapIs w mb:=h.map
theorem Zb6 {w:World} {kb mb:Nat} {A:VAt} {m:Mem} {s:VSt} (h:KyR w kb mb A m s):Calls Tryz.prog 22 #[ptr kb] w (NPost w kb mb A m s (pSets (kl (view s)))):=by
 have hA:∀ W,Mod (OneB mb) w W→MapIs W mb→∀ st:Int,I64 st→Calls Tryz.prog 59 #[ptr kb,.int .i64 st] W (NPost W kb mb A m s (pKinds (kl (view s)) st)):=fun W hm hk st hst=>Y6 (h.only hm hk) st hst;have hfin:∀ W v,Mod (OneB mb) w W→MapIs W mb→Sl W v 3 1 (pSets (kl (view s))).length (ints (pSets (kl (view s))))→(∀ k,v.ownBlock = some k→w.heap.size≤k)→NPost w kb mb A m s (pSets (kl (view s))) (.returned v) W:=fun W v hm hk hsl hfr=>⟨v,rfl,hsl,hfr,h.only hm hk,hm⟩;have hmp:=h.mapIs;have hmbl:=h.mbl;generalize NPost w kb mb A m s (pSets (kl (view s))) = R at *;have hpk:pSets (kl (view s)) = (eightS.take 8).filter fun k:Nat=>!(pKinds (kl (view s)) (k:Int)).isEmpty:=rfl
 generalize kl (view s) = L at *;clear h;refine hid4 ?_ hA hfin hpk hmp;clear hA hfin hpk hmp;intro hA hfin hpk hmp;go_enter Tryz.func22,Tryz.ntmps22;go_wp2
 go_loopw [3,4] (fun v i wr=>∃ j:Nat,j≤8∧i = .int .i64 ((j:Int) + 1)∧wr.ownsRow w.heap.size 3 1 v ((eightS.take j).filter fun k:Nat=>!(pKinds L (k:Int)).isEmpty).length (ints ((eightS.take j).filter fun k:Nat=>!(pKinds L (k:Int)).isEmpty))∧MapIs wr mb∧Mod (OneB mb) w wr) (fun _ i _=>9 - (intOf i).toNat)
 case atStart=>exact ⟨0,by omega,rfl,(by show World.ownsRow w w.heap.size 3 1 (.slice none 0 0) 0 [];exact World.ownsRow_nil _ _ _ _),hmp.out,Mod.refl _ _⟩
 case round =>
  obtain ⟨j,hj,rfl,hown,hmi,hm⟩:=hrel;by_cases hlt:j < 8
  ·have hc2:decide ((j:Int) + 1≤8) = true:=decide_eq_true (by omega);have hk1:=hA.out wr hm hmi ((j:Int) + 1) (by unfold I64;omega);have hst8:=ZgI (fun k:Nat=>!(pKinds L (k:Int)).isEmpty) hlt;have hfl:=ZgJ (fun k:Nat=>!(pKinds L (k:Int)).isEmpty) j;rw [show (((j + 1:Nat)):Int) = (j:Int) + 1 by omega] at hst8;refine hid6 ?_ hk1 hst8 hfl hmi hm hown;clear hk1 hst8 hfl hmi hm hown;intro hk1 hst8 hfl hmi hm hown;go_wp2_with fail;refine (hk1.out).mono ?_;rintro e w2 ⟨vk,rfl,hsk,-,hK2,hm2⟩;obtain ⟨ka,kc,rfl,-⟩:=Sl.len hsk;clear hsk;have hmi2:=hK2.mapIs;have hm02:=hm.out.trans hm2
   have hown2:=Zb hown.out hm2 (fun k hk e=>by have e:k = mb:=e;omega);clear hK2 hmi hm hown
   cases hp:(pKinds L ((j:Int) + 1)).isEmpty with
   | true =>
    have hp0:(pKinds L ((j:Int) + 1)).length = 0:=by rw [List.isEmpty_iff] at hp;rw [hp];rfl
    have h8:=hst8.out;rw [hp] at h8;rw [if_neg (show ¬ (!true) = true from by decide),List.append_nil] at h8;rw [← h8] at hown2;rw [hp0];clear h8;refine hid6 ?_ hown2 hmi2 hm02 hm2 hp hp0;clear hown2 hmi2 hm02 hm2 hp hp0;intro hown2 hmi2 hm02 hm2 hp hp0;go_wp2;go_roundw
    case rel=>exact ⟨j + 1,by omega,by go_num,hown2.out,hmi2.out,hm02.out⟩
    case measure=>simp [intOf];omega
   | false =>
    have hp0:(0:Int) < ((pKinds L ((j:Int) + 1)).length:Int):=by
     have:pKinds L ((j:Int) + 1) ≠ []:=fun e=>by rw [e] at hp;cases hp
     have:=List.length_pos_iff.2 this;omega
    have h8:=hst8.out;rw [hp] at h8;rw [if_pos (show (!false) = true from rfl)] at h8;generalize hkn:(pKinds L ((j:Int) + 1)).length = kn at *;have hfl':=hfl.out;obtain ⟨va,vc,rfl,-⟩:=Zf hown2;obtain ⟨va2,vc2,w3,hrun,hown3,hmO⟩:=ZM Tryz.underlying59 Y5 rfl (by decide) hown2 (news:=[.int .i64 ((j:Int) + 1)]) rfl (by intro u hu;simp only [List.mem_cons,List.not_mem_nil,or_false] at hu;subst hu;rfl) (by omega) (by omega) hm02.size;have hab:=Own1.above hown2
    have hm3:=hm02.step hmO fun i hi e=>by
     have h1:=(hab i e).1;omega
    have hmi3:=hmi2.own hown2 hmO;have hln:ints ((eightS.take j).filter fun k:Nat=>!(pKinds L (k:Int)).isEmpty) ++ [.int .i64 ((j:Int) + 1)] = ints ((eightS.take (j + 1)).filter fun k:Nat=>!(pKinds L (k:Int)).isEmpty):=by rw [h8];simp [ints]
    have hll:((eightS.take j).filter fun k:Nat=>!(pKinds L (k:Int)).isEmpty).length + 1 = ((eightS.take (j + 1)).filter fun k:Nat=>!(pKinds L (k:Int)).isEmpty).length:=by rw [h8,List.length_append];rfl
    rw [hln,hll] at hown3;rw [hll] at hrun;generalize hq1:((eightS.take j).filter fun k:Nat=>!(pKinds L (k:Int)).isEmpty).length = q1 at *;generalize hq2:((eightS.take (j + 1)).filter fun k:Nat=>!(pKinds L (k:Int)).isEmpty).length = q2 at *;clear hown2 hmi2 hm02 hm2 hmO h8 hab hln hll hfl';refine hid7 ?_ hown3 hmi3 hm3 hp hq1 hq2 hkn;clear hown3 hmi3 hm3 hp hq1 hq2 hkn;intro hown3 hmi3 hm3 hp hq1 hq2 hkn
    go_wp2_with (at_builtin;refine Lib.wpList_append_run _ rfl _ _ _ _ rfl _ _ (by rfl) (by rfl) _ _ hrun ?_;clear hrun)
    go_roundw
    case rel=>exact ⟨j + 1,by omega,by go_num,by rw [hq2.out];exact hown3.out,hmi3.out,hm3.out⟩
    case measure=>simp [intOf];omega
  ·obtain rfl:j = 8:=by omega
   rw [← hpk.out] at hown;have hf:=hfin.out wr _ hm hmi (Sl.of_owns hown) (ZB hown);refine hid4 ?_ hf hown hmi hm;clear hf hown hmi hm;intro hf hown hmi hm;go_wp2;exact hf.out
def keyV (o:Option KEn) (u:Value):Value:=.agg #[.int .i64 (((o.map (·.set)).getD 0:Nat):Int),.int .i64 (((o.map (·.kind)).getD 0:Nat):Int),u,.int .i64 (((o.map (·.lim)).getD 0:Nat):Int)]
def valOf (o:Option KEn):List Nat:=(o.map (·.val)).getD []
def GKPost (w:World) (kb mb:Nat) (A:VAt) (m:Mem) (s:VSt) (o:Option KEn) (e:Ending) (w':World):Prop:=∃ u,e = .returned (.tuple #[keyV o u,.bool o.isSome])∧DSl w' u (valOf o)∧KyR w' kb mb A m s∧Mod (OneB mb) w w'
theorem Y7 {fn:Func} {p u:Tmp} (h:fn.results = #[.cell p 39,.tmp u]) (tmps:Array Value) (w:World) (b:Nat) (c0 c1 c2 c3:Value) (hp:tmps.getD p undef = ptr b) (hb:Blk w b [c0,c1,c2,c3] 39) :
  (results fn tmps).run Tryz.prog w = .ok (.tuple #[.agg #[c0,c1,c2,c3],tmps.getD u undef]) w:=by
 rw [results_cell_tmp h,hp];have k0:=hb.cell 0;have k1:=hb.cell 1;have k2:=hb.cell 2;have k3:=hb.cell 3;simp only [gz0,gs0] at k0 k1 k2 k3
 go_simp
theorem setw4 {w2:World} {B:Nat} {T:TypeId} {c0 c1 c2 c3:Value} (hb:Blk w2 B [c0,c1,c2,c3] T) (v0 v1 v2 v3:Value) :
  Blk ((((w2.setCell ⟨B,0,none⟩ v0).setCell ⟨B,1,none⟩ v1).setCell ⟨B,2,none⟩ v2).setCell ⟨B,3,none⟩ v3) B [v0,v1,v2,v3] T ∧
  Mod (fun j=>j = B) w2 ((((w2.setCell ⟨B,0,none⟩ v0).setCell ⟨B,1,none⟩ v1).setCell ⟨B,2,none⟩ v2).setCell ⟨B,3,none⟩ v3) :=
 ⟨(((hb.setCell 0 v0).setCell 1 v1).setCell 2 v2).setCell 3 v3,((((Mod.refl (fun j=>j = B) w2).setCell (p:=⟨B,0,none⟩) (fun _=>rfl) v0).setCell (p:=⟨B,1,none⟩) (fun _=>rfl) v1).setCell (p:=⟨B,2,none⟩) (fun _=>rfl) v2).setCell (p:=⟨B,3,none⟩) (fun _=>rfl) v3⟩
theorem MapIs.keep {w w':World} {mb b:Nat} {cs:List Value} {T:TypeId} (h:MapIs w mb) (hb:Blk w b cs T) (hm:Mod (fun j=>j = b) w w'):MapIs w' mb:=by
 obtain ⟨n',f,hf⟩:=h;refine ⟨n',f,hf.mod hm (fun e=>?_)⟩;have e:mb = b:=e;rw [← e] at hb;exact Ze hf.map hb
theorem ZgK {w:World} {kb mb:Nat} {A:VAt} {m:Mem} {s:VSt} (h:KyR w kb mb A m s) (st kd:Int) (hst:I64 st) (hkd:I64 kd):Calls Tryz.prog 21 #[ptr kb,.int .i64 st,.int .i64 kd] w (GKPost w kb mb A m s (kfind (kl (view s)) st kd)):=by
 have hm0:Mod Nowhere w (w.alloc (.cells #[.int .i64 0,.int .i64 0,.slice none 0 0,.int .i64 0] 39)):=(Mod.refl _ w).alloc _;have hb0:=Blk.new w [.int .i64 0,.int .i64 0,.slice none 0 0,.int .i64 0] 39;have hA:=Yw (h.fresh hm0);have hL:=kl_KL h.it;have hfin:∀ W u,Mod (OneB mb) w W→MapIs W mb→DSl W u (valOf (kfind (kl (view s)) st kd))→GKPost w kb mb A m s (kfind (kl (view s)) st kd) (.returned (.tuple #[keyV (kfind (kl (view s)) st kd) u,.bool (kfind (kl (view s)) st kd).isSome])) W:=fun W u hm hk hd=>⟨u,rfl,hd,h.only hm hk,hm⟩;have hmbl:=h.mbl;generalize GKPost w kb mb A m s (kfind (kl (view s)) st kd) = R at *
 generalize kl (view s) = L at *;clear h;refine hid5 ?_ hA hL hfin hm0 hb0;clear hA hL hfin hm0 hb0;intro hA hL hfin hm0 hb0;go_enter Tryz.func21,Tryz.ntmps21;go_wp2_with fail;refine (hA.out).mono ?_;rintro e w1 ⟨rfl,hKL,hm1⟩;obtain ⟨u,hlook,hdu⟩:=hKL.look hL.out hst hkd;have hl1:=hlook w1 (Mod.refl _ _);clear hlook;have hb1:=hb0.out.mod hm1 (fun e=>by have e:w.heap.size = mb:=e;omega);have hm01:=(hm0.out.nowhere (S:=OneB mb)).trans hm1
 cases hf:kfind L st kd with
 | none =>
  rw [hf] at hl1 hdu hfin;obtain ⟨ua,uc,rfl,-⟩:=Sl.len hdu;simp only [Option.map_none,Option.getD_none,Option.isSome_none,List.length_nil] at hl1;rw [show ((0:Nat):Int) = 0 from rfl] at hl1;have hmA:Mod Nowhere w1 (w1.alloc (.cells #[.int .i64 0,.int .i64 0,.slice ua 0 uc] 93)):=(Mod.refl _ w1).alloc _;have hb2:=hb1.mod hmA (fun e=>e);obtain ⟨hb3,hm3⟩:=setw4 hb2 (.int .i64 0) (.int .i64 0) (.slice none 0 0) (.int .i64 0);have hmi:=MapIs.fresh hKL.map hmA;have hmi3:=hmi.keep hb2 hm3;have hmF:=(hm01.trans (hmA.nowhere (S:=OneB mb))).step hm3 fun i hi e=>absurd e (by omega);have z0:=hb2.cell 0;have z1:=hb2.cell 1;have z2:=hb2.cell 2;have z3:=hb2.cell 3;have zf:=hb2.frozen;have zl:=hb2.lt
  simp only [gz0,gs0] at z0 z1 z2 z3;have hff:=hfin.out _ (.slice none 0 0) hmF hmi3 (Sl.nil _ _ _);have hkv:keyV none (.slice none 0 0) = .agg #[.int .i64 0,.int .i64 0,.slice none 0 0,.int .i64 0]:=rfl;rw [hkv,Option.isSome_none] at hff;clear hKL hm1 hm01 hdu hb1 hmA hmi hmi3 hm3 hmF hkv hb2 hfin;refine hid3 ?_ hb3 hff hf;clear hb3 hff hf;intro hb3 hff hf;go_wp2;refine bodyPost_ret (Y7 rfl _ _ w.heap.size _ _ _ _ rfl hb3.out) rfl ?_;exact hff.out
 | some e =>
  rw [hf] at hl1 hdu hfin;have hek:=Zp hL.out hf;obtain ⟨ua,uc,rfl,-⟩:=Sl.len hdu;simp only [Option.map_some,Option.getD_some,Option.isSome_some] at hl1 hdu;have hkv:∀ u,keyV (some e) u = .agg #[.int .i64 st,.int .i64 kd,u,.int .i64 (e.lim:Int)]:=fun u=>by rw [hek.2.2.1,hek.2.2.2];rfl
  have hvo:valOf (some e) = e.val:=rfl;have hv16:=hek.2.1.v16;rw [hv16] at hl1 hdu;have hmA:Mod Nowhere w1 (w1.alloc (.cells #[.int .i64 ((e.tries:Nat):Int),.int .i64 ((e.lim:Nat):Int),.slice ua 16 uc] 93)):=(Mod.refl _ w1).alloc _;have hbx:=Blk.new w1 [.int .i64 ((e.tries:Nat):Int),.int .i64 ((e.lim:Nat):Int),.slice ua 16 uc] 93;have hb2:=hb1.mod hmA (fun e=>e);have hmi:=MapIs.fresh hKL.map hmA;have hm02:=hm01.trans (hmA.nowhere (S:=OneB mb));have hC:=fun W (hm:Mod Nowhere w1 W)=>YW (hdu.src.fresh hm) (by rw [hv16];decide);rw [hvo] at hfin;rw [hv16] at hC
  clear hKL hm1 hm01 hdu hb1 hek hvo;generalize e.tries = et at *;generalize e.lim = el at *;generalize e.val = ev at *;refine hid9 ?_ hbx hb2 hmi hm02 hC hkv hv16 hf hmA;clear hbx hb2 hmi hm02 hC hkv hv16 hf hmA;intro hbx hb2 hmi hm02 hC hkv hv16 hf hmA;go_wp2_with fail;refine ZD 8 (fun i v w'=>match i with | 0=>(v = .int .i64 st) | 1=>(v = .int .i64 kd) | 2=>(v = .pointer (some ⟨w1.heap.size,2,none⟩)) | 3=>(v = .slice ua 16 uc) | 4=>(∃ (a:Option Addr) (c:Nat),v = .slice a 16 c∧DSl w' (.slice a 16 c) ev) | 5=>(v = .pointer (some ⟨w1.heap.size,1,none⟩)) | 6=>(v = .int .i64 (el:Int)) | 7=>(∃ (a:Option Addr) (c:Nat),v = .agg #[.int .i64 st,.int .i64 kd,.slice a 16 c,.int .i64 (el:Int)]∧DSl w' (.slice a 16 c) ev) | _=>True) ?A_ (by first | assumption | kernel_rfl) (by kernel_rfl) (by kernel_rfl) (by kernel_rfl) (by decide) ?hA_ ?hS_ ?hE_
  case hA_=>intro xs;simp [putAll,List.range,List.range.loop,Act.put] <;> rfl
  case hS_ =>
   refine ⟨?_,?_,?_,?_,?_,?_,?_,?_,trivial⟩
   ·-- 0: t22:=move(t1)
    intro yv w' hR hF K hK;clear hF
    go_simp
    exact hK _ _ (fun _ _=>by first | trivial | rfl | simp [*]) (Mod.refl _ _)
   ·-- 1: t23:=move(t2)
    intro yv w' hR hF K hK;clear hF
    go_simp
    exact hK _ _ (fun _ _=>by first | trivial | rfl | simp [*]) (Mod.refl _ _)
   ·-- 2: t24:=fieldAddr(93,t8,2)
    intro yv w' hR hF K hK;clear hF
    go_simp
    exact hK _ _ (fun _ _=>by first | trivial | rfl | simp [*]) (Mod.refl _ _)
   ·-- 3: t25:=load(37,t24)
    intro yv w' hR hF K hK;have f2:(yv 2) = .pointer (some ⟨w1.heap.size,2,none⟩):=hF 2 (by kernel_rfl) w' (Mod.refl _ _);clear hF;generalize yv 2 = y2 at *;subst f2;have b2:=hbx.out.mod ((Mod.refl Nowhere _).drew.trans hR) (fun e=>e);have z2:=b2.cell 2;have zl:=b2.lt;simp only [gz0,gs0] at z2;clear b2
    go_simp
    exact hK _ _ (fun _ _=>rfl) (Mod.refl _ _)
   ·-- 4: t26:=CALL F58 (t25)
    intro yv w' hR hF K hK;have f3:(yv 3) = .slice ua 16 uc:=hF 3 (by kernel_rfl) w' (Mod.refl _ _);clear hF;generalize yv 3 = y3 at *;subst f3;have hc:=hC.out w' (hmA.out.drew.trans hR);replace hc:=Lib.hid hc
    go_simp
    go_at_call 58
    refine hc.out.mono ?_;rintro e w9 ⟨a,c,rfl,hown,hm9⟩;refine hK _ _ (fun W hW=>⟨a,c,rfl,?_⟩) hm9;have hd:DSl w9 (.slice a 16 c) ev:=by unfold DSl;rw [hv16.out];exact Sl.of_owns hown
    exact hd.fresh hW
   ·-- 5: t27:=fieldAddr(93,t8,1)
    intro yv w' hR hF K hK;clear hF
    go_simp
    exact hK _ _ (fun _ _=>by first | trivial | rfl | simp [*]) (Mod.refl _ _)
   ·-- 6: t28:=load(3,t27)
    intro yv w' hR hF K hK;have f5:(yv 5) = .pointer (some ⟨w1.heap.size,1,none⟩):=hF 5 (by kernel_rfl) w' (Mod.refl _ _);clear hF;generalize yv 5 = y5 at *;subst f5;have b2:=hbx.out.mod ((Mod.refl Nowhere _).drew.trans hR) (fun e=>e);have z2:=b2.cell 1;have zl:=b2.lt;simp only [gz0,gs0] at z2;clear b2
    go_simp
    exact hK _ _ (fun _ _=>rfl) (Mod.refl _ _)
   ·-- 7: t29:=build(39,[(0,t22),(1,t23),(2,t26),(3,t28)])
    intro yv w' hR hF K hK;have f0:(yv 0) = .int .i64 st:=hF 0 (by kernel_rfl) w' (Mod.refl _ _);have f1:(yv 1) = .int .i64 kd:=hF 1 (by kernel_rfl) w' (Mod.refl _ _);have f4:∃ (a:Option Addr) (c:Nat),(yv 4) = .slice a 16 c∧DSl w' (.slice a 16 c) ev:=hF 4 (by kernel_rfl) w' (Mod.refl _ _);have f6:(yv 6) = .int .i64 (el:Int):=hF 6 (by kernel_rfl) w' (Mod.refl _ _);clear hF;generalize yv 0 = y0 at *;subst f0;generalize yv 1 = y1 at *;subst f1;generalize yv 4 = y4 at *;generalize yv 6 = y6 at *;subst f6;obtain ⟨a,c,rfl,hd⟩:=f4
    go_simp
    exact hK _ _ (fun W hW=>⟨a,c,rfl,hd.fresh hW⟩) (Mod.refl _ _)
  case hE_ =>
   intro yv w' hR hF;have f0:(yv 0) = .int .i64 st:=hF 0 (by simp) w' (Mod.refl _ _);have f1:(yv 1) = .int .i64 kd:=hF 1 (by simp) w' (Mod.refl _ _);have f2:(yv 2) = .pointer (some ⟨w1.heap.size,2,none⟩):=hF 2 (by simp) w' (Mod.refl _ _);have f3:(yv 3) = .slice ua 16 uc:=hF 3 (by simp) w' (Mod.refl _ _);have f4:∃ (a:Option Addr) (c:Nat),(yv 4) = .slice a 16 c∧DSl w' (.slice a 16 c) ev:=hF 4 (by simp) w' (Mod.refl _ _);have f5:(yv 5) = .pointer (some ⟨w1.heap.size,1,none⟩):=hF 5 (by simp) w' (Mod.refl _ _);have f6:(yv 6) = .int .i64 (el:Int):=hF 6 (by simp) w' (Mod.refl _ _);have f7:∃ (a:Option Addr) (c:Nat),(yv 7) = .agg #[.int .i64 st,.int .i64 kd,.slice a 16 c,.int .i64 (el:Int)]∧DSl w' (.slice a 16 c) ev:=hF 7 (by simp) w' (Mod.refl _ _)
   clear hF;generalize yv 0 = y0 at *;subst f0;generalize yv 1 = y1 at *;subst f1;generalize yv 2 = y2 at *;subst f2;generalize yv 3 = y3 at *;subst f3;generalize yv 4 = y4 at *;generalize yv 5 = y5 at *;subst f5;generalize yv 6 = y6 at *;subst f6;generalize yv 7 = y7 at *;simp only [List.drop_succ_cons,List.drop_zero];obtain ⟨a,c,rfl,hd⟩:=f7;clear f4;have hm7:=(Mod.refl Nowhere _).drew.trans hR;have hb5:=hb2.out.mod hm7 (fun e=>e);have hmi5:=hmi.out.fresh hm7;have hm5:=hm02.out.trans (hm7.nowhere (S:=OneB mb));obtain ⟨hb6,hm6⟩:=setw4 hb5 (.int .i64 st) (.int .i64 kd) (.slice a 16 c) (.int .i64 (el:Int));have hmi6:=hmi5.keep hb5 hm6
   have hd6:=DSl.mod hd hm6 (fun k hk cs hb=>by rw [hk] at hb;exact absurd (hb.inj hb5).2 (by decide));have hmF:=hm5.step hm6 fun i hi e=>absurd e (by omega);have z0:=hb5.cell 0;have z1:=hb5.cell 1;have z2:=hb5.cell 2;have z3:=hb5.cell 3;have zf:=hb5.frozen;have zl:=hb5.lt;simp only [gz0,gs0] at z0 z1 z2 z3;have hff:=hfin.out _ _ hmF hmi6 hd6;rw [hkv.out,Option.isSome_some] at hff;clear hR hbx hb2 hmi hm02 hC hkv hm7 hb5 hmi5 hm5 hm6 hmi6 hd6 hmF hd hmA;refine hid2 ?_ hb6 hff;clear hb6 hff;intro hb6 hff;go_wp2;refine bodyPost_ret (Y7 rfl _ _ w.heap.size _ _ _ _ rfl hb6.out) rfl ?_;exact hff.out
abbrev IxV:=Value × KEn
def inCells (x:IxV):List Value:=[.int .i64 (x.2.set:Int),.int .i64 (x.2.kind:Int),.int .i64 (x.2.tries:Int),x.1]
def insCells (xs:List IxV):List Value:=xs.flatMap inCells
theorem Zb7 (xs:List IxV) (x:IxV):insCells (xs ++ [x]) = insCells xs ++ inCells x:=by simp [insCells]
theorem Zb8:∀ (xs:List IxV) (i:Nat) (h:i < xs.length) (j:Nat),j < 4→(insCells xs).getD (i * 4 + j) default = (inCells xs[i]).getD j default
 | x :: xs,0,_,j,hj=>by
  rw [Nat.zero_mul,Nat.zero_add]
  show (inCells x ++ insCells xs).getD j default = _
  rw [gd0,List.getElem?_append_left (by simpa [inCells] using hj),← gd0]
  rfl
 | x :: xs,i + 1,h,j,hj=>by
  have ih:=Zb8 xs i (by simpa using h) j hj
  show (inCells x ++ insCells xs).getD ((i + 1) * 4 + j) default = _
  rw [gd0,List.getElem?_append_right (by simp [inCells];omega),← gd0,show (i + 1) * 4 + j - (inCells x).length = i * 4 + j by simp [inCells];omega];exact ih
structure ISl (w:World) (v:Value) (xs:List IxV):Prop where
 sl:Sl w v 74 4 xs.length (insCells xs)
 data:∀ x ∈ xs,DSl w x.1 (Cy.chk x.2.val)
theorem ISl.fresh {w w':World} {v:Value} {xs:List IxV} (h:ISl w v xs) (hm:Mod Nowhere w w'):ISl w' v xs:=⟨h.sl.mod hm (fun _ _ e=>e),fun x hx=>(h.data x hx).fresh hm⟩
theorem ISl.only {w w':World} {mb:Nat} {v:Value} {xs:List IxV} (h:ISl w v xs) (hmi:MapIs w mb) (hm:Mod (OneB mb) w w'):ISl w' v xs:=by
 obtain ⟨n,f,hf⟩:=hmi
 have hsh:∀ U,Shun (OneB mb) w U:=fun U k e cs hb=>by
  have e:k = mb:=e;rw [e] at hb;exact Ze hf.map hb
 exact ⟨h.sl.mod hm (h.sl.off (hsh _)),fun x hx=>(h.data x hx).mod hm (hsh _)⟩
theorem Zb9:(Tryz.prog.info? 74).map (fun i=>(i.zero,i.size,i.bytes)) = some (some (.agg #[.int .i64 0,.int .i64 0,.int .i64 0,.slice none 0 0]),4,48):=by kernel_rfl
def IPost (w:World) (kb mb:Nat) (A:VAt) (m:Mem) (s:VSt) (l:List KEn) (e:Ending) (w':World):Prop:=∃ v xs,e = .returned v∧ISl w' v xs∧xs.map (·.2) = l∧KyR w' kb mb A m s∧Mod (OneB mb) w w'
theorem ZgL (p:Nat→Option KEn) {j:Nat} (hj:j < 6):(six.take (j + 1)).filterMap p = (six.take j).filterMap p ++ (p (j + 1)).toList:=by
 have h1:six.take (j + 1) = six.take j ++ [j + 1]:=by
  rcases (show j = 0 ∨ j = 1 ∨ j = 2 ∨ j = 3 ∨ j = 4 ∨ j = 5 by omega) with rfl | rfl | rfl | rfl | rfl | rfl <;> rfl
 rw [h1,List.filterMap_append]
 congr 1
theorem fm_le (p:Nat→Option KEn) (j:Nat):((six.take j).filterMap p).length≤6:=Nat.le_trans (List.length_filterMap_le _ _) (by rw [List.length_take];exact Nat.min_le_right _ _)
theorem KLk.own {w w':World} {mb B:Nat} {L:List KEn} {T:TypeId} {sz n:Nat} {v:Value} {xs:List Value} (h:KLk w mb L) (ho:w.ownsRow B T sz v n xs) (hm:Mod (Own1 v) w w') (hT:5 ≠ T):KLk w' mb L:=by
 obtain ⟨n,g,h0,h1,h2⟩:=h;refine ⟨n,g,h0,h1.mod hm (fun e=>?_),fun e he=>(h2 e he).mod hm fun k hk cs hb=>?_⟩
 ·obtain ⟨cs,hb⟩:=Own1.blk ho mb e;exact Ze h1.map hb
 ·obtain ⟨cs',hb'⟩:=Own1.blk ho k hk;exact absurd (hb.inj hb').2 hT
theorem Zca {w:World} {kb mb:Nat} {A:VAt} {m:Mem} {s:VSt} (h:KyR w kb mb A m s) (st:Int) (hst:I64 st):Calls Tryz.prog 23 #[ptr kb,.int .i64 st] w (IPost w kb mb A m s (pInfo (kl (view s)) st)):=by
 have hA:=Yw h;have hL:=kl_KL h.it
 have hfin:∀ W v xs,Mod (OneB mb) w W→KLk W mb (kl (view s))→ISl W v xs→xs.map (·.2) = pInfo (kl (view s)) st→IPost w kb mb A m s (pInfo (kl (view s)) st) (.returned v) W:=fun W v xs hm hk hsl hx=>⟨v,xs,rfl,hsl,hx,h.only hm hk.map,hm⟩
 generalize IPost w kb mb A m s (pInfo (kl (view s)) st) = R at *;have hpk:pInfo (kl (view s)) st = (six.take 6).filterMap fun k:Nat=>kfind (kl (view s)) st (k:Int):=rfl;generalize kl (view s) = L at *;clear h;refine hid4 ?_ hA hL hfin hpk;clear hA hL hfin hpk;intro hA hL hfin hpk;go_enter Tryz.func23,Tryz.ntmps23;go_wp2_with fail;refine (hA.out).mono ?_;rintro e w1 ⟨rfl,hKL1,hm1⟩;have hsz:=hm1.size;refine hid3 ?_ hKL1 hm1 hsz;clear hKL1 hm1 hsz;intro hKL1 hm1 hsz;go_wp2_with fail
 go_loopw [5,7] (fun v i wr=>∃ (j:Nat) (xs:List IxV),j≤6∧i = .int .i64 ((j:Int) + 1)∧wr.ownsRow w1.heap.size 74 4 v xs.length (insCells xs)∧(∀ x ∈ xs,DSl wr x.1 (Cy.chk x.2.val))∧xs.map (·.2) = ((six.take j).filterMap fun k:Nat=>kfind L st (k:Int))∧KLk wr mb L∧Mod (OneB mb) w wr∧w1.heap.size≤wr.heap.size) (fun _ i _=>7 - (intOf i).toNat)
 case atStart=>exact ⟨0,[],by omega,rfl,World.ownsRow_nil _ _ _ _,(fun x hx=>by cases hx),rfl,hKL1.out,hm1.out,Nat.le_refl _⟩
 case round =>
  obtain ⟨j,xs,hj,rfl,hown,hxd,hxl,hKL,hm,hsw⟩:=hrel;by_cases hlt:j < 6
  ·have hc2:decide ((j:Int) + 1≤6) = true:=decide_eq_true (by omega);obtain ⟨u,hlook,hdu⟩:=hKL.look hL.out hst (show I64 ((j:Int) + 1) by unfold I64;omega);have hl1:=hlook wr (Mod.refl _ _);clear hlook;have hst6:=ZgL (fun k:Nat=>kfind L st (k:Int)) hlt;have hfl:=fm_le (fun k:Nat=>kfind L st (k:Int)) j;rw [← hxl,List.length_map] at hfl;rw [show (((j + 1:Nat)):Int) = (j:Int) + 1 by omega] at hst6
   cases hf:kfind L st ((j:Int) + 1) with
   | none =>
    rw [hf] at hst6 hl1 hdu;rw [Option.toList_none,List.append_nil] at hst6;obtain ⟨ua,uc,rfl,-⟩:=Sl.len hdu;simp only [Option.map_none,Option.getD_none,Option.isSome_none,List.length_nil] at hl1;rw [show ((0:Nat):Int) = 0 from rfl] at hl1;have hmA:Mod Nowhere wr (wr.alloc (.cells #[.int .i64 0,.int .i64 0,.slice ua 0 uc] 93)):=(Mod.refl _ wr).alloc _;have hsz2:=hmA.size;have hown2:=Zb hown hmA (fun _ _ e=>e);have hKL2:=hKL.fresh hmA;have hm2:=hm.trans (hmA.nowhere (S:=OneB mb));have hxd2:=fun x hx=>(hxd x hx).fresh hmA;rw [← hst6] at hxl;clear hown hKL hm hdu hmA hst6 hxd;refine hid9 ?_ hown2 hKL2 hm2 hfl hf hsw hsz2 hxd2 hxl;clear hown2 hKL2 hm2 hfl hf hsw hsz2 hxd2 hxl;intro hown2 hKL2 hm2 hfl hf hsw hsz2 hxd2 hxl
    go_wp2;go_roundw
    case rel=>exact ⟨j + 1,xs,by omega,by go_num,hown2.out,hxd2.out,hxl.out,hKL2.out,hm2.out,Nat.le_trans hsw.out hsz2.out⟩
    case measure=>simp [intOf];omega
   | some e =>
    rw [hf] at hst6 hl1 hdu;rw [Option.toList_some] at hst6;have hek:=Zp hL.out hf;obtain ⟨ua,uc,rfl,-⟩:=Sl.len hdu;simp only [Option.map_some,Option.getD_some,Option.isSome_some] at hl1 hdu;have hv16:=hek.2.1.v16;rw [hv16] at hl1 hdu;have hmA:Mod Nowhere wr (wr.alloc (.cells #[.int .i64 ((e.tries:Nat):Int),.int .i64 ((e.lim:Nat):Int),.slice ua 16 uc] 93)):=(Mod.refl _ wr).alloc _;have hbx:=Blk.new wr [.int .i64 ((e.tries:Nat):Int),.int .i64 ((e.lim:Nat):Int),.slice ua 16 uc] 93;have hC:=ZfL (hdu.fresh hmA).src hv16 hek.2.1.bv;have hsz2:=hmA.size;have hown2:=Zb hown hmA (fun _ _ e=>e);have hKL2:=hKL.fresh hmA
    have hm2:=hm.trans (hmA.nowhere (S:=OneB mb));have hxd2:=fun x hx=>(hxd x hx).fresh hmA;have hst1:=hek.2.2.1;have hst2:=hek.2.2.2;have hcl:(Cy.chk e.val).length = 3:=by unfold Cy.chk;rw [List.length_take,Cy.encB_len];rfl
    obtain ⟨et,het⟩:∃ t:Nat,e.tries = t:=⟨_,rfl⟩;obtain ⟨el,hel⟩:∃ t:Nat,e.lim = t:=⟨_,rfl⟩;rw [het,hel] at hl1 hmA hbx hC hsz2 hown2 hKL2 hm2 hxd2;clear hown hKL hm hdu hxd hek;refine hid12 ?_ hown2 hKL2 hm2 hfl hf hsw hsz2 hxd2 hxl hC hbx hmA;clear hown2 hKL2 hm2 hfl hf hsw hsz2 hxd2 hxl hC hbx hmA;intro hown2 hKL2 hm2 hfl hf hsw hsz2 hxd2 hxl hC hbx hmA;refine hid7 ?_ hv16 hst1 hst2 hst6 hcl het hel;clear hv16 hst1 hst2 hst6 hcl het hel;intro hv16 hst1 hst2 hst6 hcl het hel;go_wp2_with fail;refine hC.out.mono ?_;rintro r w2 ⟨cr,rfl,hdc,hmC⟩;obtain ⟨ca,cc,rfl,-⟩:=Sl.len hdc;rw [hcl.out] at hdc ⊢
    have hb2:=hbx.out.mod hmC (fun e=>e);have hown3:=Zb hown2.out hmC (fun _ _ e=>e);have hKL3:=hKL2.out.fresh hmC;have hm3:=hm2.out.trans (hmC.nowhere (S:=OneB mb));have hxd3:=fun x hx=>(hxd2.out x hx).fresh hmC;have hsz3:=hmC.size;have z0:=hb2.cell 0;have zl:=hb2.lt;simp only [gz0] at z0;obtain ⟨va,vc,rfl,-⟩:=Zf hown3;have hfl':=hfl.out;obtain ⟨va2,vc2,w4,hrun,hown4,hmO⟩:=ZM Tryz.underlying61 Zb9 rfl (by decide) hown3 (news:=[.int .i64 st,.int .i64 ((j:Int) + 1),.int .i64 (et:Int),.slice ca 3 cc]) rfl (by intro u hu;simp only [List.mem_cons,List.not_mem_nil,or_false] at hu;rcases hu with rfl | rfl | rfl | rfl <;> rfl) (by omega) (by omega) (Nat.le_trans hsw.out (Nat.le_trans hsz2.out hsz3));have hab:=Own1.above hown3
    have hblk:=Own1.blk hown3
    have hm4:=hm3.step hmO fun i hi e=>by
     have h1:=(hab i e).1;have h2:=hsz.out;omega
    have hKL4:=hKL3.own hown3 hmO (by decide)
    have hsh:Shun (Own1 (.slice va xs.length vc)) w2 5:=fun k hk cs hb=>by
     obtain ⟨cs',hb'⟩:=hblk k hk;exact absurd (hb.inj hb').2 (by decide)
    have hxd4:∀ x ∈ xs ++ [((.slice ca 3 cc,e):IxV)],DSl w4 x.1 (Cy.chk x.2.val):=fun x hx=>by
     rcases List.mem_append.1 hx with hx | hx
     ·exact DSl.mod (hxd3 x hx) hmO hsh
     ·rw [List.mem_singleton.1 hx];exact DSl.mod hdc hmO hsh
    have hsz4:=hmO.size
    have hln:insCells xs ++ [.int .i64 st,.int .i64 ((j:Int) + 1),.int .i64 (et:Int),.slice ca 3 cc] = insCells (xs ++ [((.slice ca 3 cc,e):IxV)]):=by
     rw [Zb7]
     congr 1
     unfold inCells;dsimp only;rw [← hst1.out,← hst2.out,het.out]
    have hll:xs.length + 1 = (xs ++ [((.slice ca 3 cc,e):IxV)]).length:=by rw [List.length_append];rfl
    have hxl4:(xs ++ [((.slice ca 3 cc,e):IxV)]).map (·.2) = ((six.take (j + 1)).filterMap fun k:Nat=>kfind L st (k:Int)):=by
     rw [List.map_append,hxl.out,hst6.out];rfl
    rw [hln,hll] at hown4;generalize xs ++ [((.slice ca 3 cc,e):IxV)] = ys at *;rw [hll] at hrun;clear hown3 hKL3 hm3 hdc hb2 hmC hmO hab hblk hsh hln hxd3 hfl';generalize xs.length = xn at *;generalize hyn:ys.length = yn at *;refine hid9 ?_ hown4 hKL4 hm4 hxd4 hxl4 hsz4 hsz3 hll hyn;clear hown4 hKL4 hm4 hxd4 hxl4 hsz4 hsz3 hll hyn;intro hown4 hKL4 hm4 hxd4 hxl4 hsz4 hsz3 hll hyn;clear hown2 hKL2 hm2 hxd2 hxl hC hbx hmA hst6
    go_wp2_with (at_builtin;refine Lib.wpList_append_run _ rfl _ _ _ _ rfl _ _ (by rfl) (by rfl) _ _ hrun ?_;clear hrun)
    go_roundw
    case rel=>exact ⟨j + 1,ys,by omega,by go_num,by rw [hyn.out];exact hown4.out,hxd4.out,hxl4.out,hKL4.out,hm4.out,Nat.le_trans hsw.out (Nat.le_trans hsz2.out (Nat.le_trans hsz3.out hsz4.out))⟩
    case measure=>simp [intOf];omega
  ·obtain rfl:j = 6:=by omega
   rw [← hpk.out] at hxl;have hf:=hfin.out wr _ xs hm hKL ⟨Sl.of_owns hown,hxd⟩ hxl;refine hid7 ?_ hf hown hKL hm hsw hxd hxl;clear hf hown hKL hm hsw hxd hxl;intro hf hown hKL hm hsw hxd hxl;go_wp2;exact hf.out
end Go.Proofs.YtoehlaeaafalmaaGreat
