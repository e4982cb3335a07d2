/-
  The walks over the package page: word, seal, read.
-/
import Derived.Test.YtanioleniadhoaaGreatAG03
import Derived.Test.YtanioleniadhoaaGreatAG02
set_option linter.unusedVariables false
set_option linter.unusedSimpArgs false
set_option maxHeartbeats 1000000
set_option maxRecDepth 100000
namespace Go.Proofs.YtanioleniadhoaaGreat
open Go.RowKit
structure PCtx (w:World) (M:MemAt) (m:Mem) (P:PAt) (p:PSt):Prop where
 mem:MemRep w M m
 blk:PBlk w M P p
 dP:¬ M.S P.pb
 off:m.off = false
 good:m.Good
def Only (b:Nat):Nat→Prop:=fun k=>k = b
def Mem.Clean (m:Mem):Prop:=∀ a,a < m.size→(Ecc.dec (m.words.getD a 0)).2 = 0
def Fx (m:Mem) (b:Nat):Nat→Prop:=fun k=>k = b∧¬ m.Clean
theorem Mod.only {m:Mem} {b:Nat} {w w':World} (h:Mod (Fx m b) w w'):Mod (Only b) w w':=h.mono fun _ _ h=>h.1
theorem Mod.clean {m:Mem} {b:Nat} {w w':World} (h:Mod (Fx m b) w w') (hc:m.Clean):Mod Nowhere w w':=h.mono fun _ _ h=>h.2 hc
section
variable {w w' : World} {M : MemAt} {m : Mem} {P : PAt} {p : PSt}
theorem PCtx.mod (h:PCtx w M m P p) (hb:PBlk w' M P p) (hm:Mod (Only P.pb) w w'):PCtx w' M m P p :=
 { h with mem:=h.mem.mod hm (fun k hk e=>h.dP (e ▸ hk)),blk:=hb }
theorem PCtx.keep {S:Nat→Prop} (h:PCtx w M m P p) (hm:Mod S w w') (hs:∀ k,M.S k ∨ k = P.pb→¬ S k):PCtx w' M m P p :=
 { h with mem:=h.mem.mod hm (fun k hk=>hs k (.inl hk)),blk:=h.blk.mod hm (hs _ (.inr rfl)) }
end
theorem PBlk.fixed {w:World} {M:MemAt} {P:PAt} {p:PSt} (h:PBlk w M P p) (v:Int):PBlk (w.setCell ⟨P.pb,9,none⟩ (.int .i64 v)) M P p :=
 h.elim fun _ h=>⟨v,h.setCell 9 _⟩
theorem word_ok {w:World} {M:MemAt} {m:Mem} {P:PAt} {p:PSt} (h:PCtx w M m P p) (f i:Nat) (hf:f < 65536) (ha:f * 20 + i < m.size) :
  Calls Tryz.prog 273 #[ptr P.pb,.int .i64 f,.int .i64 i] w fun e w'=>e = .returned (.tuple #[.int .i64 (m.D (f * 20 + i):Nat),.bool true])∧PCtx w' M m P p∧Mod (Fx m P.pb) w w':=by
 have h0:=h.blk.f0;obtain ⟨fx,h9⟩:=h.blk.f9;have hfz:=h.blk.frozen;have hsz:=h.mem.sz;have hRd:=Read_ok h.mem h.off (f * 20 + i) ha;have hx:=h.mem.ok.w32 (f * 20 + i);have hgood:=h.good (f * 20 + i) ha;have hcl:(Ecc.dec (m.words.getD (f * 20 + i) 0)).2 = 1→¬ m.Clean:=fun e hc=>by have:=hc _ ha;omega
 have hDec:=fun w'=>Decode_ok (m.words.getD (f * 20 + i) 0) hx w';have hD:(Ecc.dec (m.words.getD (f * 20 + i) 0)).1 = m.D (f * 20 + i):=rfl;rw [hD] at hDec;generalize m.D (f * 20 + i) = d at hDec ⊢;clear hD;generalize (Ecc.dec (m.words.getD (f * 20 + i) 0)).2 = s at hDec hgood hcl;generalize m.words.getD (f * 20 + i) 0 = x at hRd hx hDec;have e1:((f * 20 + i:Nat):Int) = (f:Int) * 20 + (i:Int):=by omega
 rw [e1] at hRd;refine hid2 ?_ hRd hDec;clear hRd hDec;intro hRd hDec;have H:Hid (PCtx w M m P p):=h;clear h e1;by_cases hs1:s = 1
 ·subst hs1;go_enter Tryz.func273,Tryz.ntmps273
  go_wp2_with (first | (go_at_call 291;refine hRd.out.mono ?_;rintro e w1 ⟨rfl,rfl⟩) | (go_at_call 292;refine (hDec.out _).mono ?_;rintro e w1 ⟨rfl,hm1⟩;have h0':=(hm1.cell (p:=⟨P.pb,0,none⟩) H.out.blk.lt id).trans h0;have h9':=(hm1.cell (p:=⟨P.pb,9,none⟩) H.out.blk.lt id).trans h9;have hz':=(hm1.frozen (p:=⟨P.pb,9,none⟩) H.out.blk.lt id).trans (hfz 9)))
  go_ret2
  have hm:Mod (Fx m P.pb) w (w1.setCell ⟨P.pb,9,none⟩ (.int .i64 (wrap64 (fx + 1)))):=Mod.setCell (S:=Fx m P.pb) (p:=⟨P.pb,9,none⟩) (hm1.mono fun _ _ h=>h.elim) (fun _=>⟨rfl,by first | exact hcl rfl | exact hcl trivial | simpa using hcl⟩) _;exact ⟨rfl,H.out.mod ((H.out.blk.mod hm1 id).fixed _) hm.only,hm⟩
 ·have hsf:((s:Int) == 1) = false:=by
   have:¬ ((s:Int) = 1):=by omega
   simpa using this
  have hsf2 : ((s : Int) != 2) = true := by have : ¬ ((s : Int) = 2) := by omega
                                            simpa using this
  go_enter Tryz.func273,Tryz.ntmps273
  go_wp2_with (first | (go_at_call 291;refine hRd.out.mono ?_;rintro e w1 ⟨rfl,rfl⟩) | (go_at_call 292;refine (hDec.out _).mono ?_;rintro e w1 ⟨rfl,hm1⟩))
  go_ret2
  have hm:Mod (Fx m P.pb) w w1:=hm1.mono fun _ _ h=>h.elim;exact ⟨rfl,H.out.mod (H.out.blk.mod hm1 id) hm.only,hm⟩
theorem mask24 (y:Nat):y &&& 16777215 = y % 16777216:=Nat.and_two_pow_sub_one_eq_mod y 24
theorem seal_s1 (x:Nat) (hx:x < 16777216):((x:Int) * 3083085 + 79225) = ((x * 3083085 + 79225:Nat):Int)∧x * 3083085 + 79225 < 9223372036854775808:=by omega
theorem i64_mask24 (y:Nat) (hy:y < 9223372036854775808):bits .and .i64 (y:Int) 16777215 = ((y % 16777216:Nat):Int):=by
 have e3:=i64_and y 16777215 hy (by omega);rw [mask24] at e3;exact e3
theorem seal_s3 (g:Nat) (hm:g < 16777216):bits .xor .i64 (g:Int) ((g:Int) / 2048) = ((g ^^^ g / 2048:Nat):Int):=by
 rw [show ((g:Int) / 2048) = ((g / 2048:Nat):Int) by omega,i64_xor _ _ (by omega) (by omega)]
theorem sealStep_eq (h n:Nat):sealStep h n = (((h ^^^ n) * 3083085 + 79225) % 16777216) ^^^ (((h ^^^ n) * 3083085 + 79225) % 16777216 / 2048):=by
 unfold sealStep;simp only []
theorem seal_step (h n:Nat) (hh:h < 16777216) (hn:n < 16777216) :
  bits .xor .i64 (bits .and .i64 (bits .xor .i64 (h:Int) (n:Int) * 3083085 + 79225) 16777215) (bits .and .i64 (bits .xor .i64 (h:Int) (n:Int) * 3083085 + 79225) 16777215 / 2048) = ((sealStep h n:Nat):Int):=by
 have hx:h ^^^ n < 16777216:=Nat.xor_lt_two_pow (n:=24) hh hn;rw [i64_xor h n (by omega) (by omega),(seal_s1 _ hx).1,i64_mask24 _ (seal_s1 _ hx).2,seal_s3 _ (Nat.mod_lt _ (by omega)),sealStep_eq]
theorem sealFold_snoc (l:List Nat) (x:Nat):sealFold (l ++ [x]) = sealStep (sealFold l) x:=by
 unfold sealFold;rw [List.foldl_append,List.foldl_cons,List.foldl_nil]
theorem take_snoc_nat (l:List Nat) (k:Nat) (h:k < l.length):l.take (k + 1) = l.take k ++ [l.getD k 0]:=by
 rw [List.take_add_one,List.getElem?_eq_getElem h,gd0,List.getElem?_eq_getElem h];rfl
theorem ints_getD (l:List Nat) (k:Nat) (h:k < l.length):(ints l).getD k default = .int .i64 (l.getD k 0:Nat):=by
 simp [ints,gd0,List.getElem?_map,List.getElem?_eq_getElem h]
theorem seal_ok {w:World} {v:Value} {l:List Nat} (h:Sl w v 3 1 l.length (ints l)) (hl:l.length < 1000) (hn:∀ k,l.getD k 0 < 16777216) :
  Calls Tryz.prog 293 #[v] w fun e w'=>e = .returned (.int .i64 (sealOf l:Nat))∧w = w':=by
 have hfin:=fun x=>sealFold_lt (l.take x);obtain ⟨a,cap,rfl,hc1,hc2,hpos⟩:=h.gen;clear h;replace hpos:=Lib.hid hpos;go_enter Tryz.func293,Tryz.ntmps293;go_wp2
 go_loopg [3,8] l.length (fun g s q wr=>w = wr∧∃ k z:Nat,k≤l.length∧g + k = l.length∧q = .int .i64 k∧z = sealFold (l.take k)∧s = .int .i64 z)
 case atStart=>exact ⟨rfl,0,5904323,by omega,by omega,rfl,rfl,rfl⟩
 case round =>
  obtain ⟨rfl,k,z,hk,hg,rfl,hz,rfl⟩:=hrel;have hzl:=hfin k;rw [← hz] at hzl;by_cases hlt:k < l.length
  ·obtain ⟨b,off,rfl,hb,hcell,hfz⟩:=hpos.out (by omega);have hck:=hcell k (by omega);rw [ints_getD l k hlt] at hck;have hnk:=hn k;have hS:=sealFold_snoc (l.take k) (l.getD k 0);rw [← take_snoc_nat l k hlt,← hz] at hS;generalize l.getD k 0 = x at hck hnk hS;have hst:=seal_step z x hzl hnk
   have hx2:bits .xor .i64 (z:Int) (x:Int) < 16777216:=by
    rw [i64_xor z x (by omega) (by omega)];have:z ^^^ x < 16777216:=Nat.xor_lt_two_pow (n:=24) hzl hnk;omega
   have hx3:0≤bits .xor .i64 (z:Int) (x:Int):=by
    rw [i64_xor z x (by omega) (by omega)];omega
   refine hid3 ?_ hst hS hz;clear hst hS hz;intro hst hS hz;clear hcell hn hfin;go_wp2
   go_roundg (l.length - k - 1)
   case measure=>omega
   case rel=>exact ⟨rfl,k + 1,sealStep z x,by omega,by omega,by go_num,by rw [hS.out],by rw [hst.out]⟩
  ·obtain rfl:k = l.length:=by omega
   replace hz:=Lib.hid hz;clear hn hfin;have ho:=i64_or z 1 (by omega) (by decide);replace ho:=Lib.hid ho;go_wp2;go_ret;exact ⟨ret_int (by have e:=ho.out;have e2:=hz.out;rw [List.take_length] at e2;rw [show ((1:Nat):Int) = 1 from rfl] at e;rw [e,e2];rfl),rfl⟩
end Go.Proofs.YtanioleniadhoaaGreat
/-
 The walks over the package page: read, content.
-/
namespace Go.Proofs.YtanioleniadhoaaGreat
open Go.RowKit
theorem fwords_take (D:Nat→Nat) (f k:Nat) (h:k < 19):(fwords D f).take (k + 1) = (fwords D f).take k ++ [D (f * 20 + k)]:=by
 rw [take_snoc_nat _ _ (by simp [fwords,h])]
 congr 2
 simp [fwords,fw,gd0,h]
theorem fwords_len (D:Nat→Nat) (f:Nat):(fwords D f).length = 19:=by simp [fwords]
theorem ints_snoc (l:List Nat) (x:Nat):ints (l ++ [x]) = ints l ++ [Value.int .i64 (x:Int)]:=by simp [ints]
theorem MemRep.lt {w:World} {M:MemAt} {m:Mem} (h:MemRep w M m):∀ k,M.S k→k < w.heap.size:=by
 rintro k (rfl | rfl | rfl)
 ·exact h.bm.lt
 ·exact h.bw.lt
 ·exact h.br.lt
theorem PCtx.lt {w:World} {M:MemAt} {m:Mem} {P:PAt} {p:PSt} (h:PCtx w M m P p):∀ k,M.S k ∨ k = P.pb→k < w.heap.size:=by
 rintro k (hk | rfl)
 ·exact h.mem.lt k hk
 ·exact h.blk.lt
theorem PCtx.above {w1 w2:World} {M:MemAt} {m:Mem} {P:PAt} {p:PSt} {B:Nat} (h:PCtx w1 M m P p) (hl:∀ k,M.S k ∨ k = P.pb→k < B) (hm:Mod (Above B) w1 w2):PCtx w2 M m P p :=
 h.keep hm (fun k hk hb=>by have:=hl k hk;have:B≤k:=hb;omega)
theorem fwords_lt (m:Mem) (f k:Nat):(fwords m.D f).getD k 0 < 16777216:=by
 by_cases h:k < 19
 ·have:(fwords m.D f).getD k 0 = m.D (f * 20 + k):=by simp [fwords,fw,gd0,h]
  rw [this];exact m.D_lt _
 ·rw [gd0,List.getElem?_eq_none (by rw [fwords_len];omega)];exact (by omega:(0:Nat) < 16777216)
def ReadPost (w:World) (M:MemAt) (m:Mem) (P:PAt) (p:PSt) (f:Nat) (e:Ending) (w':World):Prop :=
 ∃ v,e = .returned (.tuple #[v,.bool (m.D (f * 20 + 19) == sealOf (fwords m.D f))])∧w'.ownsRow w.heap.size 3 1 v 19 (ints (fwords m.D f))∧PCtx w' M m P p∧Mod (Fx m P.pb) w w'
theorem read_ok {w:World} {M:MemAt} {m:Mem} {P:PAt} {p:PSt} (h:PCtx w M m P p) (f:Nat) (hf:f < 65536) (ha:f * 20 + 19 < m.size) :
  Calls Tryz.prog 274 #[ptr P.pb,.int .i64 f] w (ReadPost w M m P p f):=by
 obtain ⟨i0,hi,hz0,hz1,hz2⟩:=info_parts info_i64;have hpl:=h.blk.lt;have hlt0:=h.lt;replace hlt0:=Lib.hid hlt0;go_enter Tryz.func274,Tryz.ntmps274;go_wp2
 go_loopg [6,12] 19 (fun g v q wr=>∃ k:Nat,k≤19∧g + k = 19∧q = .int .i64 k∧wr.ownsRow w.heap.size 3 1 v k (ints ((fwords m.D f).take k))∧PCtx wr M m P p∧Mod (Fx m P.pb) w wr)
 case atStart=>exact ⟨0,by omega,by omega,rfl,World.ownsRow_nil _ _ _ _,h,Mod.refl _ _⟩
 case round =>
  obtain ⟨k,hk,hg,rfl,hown,hc,hm⟩:=hrel;by_cases hlt:k < 19
  ·have hsz:=hm.size;go_wp2_with fail;refine (word_ok hc f k hf (by omega)).mono ?_;rintro e w1 ⟨rfl,hc1,hm1⟩;have hown1:=owns_mod hown hm1 (fun j hj e=>by have e:j = P.pb:=e.1;omega);have hsz1:=hm1.size;have hT:=fwords_take m.D f k hlt;have hdl:=m.D_lt (f * 20 + k);generalize m.D (f * 20 + k) = d at hT hdl ⊢;replace hT:=Lib.hid hT;have hm01:=hm.trans hm1;clear h hc hm1
   go_wp2_with (at_builtin;refine wpList_append_own _ rfl _ _ 109 rfl w.heap.size 3 i0 (.int .i64 0) 1 8 Tryz.underlying109 hi hz0 hz1 hz2 rfl (by decide) _ _ _ rfl (hown1.alloc _) ⟨w1.heap.size,0,none⟩ 1 1 [.int .i64 d] rfl rfl (cell_one_new _ _ _) (by simp [Value.oneCell']) (by unfold maxLen;omega) (by omega) (by simp;omega) ?_;intro v' w2 hown2 hgrow _)
   have hm2:Mod (Above w.heap.size) w1 w2:=((Mod.refl _ w1).alloc _).app (hown1.alloc _) hgrow
   go_roundg (18 - k)
   case measure=>omega
   case rel=>exact ⟨k + 1,by omega,by omega,by go_num,by rw [hT.out,ints_snoc];exact hown2,hc1.above hlt0.out hm2,hm01.above hm2 (Nat.le_refl _)⟩
  ·obtain rfl:k = 19:=by omega
   have hsz:=hm.size;rw [show (fwords m.D f).take 19 = fwords m.D f from List.take_of_length_le (by rw [fwords_len];exact Nat.le_refl _)] at hown;go_wp2_with fail;refine (word_ok hc f 19 hf (by omega)).mono ?_;rintro e w1 ⟨rfl,hc1,hm1⟩;have hown1:=owns_mod hown hm1 (fun j hj e=>by have e:j = P.pb:=e.1;omega);have hS:=seal_ok (w:=w1) (v:=u6) (l:=fwords m.D f) (by rw [fwords_len];exact Sl.of_owns hown1) (by rw [fwords_len];omega) (fwords_lt m f);have hm01:=hm.trans hm1;replace hS:=Lib.hid hS;unfold ReadPost;have hfin:∀ b:Bool,b = (m.D (f * 20 + 19) == sealOf (fwords m.D f))→ReadPost w M m P p f (.returned (.tuple #[u6,.bool b])) w1:=fun b hb=>⟨u6,by rw [hb],hown1,hc1,hm01⟩;replace hfin:=Lib.hid hfin
   generalize m.D (f * 20 + 19) = d at hfin ⊢;generalize sealOf (fwords m.D f) = s at hfin hS ⊢;clear h hc hm1
   go_wp2_with (go_at_call 293;refine hS.out.mono ?_;rintro e w2 ⟨rfl,rfl⟩)
   go_ret2
   exact hfin.out _ (by first | rfl | (rw [Bool.eq_iff_iff];simp;omega))
def u8s (l:List Nat):List Value:=l.map fun x:Nat=>Value.int .u8 (x:Int)
theorem u8s_append (a b:List Nat):u8s (a ++ b) = u8s a ++ u8s b:=by simp [u8s]
theorem info_u8:(Tryz.prog.info? 5).map (fun i=>(i.zero,i.size,i.bytes)) = some (some (.int .u8 0),1,1):=by kernel_rfl
theorem unwords_take (D:Nat→Nat) (f k:Nat) (h:k < 16):unwords (((List.range 16).map (fw D f)).take (k + 1)) = unwords (((List.range 16).map (fw D f)).take k) ++ bytes3 (D (f * 20 + k)):=by
 rw [take_snoc_nat _ _ (by simp [h])];have:((List.range 16).map (fw D f)).getD k 0 = D (f * 20 + k):=by simp [fw,gd0,h]
 rw [this];simp [unwords]
theorem PRep.only {w w':World} {M:MemAt} {P:PAt} {p:PSt} (h:PRep w M P p) (hb:PBlk w' M P p) (hm:Mod (Only P.pb) w w'):PRep w' M P p :=
 { h with bp:=hb,ba:=h.ba.mod hm (fun e=>h.d1 (show P.ab = P.pb from e).symm),bh:=h.bh.mod hm (fun e=>h.d2 (show P.hb = P.pb from e).symm),bf:=h.bf.mod hm (fun k hk e=>h.df k hk (.inl (.inl e))) }
theorem zs_cell {w:World} {b:Nat} {l:List Int} {T:TypeId} (h:Blk w b (zs l) T) {i:Nat} (hi:i < l.length):w.cell? ⟨b,i,none⟩ = some (.int .i64 (l.getD i 0)):=by
 rw [h.cell];simp [zs,List.getElem?_map,List.getElem?_eq_getElem hi,gd0]
def ContentPost (w:World) (M:MemAt) (m:Mem) (P:PAt) (p:PSt) (b:List Nat) (e:Ending) (w':World):Prop :=
 ∃ v,e = .returned (.tuple #[v,errno 0])∧w'.ownsRow w.heap.size 5 1 v 48 (u8s b)∧PCtx w' M m P p∧Mod (Only P.pb) w w'
theorem content_ok {w:World} {M:MemAt} {m:Mem} {P:PAt} {p:PSt} {W:Nat} {pc:Nat→List Nat} (h:PCtx w M m P p) (hr:PRep w M P p) (hI:PInv m.D p W pc) (hfr:p.frames * 20≤m.size) (i:Nat) (hi:i < p.count) :
  Calls Tryz.prog 237 #[ptr P.pb,.int .i64 i] w (ContentPost w M m P p (pc i)):=by
 obtain ⟨i0,hi0,hz0,hz1,hz2⟩:=info_parts info_u8
 have hmk:∀ w,(Instr.makeSlice 22 (.int .i64 0) (.int .i64 48)).run Tryz.prog w = .ok (.slice (some ⟨w.heap.size,0,none⟩) 0 48) (w.alloc (.cells (List.replicate 48 (.int .u8 0)).toArray 5)) :=
  run_make_cap _ _ _ 1 Tryz.underlying22 info_u8 rfl 48 (by omega) (by omega)
 have hmade:∀ w:World,(w.alloc (.cells (List.replicate 48 (Value.int .u8 0)).toArray 5)).ownsRow w.heap.size 5 1 (.slice (some ⟨w.heap.size,0,none⟩) 0 48) 0 []:=fun w =>
  World.ownsRow_made w _ 48 (Nat.le_refl _) (by unfold maxLen;omega) (by simp)
 have hz48:∀ w:World,(w.alloc (.cells (List.replicate 48 (Value.int .u8 0)).toArray 5)).ownsRow w.heap.size 5 1 (.slice (some ⟨w.heap.size,0,none⟩) 48 48) 48 (u8s zeros48):=fun w =>
  ⟨by simp [u8s,zeros48],.inr ⟨w.heap.size,48,_,rfl,Nat.le_refl _,heap_alloc_new w _,Nat.le_refl _,by unfold maxLen;omega,by simp,by simp [u8s,zeros48]⟩⟩
 generalize hZ:(List.replicate 48 (Value.int .u8 0)).toArray = Z at hmk hmade hz48;replace hZ:=Lib.hid hZ;have h6:=hr.bp.f6;have hai:=zs_cell hr.ba (i:=i) (by rw [hr.al];exact hi);have hafz:=hr.ba.frozen;have hlt0:=h.lt;have hab:=hr.ba.lt;have hpb:=h.blk.lt;have hc16:=hr.c16;have hf16:=hr.f16;rcases hI.at_ i hi with ⟨e1,hno⟩ | ⟨f,e1,ht⟩
 ·have hpc:pc i = zeros48:=by
   rcases hI.h.has i hi with ⟨g,tg,_⟩ | ⟨_,e⟩
   ·exact (hno g tg.lt tg.valid tg.page).elim
   ·exact e
  rw [e1] at hai
  have hfin:ContentPost w M m P p (pc i) (.returned (.tuple #[.slice (some ⟨w.heap.size,0,none⟩) 48 48,errno 0])) (w.alloc (.cells Z 5)) :=
   ⟨_,rfl,by rw [hpc];exact hz48 w,h.above hlt0 ((Mod.refl _ _).alloc _),(Mod.refl _ _).alloc _⟩
  replace hfin:=Lib.hid hfin;clear hI h hr hmade hz48 hno e1 hpc;generalize p.count = C at h6 hi hc16;replace hlt0:=Lib.hid hlt0;go_enter Tryz.func237,Tryz.ntmps237;go_wp2
  go_ret2
  exact hfin.out
 ·rw [e1] at hai;have hf20:=ht.lt;have hfw:m.D (f * 20 + 19) = sealOf (fwords m.D f):=(hI.h.ok f ht.lt).sok ht.valid
  have hpc:pc i = fdata m.D f:=by
   rcases hI.h.has i hi with ⟨g,tg,e⟩ | ⟨hn,_⟩
   ·rw [← e,hI.h.top_unique ht tg]
   ·exact (hn f ht.lt ht.valid ht.page).elim
  have hmA:Mod Nowhere w (w.alloc (.cells Z 5)):=(Mod.refl _ _).alloc _;have hcA:PCtx (w.alloc (.cells Z 5)) M m P p:=h.above hlt0 ((Mod.refl _ _).alloc _);have hrd:=read_ok hcA f (by omega) (by omega);have hown0:=hmade w;generalize hwA:w.alloc (.cells Z 5) = wA at hmA hcA hrd hown0;refine hid2 ?_ hwA hrd;clear hwA hrd;intro hwA hrd;clear hz48 hmade e1;refine hid7 ?_ hI hr h hcA hpc hfw hlt0;clear hI hr h hcA hpc hfw hlt0;intro hI hr h hcA hpc hfw hlt0;generalize p.count = C at h6 hi hc16;go_enter Tryz.func237,Tryz.ntmps237;go_wp2_with fail;rw [hwA.out];refine hrd.out.mono ?_;rintro e w2 ⟨v,rfl,hown,hc2,hm2⟩
  rw [show (m.D (f * 20 + 19) == sealOf (fwords m.D f)) = true from by rw [hfw.out];simp];obtain ⟨g,cap,cs,rfl,hg,hbg,hcap,hcap2,hcl,hct⟩:=owns_open hown (by omega);have hsA:w.heap.size < wA.heap.size:=by rw [← hwA.out];simp
  have hs2:=hm2.size
  have hcell:∀ k,k < 16→w2.cell? ⟨g,k,none⟩ = some (.int .i64 (m.D (f * 20 + k):Nat)):=by
   intro k hk;rw [hbg.cell];have:cs[k]? = (cs.take (19 * 1))[k]?:=by rw [List.getElem?_take,if_pos (by omega)]
   rw [this,hct];simp [ints,fwords,fw,List.getElem?_map,show k < 19 by omega]
  have hgl:=hbg.lt;have hown2:=owns_mod hown0 hm2 (fun j hj e=>by have e:j = P.pb:=e.1;omega);replace hcell:=Lib.hid hcell;clear hown hbg hcl hct hown0;replace hc2:=Lib.hid hc2;go_wp2_with fail
  go_loopg [6,41] 16 (fun gg v q wr=>∃ k n:Nat,k≤16∧gg + k = 16∧n = 3 * k∧q = .int .i64 k∧v = .slice (some ⟨w.heap.size,0,none⟩) n 48∧wr.ownsRow w.heap.size 5 1 v n (u8s (unwords (((List.range 16).map (fw m.D f)).take k)))∧Mod (Only w.heap.size) w2 wr)
  case atStart=>exact ⟨0,0,by omega,by omega,rfl,rfl,rfl,hown2,Mod.refl _ _⟩
  case round =>
   obtain ⟨k,n,hk,hgg,hn,rfl,rfl,hown,hm3⟩:=hrel;by_cases hlt:k < 16
   ·have hsz:=hm3.size;have hck:=(hm3.cell (p:=⟨g,k,none⟩) hgl (fun e=>by have e:g = w.heap.size:=e;omega)).trans (hcell.out k hlt);have hU:=unwords_take m.D f k hlt;have hdl:=m.D_lt (f * 20 + k);generalize m.D (f * 20 + k) = d at hck hU hdl;replace hU:=Lib.hid hU;have hn48:n + 3≤48:=by omega
    replace hn:=Lib.hid hn
    go_wp2_with (at_builtin;refine wpList_append_fits _ rfl _ _ 22 rfl w.heap.size 5 i0 1 Tryz.underlying22 hi0 hz1 w.heap.size n 48 _ rfl (hown.alloc _) ⟨wr.heap.size,0,none⟩ 3 3 [.int .u8 ((d:Int) / 65536),.int .u8 ((d:Int) / 256 % 256),.int .u8 ((d:Int) % 256)] rfl rfl (cells_new _ _ _) (by simp [Value.oneCell']) hn48 ?_;intro w3 hown3 hgrow)
    go_roundg (15 - k)
    case measure=>omega
    case rel =>
     refine ⟨k + 1,n + 3,by omega,by omega,by rw [hn.out];omega,by go_num,rfl,?_,(hm3.alloc _).grown hgrow (fun j e _=>by cases e;rfl)⟩;rw [hU.out,u8s_append]
     have e3:u8s (bytes3 d) = [.int .u8 ((d:Int) / 65536),.int .u8 ((d:Int) / 256 % 256),.int .u8 ((d:Int) % 256)]:=by
      have h1:((d / 65536 % 256:Nat):Int) = (d:Int) / 65536:=by omega
      have h2:((d / 256 % 256:Nat):Int) = (d:Int) / 256 % 256:=by omega
      have h3:((d % 256:Nat):Int) = (d:Int) % 256:=by omega
      simp only [u8s,bytes3,List.map_cons,List.map_nil,h1,h2,h3]
     rw [e3];exact hown3
   ·obtain rfl:k = 16:=by omega
    have hfin:ContentPost w M m P p (pc i) (.returned (.tuple #[.slice (some ⟨w.heap.size,0,none⟩) n 48,errno 0])) wr:=by
     have e16:((List.range 16).map (fw m.D f)).take 16 = (List.range 16).map (fw m.D f):=List.take_of_length_le (by simp);rw [e16] at hown;have hn48:n = 48:=by omega
     subst hn48;have hm3':Mod (Above w.heap.size) w2 wr:=hm3.mono fun j _ e=>by have e:j = w.heap.size:=e;show w.heap.size≤j;omega
     exact ⟨_,rfl,by rw [hpc.out];exact hown,hc2.out.above hlt0.out hm3',((hmA.nowhere.trans hm2).above hm3' (Nat.le_refl _)).only⟩
    refine hid2 ?_ hfin hn;clear hfin hn;intro hfin hn;go_wp2
    go_ret2
    exact hfin.out
end Go.Proofs.YtanioleniadhoaaGreat
/-
 slices.Clone at the element types of the program: a new slice with the same elements; nil stays nil.
-/
namespace Go.Proofs.YtanioleniadhoaaGreat
open Go.RowKit
theorem add_lit (b o j:Nat):(⟨b,o,none⟩:Addr).add j = ⟨b,o + j,none⟩:=by
 unfold Addr.add;split <;> simp_all
theorem Sl.srcCells {w:World} {b off n cap sz:Nat} {T:TypeId} {xs:List Value} (h:Sl w (.slice (some ⟨b,off,none⟩) n cap) T sz n xs) :
  ∀ j u,xs[j]? = some u→w.cell? ((⟨b,off,none⟩:Addr).add j) = some u:=by
 intro j u hu;rcases h.2 with ⟨h,_⟩ | ⟨b',off',cap',cs,e,hb,_,_,_,ht⟩
 ·cases h
 ·cases e
  rw [add_lit,hb.cell,← List.getElem?_drop];rw [← ht,List.getElem?_take] at hu
  split at hu
  ·exact hu
  ·cases hu
theorem slice_tail {P:Program} {t e T:TypeId} {z:Value} {bytes:Nat} (ht:P.underlying t = some (.slice e)) (hi:(P.info? e).map (fun i=>(i.zero,i.size,i.bytes)) = some (some z,1,bytes)) (b off n cap:Nat) (hn:n + 1≤cap) (hc:cap≤maxLen) :
  ∃ (v:Addr) (c:Nat),(∀ W,(Instr.slice t (.slice (some ⟨b,off,none⟩) (n + 1) cap) (some (.int .i64 1)) none none).run P W = .ok (.slice (some v) n c) W)∧v.block = b ∧
   ∀ W x xs,Sl W (.slice (some ⟨b,off,none⟩) (n + 1) cap) T 1 (n + 1) (x :: xs)→Sl W (.slice (some v) n c) T 1 n xs:=by
 obtain ⟨i0,hi0,hz0,hz1,hz2⟩:=info_parts hi;refine ⟨if cap = 1 then ⟨b,off,none⟩ else ⟨b,off + 1,none⟩,cap - 1,fun W=>?_,?_,fun W x xs h=>?_⟩
 ·have h1:(1:Int)≤((n:Int) + 1):=by omega
  have h2:¬ ((n:Int) + 1 < 1):=by omega
  simp [Instr.slice,Instr.sliceBounds,Instr.sliceBound,run_underlying ht,asIntOf,sizeOf,typeInfo,hi0,hz1,add_lit,h1];by_cases hc1:cap = 1 <;> simp [hc1]
 ·by_cases hc1:cap = 1 <;> simp [hc1]
 ·rcases h.2 with ⟨e,_⟩ | ⟨b',off',cap',cs,e,hb,h1,h2,h3,h4⟩
  ·cases e
  ·injection e with ea eb ec
   injection ea with ea
   injection ea with ea eo
   subst ea;subst eo;subst ec;have hl:(x :: xs).length = (n + 1) * 1:=h.1;simp only [Nat.mul_one,List.length_cons] at hl h3 h4;refine ⟨by omega,.inr ?_⟩
   have hxs:(cs.drop (off + 1)).take n = xs:=by
    have e1:(cs.drop off).drop 1 = cs.drop (off + 1):=by rw [List.drop_drop]
    have e2:((cs.drop off).take (n + 1)).drop 1 = xs:=by rw [h4];rfl
    rw [← e1,← e2,List.drop_take];simp
   by_cases hc1:cap = 1
   ·have hn0:n = 0:=by omega
    subst hn0;have hx0:xs = []:=List.eq_nil_of_length_eq_zero (by omega);rw [if_pos hc1];exact ⟨b,off,cap - 1,cs,rfl,hb,by omega,by omega,by omega,by simp [hx0]⟩
   ·rw [if_neg hc1];exact ⟨b,off + 1,cap - 1,cs,rfl,hb,by omega,by omega,by omega,by rw [Nat.mul_one];exact hxs⟩
def ClonePost (w:World) (v:Value) (T:TypeId) (sz n:Nat) (xs:List Value) (e:Ending) (w':World):Prop :=
 ∃ v',e = .returned v'∧w'.ownsRow w.heap.size T sz v' n xs∧(v' = .slice none 0 0 ↔ v = .slice none 0 0)∧Mod Nowhere w w'
theorem info_cl_int:(Tryz.prog.info? 3).map (fun i=>(i.zero,i.size,i.bytes)) = some (some (.int .i64 0),1,8):=by kernel_rfl
theorem Clone_int {w:World} {v:Value} {n:Nat} {xs:List Value} (h:Sl w v 3 1 n xs) (h1:∀ u ∈ xs,u.oneCell' = true) (hn:n≤1099511627776) :
  Calls Tryz.prog 331 #[v] w (ClonePost w v 3 1 n xs):=by
 obtain ⟨i0,hi0,hz0,hz1,hz2⟩:=info_parts info_cl_int;rcases h.2 with ⟨rfl,rfl⟩ | ⟨b,off,cap,cs,rfl,hb,hc1,hc2,hl,ht⟩
 ·have hx:xs = []:=List.eq_nil_of_length_eq_zero (by have:=h.1;omega);have heq:=fun w=>Lib.run_eql_slice_nil (P:=Tryz.prog) w 109 3 none 0 0 0 0 Tryz.underlying109;clear h h1;go_enter Tryz.func331,Tryz.ntmps331;go_wp2;go_ret;exact ⟨_,rfl,by rw [hx];exact World.ownsRow_nil _ _ _ _,Iff.rfl,Mod.refl _ _⟩
 ·have heq:=fun w=>Lib.run_eql_slice_nil (P:=Tryz.prog) w 109 3 (some ⟨b,off,none⟩) n cap 0 0 Tryz.underlying109;have hsrc:=h.srcCells;have hlen:=h.1;refine hid3 ?_ hlen hsrc ht;clear hlen hsrc ht;intro hlen hsrc ht;have hbl:=hb.lt;have hsrc':=(h.mod ((Mod.refl Nowhere w).alloc (.cells #[] 3)) (fun _ _=>id)).srcCells;have hmade:(w.alloc (.cells #[] 3)).ownsRow w.heap.size 3 1 (.slice (some ⟨w.heap.size,0,none⟩) 0 0) 0 []:=World.ownsRow_made w #[] 0 (Nat.le_refl _) (Nat.zero_le _) (by simp);refine hid3 ?_ hsrc' hmade h1;clear hsrc' hmade h1;intro hsrc' hmade h1;clear h hb
  go_enter Tryz.func331,Tryz.ntmps331
  go_wp2_with (at_builtin;refine wpList_append_own _ rfl _ _ 109 rfl w.heap.size 3 i0 (.int .i64 0) 1 8 Tryz.underlying109 hi0 hz0 hz1 hz2 rfl (by decide) _ _ _ rfl hmade.out ⟨b,off,none⟩ n cap xs rfl hlen.out hsrc'.out h1.out (by unfold maxLen;omega) (by omega) (by simp) ?_;intro v' w2 hown2 hgrow hnil)
  go_ret;refine ⟨v',rfl,by simpa using hown2,?_,((Mod.refl _ w).alloc _).grown hgrow (fun k e hk=>?_)⟩
  ·constructor
   ·intro e;have h5:=(hnil.1 e).1;cases h5
   ·intro e;cases e
  ·cases e;exact absurd hk (Nat.lt_irrefl _)
theorem info_cl_u8:(Tryz.prog.info? 5).map (fun i=>(i.zero,i.size,i.bytes)) = some (some (.int .u8 0),1,1):=by kernel_rfl
theorem Clone_u8 {w:World} {v:Value} {n:Nat} {xs:List Value} (h:Sl w v 5 1 n xs) (h1:∀ u ∈ xs,u.oneCell' = true) (hn:n≤1099511627776) :
  Calls Tryz.prog 123 #[v] w (ClonePost w v 5 1 n xs):=by
 obtain ⟨i0,hi0,hz0,hz1,hz2⟩:=info_parts info_cl_u8;rcases h.2 with ⟨rfl,rfl⟩ | ⟨b,off,cap,cs,rfl,hb,hc1,hc2,hl,ht⟩
 ·have hx:xs = []:=List.eq_nil_of_length_eq_zero (by have:=h.1;omega);have heq:=fun w=>Lib.run_eql_slice_nil (P:=Tryz.prog) w 22 5 none 0 0 0 0 Tryz.underlying22;clear h h1;go_enter Tryz.func123,Tryz.ntmps123;go_wp2;go_ret;exact ⟨_,rfl,by rw [hx];exact World.ownsRow_nil _ _ _ _,Iff.rfl,Mod.refl _ _⟩
 ·have heq:=fun w=>Lib.run_eql_slice_nil (P:=Tryz.prog) w 22 5 (some ⟨b,off,none⟩) n cap 0 0 Tryz.underlying22;have hsrc:=h.srcCells;have hlen:=h.1;refine hid3 ?_ hlen hsrc ht;clear hlen hsrc ht;intro hlen hsrc ht;have hbl:=hb.lt;have hsrc':=(h.mod ((Mod.refl Nowhere w).alloc (.cells #[] 5)) (fun _ _=>id)).srcCells;have hmade:(w.alloc (.cells #[] 5)).ownsRow w.heap.size 5 1 (.slice (some ⟨w.heap.size,0,none⟩) 0 0) 0 []:=World.ownsRow_made w #[] 0 (Nat.le_refl _) (Nat.zero_le _) (by simp);refine hid3 ?_ hsrc' hmade h1;clear hsrc' hmade h1;intro hsrc' hmade h1;clear h hb
  go_enter Tryz.func123,Tryz.ntmps123
  go_wp2_with (at_builtin;refine wpList_append_own _ rfl _ _ 22 rfl w.heap.size 5 i0 (.int .u8 0) 1 1 Tryz.underlying22 hi0 hz0 hz1 hz2 rfl (by decide) _ _ _ rfl hmade.out ⟨b,off,none⟩ n cap xs rfl hlen.out hsrc'.out h1.out (by unfold maxLen;omega) (by omega) (by simp) ?_;intro v' w2 hown2 hgrow hnil)
  go_ret;refine ⟨v',rfl,by simpa using hown2,?_,((Mod.refl _ w).alloc _).grown hgrow (fun k e hk=>?_)⟩
  ·constructor
   ·intro e;have h5:=(hnil.1 e).1;cases h5
   ·intro e;cases e
  ·cases e;exact absurd hk (Nat.lt_irrefl _)
theorem info_cl_chg:(Tryz.prog.info? 238).map (fun i=>(i.zero,i.size,i.bytes)) = some (some (.agg #[.int .i64 0,.slice none 0 0,.bool false]),3,40):=by kernel_rfl
theorem Clone_chg {w:World} {v:Value} {n:Nat} {xs:List Value} (h:Sl w v 238 3 n xs) (h1:∀ u ∈ xs,u.oneCell' = true) (hn:n≤1099511627776) :
  Calls Tryz.prog 220 #[v] w (ClonePost w v 238 3 n xs):=by
 obtain ⟨i0,hi0,hz0,hz1,hz2⟩:=info_parts info_cl_chg;rcases h.2 with ⟨rfl,rfl⟩ | ⟨b,off,cap,cs,rfl,hb,hc1,hc2,hl,ht⟩
 ·have hx:xs = []:=List.eq_nil_of_length_eq_zero (by have:=h.1;omega);have heq:=fun w=>Lib.run_eql_slice_nil (P:=Tryz.prog) w 160 238 none 0 0 0 0 Tryz.underlying160;clear h h1;go_enter Tryz.func220,Tryz.ntmps220;go_wp2;go_ret;exact ⟨_,rfl,by rw [hx];exact World.ownsRow_nil _ _ _ _,Iff.rfl,Mod.refl _ _⟩
 ·have heq:=fun w=>Lib.run_eql_slice_nil (P:=Tryz.prog) w 160 238 (some ⟨b,off,none⟩) n cap 0 0 Tryz.underlying160;have hsrc:=h.srcCells;have hlen:=h.1;refine hid3 ?_ hlen hsrc ht;clear hlen hsrc ht;intro hlen hsrc ht;have hbl:=hb.lt;have hsrc':=(h.mod ((Mod.refl Nowhere w).alloc (.cells #[] 238)) (fun _ _=>id)).srcCells;have hmade:(w.alloc (.cells #[] 238)).ownsRow w.heap.size 238 3 (.slice (some ⟨w.heap.size,0,none⟩) 0 0) 0 []:=World.ownsRow_made w #[] 0 (Nat.le_refl _) (Nat.zero_le _) (by simp);refine hid3 ?_ hsrc' hmade h1;clear hsrc' hmade h1;intro hsrc' hmade h1
  clear h hb;go_enter Tryz.func220,Tryz.ntmps220
  go_wp2_with (at_builtin;refine wpList_append_own _ rfl _ _ 160 rfl w.heap.size 238 i0 (.agg #[.int .i64 0,.slice none 0 0,.bool false]) 3 40 Tryz.underlying160 hi0 hz0 hz1 hz2 rfl (by decide) _ _ _ rfl hmade.out ⟨b,off,none⟩ n cap xs rfl hlen.out hsrc'.out h1.out (by unfold maxLen;omega) (by omega) (by simp) ?_;intro v' w2 hown2 hgrow hnil)
  go_ret;refine ⟨v',rfl,by simpa using hown2,?_,((Mod.refl _ w).alloc _).grown hgrow (fun k e hk=>?_)⟩
  ·constructor
   ·intro e;have h5:=(hnil.1 e).1;cases h5
   ·intro e;cases e
  ·cases e;exact absurd hk (Nat.lt_irrefl _)
end Go.Proofs.YtanioleniadhoaaGreat
