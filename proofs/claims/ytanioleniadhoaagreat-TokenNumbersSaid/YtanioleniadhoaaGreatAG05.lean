/-
  The walk over place: a page is written into a free frame.
-/
import Derived.Test.YtanioleniadhoaaGreatAG04
import Derived.Deep.AppendLies
import Derived.Deep.RegionLaw
import Derived.Deep.CutBlock
import Derived.Deep.DeepCutAuto
set_option linter.unusedVariables false
set_option linter.unusedSimpArgs false
set_option maxHeartbeats 2000000
set_option maxRecDepth 100000
namespace Go.Proofs.YtanioleniadhoaaGreat
open Go.RowKit
structure Runs (m m':Mem) (k:Nat):Prop where
 off:m'.off = false
 cuts:m'.cuts = m.cuts
 endu:m'.endu = m.endu
 size:m'.size = m.size
 pend:m'.pending = m.pending
 writes:m'.writes = m.writes + k
 good:m'.Good
 clean:m.Clean→m'.Clean
structure Stopped (m m':Mem) (n:Nat):Prop where
 lo:m.writes≤m'.writes
 hi:m'.writes≤m.writes + n
 off:m'.off = true
 cuts:m'.cuts = m.cuts + 1
 endu:m'.endu = m.endu
 size:m'.size = m.size
 pend:m.pending = true
 good:m'.Good
 clean:m.Clean→m'.Clean
theorem Mem.Clean_put {m:Mem} (h:m.Clean) {a n:Nat} (hn:n < 16777216):(m.put a (Ecc.enc n)).Clean:=by
 intro b hb
 show (Ecc.dec ((m.words.set a (Ecc.enc n)).getD b 0)).2 = 0
 rw [Mem.getD_set]
 split
 ·rw [Ecc.dec_enc n hn]
 ·exact h b (by simpa [Mem.put,Mem.size] using hb)
theorem byte_word (x y z:Nat) (hx:x < 256) (hy:y < 256) (hz:z < 256) :
  bits .or .i64 (bits .or .i64 ((x:Int) * 65536) ((y:Int) * 256)) (z:Int) = ((x * 65536 + y * 256 + z:Nat):Int):=by
 have e1:(x:Int) * 65536 = ((x * 65536:Nat):Int):=by omega
 have e2:(y:Int) * 256 = ((y * 256:Nat):Int):=by omega
 rw [e1,e2,i64_or _ _ (by omega) (by omega),nat_join 16 _ _ (by omega) (by omega),i64_or _ _ (by omega) (by omega),nat_join 8 _ _ (by omega) (by omega)]
theorem u8s_getD (l:List Nat) (k:Nat) (h:k < l.length):(u8s l).getD k default = .int .u8 (l.getD k 0:Nat):=by
 simp [u8s,gd0,List.getElem?_map,List.getElem?_eq_getElem h]
theorem toWords_take (b:List Nat) (j:Nat) (h:j < 16):(toWords b).take (j + 1) = (toWords b).take j ++ [wordAt b j]:=by
 rw [take_snoc_nat _ _ (by rw [toWords_len];exact h)]
 congr 2
 simp [toWords,h]
def PlacePost (w:World) (M:MemAt) (m:Mem) (P:PAt) (p:PSt) (i f:Nat) (rest b:List Nat) (e:Ending) (w':World):Prop :=
 (∃ m' fv',e = .returned (errno 0)∧MemRep w' M m'∧PRep w' M { P with fv:=fv' } (p.placed i f rest)∧Runs m m' 21∧m'.D = partD m.D f (allWords (frameWords b i (p.version + 1))) 21∧Mod (fun k=>P.S k ∨ M.S k) w w') ∨
 (∃ m' k,k≤20∧e = .returned (errno 7)∧MemRep w' M m'∧PRep w' M P p∧Stopped m m' k∧m'.D = partD m.D f (allWords (frameWords b i (p.version + 1))) k∧Mod M.S w w')
theorem Runs.step {m mk:Mem} {k a n:Nat} (h:Runs m mk k) (hn:n < 16777216):Runs m (mk.put a (Ecc.enc n)) (k + 1) :=
 ⟨h.off,h.cuts,h.endu,(size_put _ _ _).trans h.size,h.pend,by show mk.writes + 1 = _;rw [h.writes];omega,Mem.Good_put h.good hn,fun hc=>Mem.Clean_put (h.clean hc) hn⟩
theorem Runs.stop {m mk:Mem} {k:Nat} (h:Runs m mk k) (hd:mk.due = true):Stopped m mk.cutNow k :=
 ⟨by show m.writes≤mk.writes;rw [h.writes];omega,by show mk.writes≤_;rw [h.writes];exact Nat.le_refl _,rfl,by show mk.cuts + 1 = _;rw [h.cuts],h.endu,h.size,by rw [← h.pend];unfold Mem.due at hd;exact (Bool.and_eq_true _ _ ▸ hd).1,h.good,h.clean⟩
theorem zs_set (l:List Int) (i:Nat) (x:Int):(zs l).set i (.int .i64 x) = zs (l.set i x):=by simp [zs,List.map_set]
def pCellsV (M:MemAt) (P:PAt) (p:PSt) (ver:Int) (fv:Value) (fx:Int):List Value :=
 [ptr M.mb,.int .i64 p.cuts,.int .i64 p.count,.int .i64 p.frames,.int .i64 ver,.int .i64 p.turn,.slice (some ⟨P.ab,0,none⟩) p.count p.count,.slice (some ⟨P.hb,0,none⟩) p.frames p.frames,fv,.int .i64 fx]
theorem PRep.placed {w w':World} {M:MemAt} {P:PAt} {p:PSt} {fx:Int} {i f:Nat} {rest:List Nat} {fv':Value} {hs:List Int} (hr:PRep w M P p)
  (hb:Blk w' P.pb (pCellsV M P p ((p.version:Int) + 1) fv' fx) 246) (ha:Blk w' P.ab (zs (p.at_.set i (f:Int))) 3) (hh:Blk w' P.hb (zs hs) 3)
  (hhs:hs = (p.placed i f rest).holds) (hf:Sl w' fv' 3 1 (p.placed i f rest).freed.length (ints (p.placed i f rest).freed)) (ho:Off (fun k=>P.S k ∨ M.S k) fv') :
  PRep w' M { P with fv:=fv' } (p.placed i f rest):=by
 subst hhs;refine { bp:=⟨fx,hb⟩,ba:=ha,bh:=hh,bf:=hf,d1:=hr.d1,d2:=hr.d2,d3:=hr.d3,dM:=hr.dM,df:=ho,al:=?_,hl:=?_,c16:=hr.c16,f16:=hr.f16 }
 ·show (p.at_.set i (f:Int)).length = p.count
  rw [List.length_set];exact hr.al
 ·show ((if p.at_.getD i 0 = -1 then p.holds else p.holds.set (p.at_.getD i 0).toNat (-1)).set f (i:Int)).length = p.frames
  split <;> simp [hr.hl]
theorem place_raw {w:World} {M:MemAt} {m:Mem} {P:PAt} {p:PSt} {W:Nat} {pc:Nat→List Nat} {vb:Value} {b:List Nat} {f i:Nat} {rest:List Nat}
  (h:PCtx w M m P p) (hr:PRep w M P p) (hI:PInv m.D p W pc) (hfr:p.frames * 20≤m.size) (hi:i < p.count) (hfree:p.freed = f :: rest)
  (hvb:Sl w vb 5 1 48 (u8s b)) (hbl:b.length = 48) (hbb:Bytes b) (hob:Off M.S vb) (hver:p.version < 1099511627776) (hwr:m.writes + 21≤m.endu) (hcu:m.cuts < 1099511627776) :
  Calls Tryz.prog 307 #[ptr P.pb,.int .i64 i,vb] w (PlacePost w M m P p i f rest b):=by
 obtain ⟨i0,hi0,hz0,hz1,hz2⟩:=info_parts info_i64;have h0:=hr.bp.f0;have h4:=hr.bp.f4;have h8:=hr.bp.f8;have hpb:=hr.bp.lt;obtain ⟨bb,bo,bcap,rfl,hbb0,hbc1,hbc2,hbcell,hbfz⟩:=hvb.open (by omega);have hfvo:=hr.bf;have hlf:p.freed.length = rest.length + 1:=by rw [hfree];rfl
 obtain ⟨fb,fo,fcap,hfv,hfb,hfc1,hfc2,hfcell,hffz⟩:=hfvo.open (by omega);have hf0:=hfcell 0 (by omega);rw [ints_getD _ _ (by omega),hfree] at hf0;simp only [List.getD_cons_zero,Nat.add_zero] at hf0;rw [hfv,hlf] at h8;rw [hlf] at hfc1;have hfN:f < p.frames:=((hI.free f).1 (by rw [hfree];exact List.mem_cons_self ..)).1;have hf16:=hr.f16;have hc16:=hr.c16;generalize hv0:p.version = ver at h4 hver;refine hid6 ?_ hv0 hlf hfv hfcell hbcell hbl;clear hv0 hlf hfv hfcell hbcell hbl;intro hv0 hlf hfv hfcell hbcell hbl;have hB:=fun k=>hbb k;have hBB:Hid (Bytes b):=hbb;clear hbb;refine hid4 ?_ h hr hI hfree;clear h hr hI hfree;intro h hr hI hfree
 clear hvb hfvo;go_enter Tryz.func307,Tryz.ntmps307;go_wp2
 go_loopg [9,10] 16 (fun gg v q wr=>∃ j n:Nat,j≤16∧gg + j = 16∧n = 3 * j∧q = .int .i64 n∧wr.ownsRow w.heap.size 3 1 v j (ints ((toWords b).take j))∧Mod Nowhere w wr)
 case atStart=>exact ⟨0,0,by omega,by omega,rfl,rfl,World.ownsRow_nil _ _ _ _,Mod.refl _ _⟩
 case round =>
  obtain ⟨j,n,hj,hg,hn,rfl,hown,hm⟩:=hrel;by_cases hlt:j < 16
  ·have hc0:=(hm.cell (p:=⟨bb,bo + n,none⟩) hbb0 id).trans (hbcell.out n (by omega));have hc1:=(hm.cell (p:=⟨bb,bo + (n + 1),none⟩) hbb0 id).trans (hbcell.out (n + 1) (by omega));have hc2:=(hm.cell (p:=⟨bb,bo + (n + 2),none⟩) hbb0 id).trans (hbcell.out (n + 2) (by omega));have hbl':=hbl.out;rw [u8s_getD _ _ (by omega)] at hc0 hc1 hc2;have hT:=toWords_take b j hlt;have hx:=hB n;have hy:=hB (n + 1);have hz:=hB (n + 2);have hwa:wordAt b j = b.getD n 0 * 65536 + b.getD (n + 1) 0 * 256 + b.getD (n + 2) 0:=by rw [hn];rfl
   rw [hwa] at hT;have hbw:=byte_word _ _ _ hx hy hz;generalize b.getD n 0 = x at hc0 hx hT hbw;generalize b.getD (n + 1) 0 = y at hc1 hy hT hbw;generalize b.getD (n + 2) 0 = z at hc2 hz hT hbw;clear hwa hB hbl';have hd:x * 65536 + y * 256 + z < 16777216:=by omega
   generalize x * 65536 + y * 256 + z = d at hT hbw hd;have hn48:n + 2 < 48:=by omega
   refine hid2 ?_ hn hT;clear hn hT;intro hn hT;have lx:(x:Int) < 256:=by omega
   have ly:(y:Int) < 256:=by omega
   have hh1:w.heap.size≤wr.heap.size:=hm.size;have q1:((n:Int) + 1).toNat = n + 1:=by omega
   have q2:((n:Int) + 2).toNat = n + 2:=by omega
   have r1:0≤(n:Int) + 1∧(n:Int) + 1 < 48:=by omega
   have r2:0≤(n:Int) + 2∧(n:Int) + 2 < 48:=by omega
   have hj63:j + 1≤maxLen:=by unfold maxLen;omega
   have hj47:(j + 1) * 8≤140737488355328:=by omega
   have hb0:w.heap.size≤((wr.alloc (.cells #[Value.int .i64 (d:Int)] 3)).drew).heap.size:=by simp;omega
   have hs1:IntKind.i64.wrap ((n:Int) + 1) = (n:Int) + 1:=IntWalk.i64_in _ (by omega);have hs2:IntKind.i64.wrap ((n:Int) + 2) = (n:Int) + 2:=IntWalk.i64_in _ (by omega);have wx:IntKind.i64.wrap (x:Int) = x:=IntWalk.i64_in _ (by omega);have wy:IntKind.i64.wrap (y:Int) = y:=IntWalk.i64_in _ (by omega);have wz:IntKind.i64.wrap (z:Int) = z:=IntWalk.i64_in _ (by omega);have wx2:IntKind.i64.wrap ((x:Int) * 65536) = x * 65536:=IntWalk.i64_in _ (by omega);have wy2:IntKind.i64.wrap ((y:Int) * 256) = y * 256:=IntWalk.i64_in _ (by omega)
   go_upto_block 1 with (fail)
   go_cut [9] (fun v w1=>w1.ownsRow w.heap.size 3 1 v (j + 1) (ints ((toWords b).take j) ++ [.int .i64 (d:Int)])∧Mod (Above w.heap.size) wr w1)
   case first =>
    go_wp2
    go_region_law (first | (refine step_append_lies _ rfl (.tmp 36) (.tmp 58) 109 rfl w.heap.size 3 i0 (.int .i64 0) 1 8 Tryz.underlying109 hi0 hz0 hz1 hz2 rfl (by decide) u9 j _ rfl (hown.alloc _).drew ⟨wr.heap.size,0,none⟩ 1 1 [.int .i64 (d:Int)] rfl rfl (cell_one_new _ _ _) (by simp [Value.oneCell']) (by decide) hj63 hj47 hb0 _ rfl ?_;intro g cap w1 hown1 hgrow hat hlt1))
    all_goals
     go_wp2;go_meet
     case rel=>exact ⟨by assumption,(((Mod.refl _ wr).alloc _).drew).app (hown.alloc _).drew (by assumption)⟩
   case rest =>
    obtain ⟨ho,hmm⟩:=hcut;have hm':Mod Nowhere w wc:=hm.above hmm (Nat.le_refl _);go_wp2
    go_roundg (15 - j)
    case measure=>omega
    case rel=>exact ⟨j + 1,n + 3,by omega,by omega,by rw [hn.out];omega,by go_num,by rw [hT.out,ints_snoc];exact ho,hm'⟩
  ·obtain rfl:j = 16:=by omega
   obtain rfl:n = 48:=by omega
   rw [show (toWords b).take 16 = toWords b from List.take_of_length_le (by rw [toWords_len];exact Nat.le_refl _)] at hown;have hsz:=hm.size;have hmask:bits .and .i64 ((ver:Int) + 1) 16777215 = (((ver + 1) % 16777216:Nat):Int):=i64_mask24 (ver + 1) (by omega);have hdiv:((ver:Int) + 1) / 16777216 = (((ver + 1) / 16777216:Nat):Int):=by omega
   have hWL:=frameWords_lt (v:=ver + 1) hB (show i < 16777216 by omega) (by omega);have hfw:ints (toWords b) ++ [.int .i64 (i:Int),.int .i64 (((ver + 1) / 16777216:Nat):Int),.int .i64 (((ver + 1) % 16777216:Nat):Int)] = ints (frameWords b i (ver + 1)):=by simp [ints,frameWords]
   generalize (ver + 1) / 16777216 = v1 at hdiv hfw;generalize (ver + 1) % 16777216 = v2 at hmask hfw;have hwsl:=frameWords_len b i (ver + 1);generalize hws:frameWords b i (ver + 1) = ws at hfw hwsl hWL;refine hid4 ?_ hws hfw hwsl hn;clear hws hfw hwsl hn;intro hws hfw hwsl hn;clear hB
   have hS:∀ (W:World) (v:Value),Sl W v 3 1 19 (ints ws)→Calls Tryz.prog 293 #[v] W fun e w'=>e = .returned (.int .i64 (sealOf ws:Nat))∧W = w':=fun W v hx=>by
    have e:=hwsl.out;exact seal_ok (l:=ws) (by rw [e];exact hx) (by omega) hWL
   refine hid2 ?_ hS hWL;clear hS hWL;intro hS hWL;have hall:Hid (ints [0] ++ ints ws ++ [.int .i64 (sealOf ws:Nat)] = ints (allWords ws)):=by show _ = _;simp [ints,allWords]
   have hsl:=sealOf_lt ws;generalize sealOf ws = sl at hS hall hsl;have tok1:True:=trivial;have tok2:True:=trivial;have tok3:True:=trivial
   go_upto_region 8 with (fail)
   go_wp2_with (first
    | (at_builtin;have _t:=tok1;refine wpList_append_lies _ rfl _ _ 109 rfl w.heap.size 3 i0 (.int .i64 0) 1 8 Tryz.underlying109 hi0 hz0 hz1 hz2 rfl (by decide) _ _ _ rfl (hown.alloc _) ⟨wr.heap.size,0,none⟩ 3 3 [.int .i64 (i:Int),.int .i64 (v1:Int),.int .i64 (v2:Int)] rfl rfl (cells_new _ _ _) (by simp [Value.oneCell']) (by decide) (by unfold maxLen;omega) (by omega) (by simp;omega) _ rfl ?_;intro g1 cap1 w1 hown1 hgrow1 hat1 hlt1;rw [hfw.out] at hown1;have hM1:Mod (Above w.heap.size) wr w1:=((Mod.refl _ wr).alloc _).app (hown.alloc _) hgrow1;have hs1:=hM1.size;clear tok1 hgrow1 hat1 _t)
    | (at_builtin;have _t:=tok2;refine wpList_append_lies _ rfl _ _ 109 rfl w.heap.size 3 i0 (.int .i64 0) 1 8 Tryz.underlying109 hi0 hz0 hz1 hz2 rfl (by decide) _ 1 [.int .i64 0] rfl (owns_new w1 [.int .i64 0] 3 w.heap.size 1 (by omega) rfl (by unfold maxLen;omega)) ⟨g1,0,none⟩ 19 cap1 (ints ws) rfl (by have e:=hwsl.out;simp [ints,e]) (owns_src (hown1.alloc _)) (by simp [ints,Value.oneCell']) (by decide) (by unfold maxLen;omega) (by omega) (by simp;omega) _ rfl ?_;intro g2 cap2 w2 hown2 hgrow2 hat2 hlt2;have hM2:Mod (Above w.heap.size) w1 w2:=((Mod.refl _ w1).alloc _).app (owns_new w1 [.int .i64 0] 3 w.heap.size 1 (by omega) rfl (by unfold maxLen;omega)) hgrow2;have hs2:=hM2.size;have hown1b:=(hown1.alloc (.cells #[.int .i64 0] 3)).kept hgrow2 (.inr (by intro e;injection e with e;have e:g1 = w1.heap.size:=e;omega));clear tok2 hgrow2 hat2 _t)
    | (go_at_call 293;refine (hS.out _ _ (Sl.of_owns hown1b)).mono ?_;rintro e w' ⟨rfl,rfl⟩)
    | (at_builtin;have _t:=tok3;refine wpList_append_lies _ rfl _ _ 109 rfl w.heap.size 3 i0 (.int .i64 0) 1 8 Tryz.underlying109 hi0 hz0 hz1 hz2 rfl (by decide) _ 20 _ rfl (hown2.alloc _) ⟨w2.heap.size,0,none⟩ 1 1 [.int .i64 (sl:Int)] rfl rfl (cell_one_new _ _ _) (by simp [Value.oneCell']) (by decide) (by unfold maxLen;omega) (by omega) (by simp;omega) _ rfl ?_;intro g3 cap3 w3 hown3 hgrow3 hat3 hlt3;have hM3:Mod (Above w.heap.size) w2 w3:=((Mod.refl _ w2).alloc _).app (hown2.alloc _) hgrow3;have hs3:=hM3.size;clear tok3 hgrow3 hat3 _t))
   have hMw:Mod (Above w.heap.size) wr w3:=(hM1.trans hM2).trans hM3;have hMN:Mod Nowhere w w3:=hm.above hMw (Nat.le_refl _);clear hM1 hM2 hM3 hown hown1 hown1b hown2 hmask hdiv;obtain ⟨g3',cap3',cs3,e3,hg3,hb3,hcp3,hcp3',hcl3,hct3⟩:=owns_open hown3 (by omega)
   injection e3 with e3a e3b e3c
   injection e3a with e3a
   injection e3a with e3a
   subst e3a;subst e3c;clear e3b;have hall2:=hall.out
   have hcell3:∀ k,k < 21→w3.cell? ⟨g3,k,none⟩ = some (.int .i64 ((allWords ws).getD k 0:Nat)):=by
    intro k hk;rw [hb3.cell];have e1:cs3[k]? = (cs3.take ((20 + 1) * 1))[k]?:=by rw [List.getElem?_take,if_pos (by omega)]
    have e2:[Value.int .i64 0] ++ ints ws ++ [.int .i64 (sl:Int)] = ints (allWords ws):=hall2;have hal:(allWords ws).length = 21:=by have e:=hwsl.out;simp [allWords,e]
    rw [e1,hct3,e2];simp [ints,List.getElem?_map,gd0,List.getElem?_eq_getElem (show k < (allWords ws).length by omega)]
   have hAL:∀ k,(allWords ws).getD k 0 < 16777216:=by
    rw [← hws.out];exact allWords_lt hBB.out (by omega) (by omega)
   have hc3:PCtx w3 M m P p:=h.out.keep hMN (fun _ _=>id);have hr3:PRep w3 M P p:=hr.out.mod hMN (fun _ _=>id) (fun _ _=>id);have hMb:∀ j,M.S j→j < w.heap.size:=fun j hj=>h.out.mem.lt j hj;have hg3M:¬ M.S g3:=fun hj=>by have:=hMb g3 hj;omega
   have hwr':=hwr;have hpbM:¬ M.S P.pb:=h.out.dP;have hlt3':=hb3.lt;clear hall hall2 hct3 hcl3 hb3 hown3;refine hid6 ?_ hcell3 hAL hc3 hr3 hMb hMN;clear hcell3 hAL hc3 hr3 hMb hMN;intro hcell3 hAL hc3 hr3 hMb hMN
   go_loopg [77] 21 (fun gg q wr=>∃ (k:Nat) (mk:Mem),k≤21∧gg + k = 21∧q = .int .i64 k∧MemRep wr M mk∧Runs m mk k∧mk.D = partD m.D f (allWords ws) k∧Mod M.S w3 wr)
   case atStart=>exact ⟨0,m,by omega,by omega,rfl,hc3.out.mem,⟨hc3.out.off,rfl,rfl,rfl,rfl,rfl,hc3.out.good,id⟩,rfl,Mod.refl _ _⟩
   case round =>
    obtain ⟨k,mk,hk,hgg,rfl,hmk,hrun,hD,hmm⟩:=hrel;by_cases hlt:k < 21
    ·have hck:=(hmm.cell (p:=⟨g3,k,none⟩) hlt3' hg3M).trans (hcell3.out k hlt);have hpk:=(hmm.cell (p:=⟨P.pb,0,none⟩) hr3.out.bp.lt hpbM).trans hr3.out.bp.f0;have hnl:=hAL.out k;have hstep:upd (partD m.D f (allWords ws) k) (wAddr f k) ((allWords ws).getD k 0) = partD m.D f (allWords ws) (k + 1):=rfl;generalize (allWords ws).getD k 0 = n at hck hnl hstep;have hEnc:=Encode_ok n hnl wr;have hel:=Ecc.enc_lt n
     have ha:wAddr f k < mk.size:=by
      rw [hrun.size];unfold wAddr;split <;> omega
     have hw1:mk.writes < mk.endu:=by rw [hrun.writes,hrun.endu];omega
     have hcu1:mk.cuts < 1099511627776:=by rw [hrun.cuts];exact hcu
     have hWr:=fun w4 (hm4:Mod Nowhere wr w4)=>Write_ok (hmk.mod hm4 (fun _ _=>id)) hrun.off (wAddr f k) (Ecc.enc n) ha (by omega) hw1 hcu1
     have hea:((wAddr f k:Nat):Int) = if k = 0 then (f:Int) * 20 + 19 else (f:Int) * 20 + (k:Int) - 1:=by
      unfold wAddr;split <;> omega
     generalize wAddr f k = a at ha hWr hea hstep;have hDp:(mk.put a (Ecc.enc n)).D = partD m.D f (allWords ws) (k + 1):=by rw [Mem.D_put ha hnl,hD,hstep]
     cases hdue:mk.due
     ·have hwe:mk.write a (Ecc.enc n) = (mk.put a (Ecc.enc n),true):=by unfold Mem.write;rw [hdue];rfl
      rw [hwe] at hWr;have hRS:Runs m (mk.put a (Ecc.enc n)) (k + 1):=hrun.step hnl;generalize mk.put a (Ecc.enc n) = mk' at hWr hDp hRS;rw [show okNo true = Value.int .i64 0 from rfl] at hWr;clear hD hstep hwe;refine hid3 ?_ hDp hEnc hdue;clear hDp hEnc hdue;intro hDp hEnc hdue;by_cases hk0:k = 0
      ·rw [if_pos hk0] at hea;have hkb:((k:Int) == 0) = true:=by rw [hk0];rfl
       rw [hea] at hWr;clear hea;refine hid2 ?_ hk0 hWr;clear hk0 hWr;intro hk0 hWr
       go_wp2_with (first
        | (go_at_call 329;refine hEnc.out.mono ?_;rintro e w4 ⟨rfl,hm4⟩;have hpk4:=(hm4.cell (p:=⟨P.pb,0,none⟩) (Nat.lt_of_lt_of_le hr3.out.bp.lt hmm.size) id).trans hpk)
        | (go_at_call 330;refine (hWr.out w4 hm4).mono ?_;rintro e w5 ⟨rfl,hmk5,hm5⟩))
       go_roundg (20 - k)
       case measure=>omega
       case rel=>exact ⟨k + 1,mk',by omega,by omega,by go_num,hmk5,hRS,hDp.out,(hmm.trans hm4.nowhere).trans hm5⟩
      ·rw [if_neg hk0] at hea
       have hkb:((k:Int) == 0) = false:=by
        have:¬ ((k:Int) = 0):=by omega
        simpa using this
       have hk1:1≤k:=by omega
       rw [hea] at hWr;clear hea;refine hid2 ?_ hk0 hWr;clear hk0 hWr;intro hk0 hWr
       go_wp2_with (first
        | (go_at_call 329;refine hEnc.out.mono ?_;rintro e w4 ⟨rfl,hm4⟩;have hpk4:=(hm4.cell (p:=⟨P.pb,0,none⟩) (Nat.lt_of_lt_of_le hr3.out.bp.lt hmm.size) id).trans hpk)
        | (go_at_call 330;refine (hWr.out w4 hm4).mono ?_;rintro e w5 ⟨rfl,hmk5,hm5⟩))
       go_roundg (20 - k)
       case measure=>omega
       case rel=>exact ⟨k + 1,mk',by omega,by omega,by go_num,hmk5,hRS,hDp.out,(hmm.trans hm4.nowhere).trans hm5⟩
     ·have hwe:mk.write a (Ecc.enc n) = (mk.cutNow,false):=by unfold Mem.write;rw [hdue];rfl
      rw [hwe] at hWr;have hRS:Stopped m mk.cutNow k:=hrun.stop hdue;have hDp:mk.cutNow.D = partD m.D f (allWords ws) k:=hD;generalize mk.cutNow = mk' at hWr hDp hRS;rw [show okNo false = Value.int .i64 7 from rfl] at hWr;clear hD hstep hwe;refine hid3 ?_ hDp hEnc hdue;clear hDp hEnc hdue;intro hDp hEnc hdue;by_cases hk0:k = 0
      ·rw [if_pos hk0] at hea;have hkb:((k:Int) == 0) = true:=by rw [hk0];rfl
       rw [hea] at hWr;clear hea;refine hid2 ?_ hk0 hWr;clear hk0 hWr;intro hk0 hWr
       go_wp2_with (first
        | (go_at_call 329;refine hEnc.out.mono ?_;rintro e w4 ⟨rfl,hm4⟩;have hpk4:=(hm4.cell (p:=⟨P.pb,0,none⟩) (Nat.lt_of_lt_of_le hr3.out.bp.lt hmm.size) id).trans hpk)
        | (go_at_call 330;refine (hWr.out w4 hm4).mono ?_;rintro e w5 ⟨rfl,hmk5,hm5⟩))
       go_ret;have hmf:Mod M.S w3 w5:=(hmm.trans hm4.nowhere).trans hm5;have hv:=hv0.out;refine .inr ⟨_,k,by omega,rfl,hmk5,hr3.out.mod hmf (fun j hj hj2=>hr3.out.dM j hj hj2) (fun j hj hj2=>hr3.out.df j hj (.inr hj2)),hRS,?_,hMN.out.nowhere.trans hmf⟩;rw [hv,hws.out];exact hDp.out
      ·rw [if_neg hk0] at hea
       have hkb:((k:Int) == 0) = false:=by
        have:¬ ((k:Int) = 0):=by omega
        simpa using this
       have hk1:1≤k:=by omega
       rw [hea] at hWr;clear hea;refine hid2 ?_ hk0 hWr;clear hk0 hWr;intro hk0 hWr
       go_wp2_with (first
        | (go_at_call 329;refine hEnc.out.mono ?_;rintro e w4 ⟨rfl,hm4⟩;have hpk4:=(hm4.cell (p:=⟨P.pb,0,none⟩) (Nat.lt_of_lt_of_le hr3.out.bp.lt hmm.size) id).trans hpk)
        | (go_at_call 330;refine (hWr.out w4 hm4).mono ?_;rintro e w5 ⟨rfl,hmk5,hm5⟩))
       go_ret;have hmf:Mod M.S w3 w5:=(hmm.trans hm4.nowhere).trans hm5;have hv:=hv0.out;refine .inr ⟨_,k,by omega,rfl,hmk5,hr3.out.mod hmf (fun j hj hj2=>hr3.out.dM j hj hj2) (fun j hj hj2=>hr3.out.df j hj (.inr hj2)),hRS,?_,hMN.out.nowhere.trans hmf⟩;rw [hv,hws.out];exact hDp.out
    ·obtain rfl:k = 21:=by omega
     have hrw:PRep wr M P p:=hr3.out.mod hmm (fun j hj hj2=>hr3.out.dM j hj hj2) (fun j hj hj2=>hr3.out.df j hj (.inr hj2));have hMf:Mod M.S w wr:=hMN.out.nowhere.trans hmm;have k4:=hrw.bp.f4;have k8:=hrw.bp.f8;have k6:=hrw.bp.f6;have k7:=hrw.bp.f7;have kfz:=hrw.bp.frozen;have kaz:=hrw.ba.frozen;have khz:=hrw.bh.frozen;have kpl:=hrw.bp.lt;have kal:=hrw.ba.lt;have khl:=hrw.bh.lt;obtain ⟨d1,d2,d3⟩:P.pb ≠ P.ab∧P.pb ≠ P.hb∧P.ab ≠ P.hb:=⟨hrw.d1,hrw.d2,hrw.d3⟩;have kat:=zs_cell hrw.ba (i:=i) (by rw [hrw.al];exact hi);have kho:=zs_cell hrw.bh (i:=f) (by rw [hrw.hl];exact hfN);have hfl:=hlf.out
     have hfv':=hfv.out;rw [hfl] at hfv';rw [hfv'] at k8;obtain ⟨fv2,fc2,hfv2r,hfv2b,hfv2s⟩:=slice_tail (P:=Tryz.prog) (t:=109) (e:=3) (T:=3) Tryz.underlying109 info_i64 fb fo rest.length fcap hfc1 hfc2
     have hSlr:Sl wr (.slice (some fv2) rest.length fc2) 3 1 rest.length (ints rest):=hfv2s wr (.int .i64 (f:Int)) (ints rest) (by
      have e:=hrw.bf;rw [hfl,hfree.out,hfv'] at e
      exact e)
     have hvv:p.version = ver:=hv0.out;rw [hvv] at k4;refine hid7 ?_ hfl hfv' hrw hvv hMf hD hfv2b;clear hfl hfv' hrw hvv hMf hD hfv2b;intro hfl hfv' hrw hvv hMf hD hfv2b;generalize hao:p.at_.getD i 0 = old at kat;generalize hho:p.holds.getD f 0 = hof at kho;generalize hcnt:p.count = C at k6;generalize hfrm:p.frames = N at k7;have hiC:i < C:=by omega
     have hfNN:f < N:=by omega
     have hC16:C≤65536:=by omega
     have hN16:N≤65536:=by omega
     refine hid4 ?_ hao hho hcnt hfrm;clear hao hho hcnt hfrm;intro hao hho hcnt hfrm;by_cases ho1:old = -1
     ·subst ho1;go_wp2
      go_region
      all_goals go_wp2
      go_ret;have hr9:=hrw.out;obtain ⟨fx,hbx⟩:=hr9.bp;have hofb:∀ j,P.S j ∨ M.S j→j ≠ fv2.block:=fun j hj e=>hr9.df fb (by rw [hfv'.out];rfl) (by rw [← hfv2b.out,← e];exact hj)
      have hMP:Mod P.S wr (((((wr.setCell { block:=P.pb,off:=4 } (Value.int IntKind.i64 (↑ver + 1))).setCell { block:=P.pb,off:=8 } (Value.slice (some fv2) rest.length fc2)).setCell { block:=P.ab,off:=i } (Value.int IntKind.i64 ↑f)).setCell { block:=P.hb,off:=f } (Value.int IntKind.i64 ↑i)).drew) :=
       (((((Mod.refl _ wr).setCell (fun _=>.inl rfl) _).setCell (fun _=>.inl rfl) _).setCell (fun _=>.inr (.inl rfl)) _).setCell (fun _=>.inr (.inr rfl)) _).drew
      refine .inl ⟨mk,.slice (some fv2) rest.length fc2,rfl,hmk.mod hMP (fun j hj hj2=>hr9.dM j hj2 hj),hr9.placed (fx:=fx) (hs:=p.holds.set f i) ?_ ?_ ?_ ?_ ?_ (fun j hj=>?_),hrun,?_,(hMf.out.mono fun j _ hj=>.inr hj).trans (hMP.mono fun j _ hj=>.inl hj)⟩
      ·refine (((((hbx.setCell 4 _).setCell 8 _).setCell_other d1 _).setCell_other d2 _).drew).conv ?_;rw [hvv.out];rfl
      ·exact (((((hr9.ba.setCell_other d1.symm _).setCell_other d1.symm _).setCell i _).setCell_other d3 _).drew).conv (zs_set _ _ _)
      ·exact (((((hr9.bh.setCell_other d2.symm _).setCell_other d2.symm _).setCell_other d3.symm _).setCell f _).drew).conv (zs_set _ _ _)
      ·show p.holds.set f i = (if p.at_.getD i 0 = -1 then p.holds else p.holds.set (p.at_.getD i 0).toNat (-1)).set f (i:Int)
       rw [hao.out];rfl
      ·have e:(p.placed i f rest).freed = rest:=by show (if p.at_.getD i 0 = -1 then rest else rest ++ [(p.at_.getD i 0).toNat]) = rest;rw [hao.out];rfl
       rw [e];exact hSlr.mod hMP (fun j hj hj2=>hofb j (.inl hj2) (by injection hj with hj;exact hj.symm))
      ·injection hj with hj
       exact fun h3=>hofb j h3 hj.symm
      ·rw [hvv.out,hws.out];exact hD.out
     ·have hoI:(old == -1) = false:=by simpa using ho1
      obtain ⟨o,rfl⟩:∃ o:Nat,old = o:=by
       rcases hI.out.at_ i hi with ⟨e,_⟩ | ⟨o,e,_⟩
       ·rw [hao.out] at e;exact (ho1 e).elim
       ·exact ⟨o,hao.out.symm.trans e⟩
      have hoN:o < N:=by
       rcases hI.out.at_ i hi with ⟨e,_⟩ | ⟨o',e,tp⟩
       ·rw [hao.out] at e;exact (ho1 e).elim
       ·rw [hao.out] at e;have e:o = o':=by omega
        rw [e,← hfrm.out];exact tp.lt
      have kho2:=zs_cell hrw.out.bh (i:=o) (by rw [hrw.out.hl,hfrm.out];exact hoN);generalize hho2:p.holds.getD o 0 = hof2 at kho2;replace hho2:=Lib.hid hho2;obtain ⟨fx,hbx⟩:=hrw.out.bp;replace hbx:=Lib.hid hbx;go_wp2_with fail
      have hMX:Mod P.S wr (((wr.setCell { block:=P.pb,off:=4 } (Value.int IntKind.i64 (↑ver + 1))).setCell { block:=P.pb,off:=8 } (Value.slice (some fv2) rest.length fc2)).setCell { block:=P.hb,off:=o } (Value.int IntKind.i64 (-1))) :=
       (((Mod.refl _ wr).setCell (fun _=>.inl rfl) _).setCell (fun _=>.inl rfl) _).setCell (fun _=>.inr (.inr rfl)) _
      have hbX:=((hbx.out.setCell 4 (.int .i64 (↑ver + 1))).setCell 8 (.slice (some fv2) rest.length fc2)).setCell_other (a:={ block:=P.hb,off:=o }) d2 (.int .i64 (-1));have haX:=((hrw.out.ba.setCell_other (a:={ block:=P.pb,off:=4 }) d1.symm (.int .i64 (↑ver + 1))).setCell_other (a:={ block:=P.pb,off:=8 }) d1.symm (.slice (some fv2) rest.length fc2)).setCell_other (a:={ block:=P.hb,off:=o }) d3 (.int .i64 (-1));have hhX:=(((hrw.out.bh.setCell_other (a:={ block:=P.pb,off:=4 }) d2.symm (.int .i64 (↑ver + 1))).setCell_other (a:={ block:=P.pb,off:=8 }) d2.symm (.slice (some fv2) rest.length fc2)).setCell o (.int .i64 (-1))).conv (zs_set _ _ _)
      generalize (((wr.setCell { block:=P.pb,off:=4 } (Value.int IntKind.i64 (↑ver + 1))).setCell { block:=P.pb,off:=8 } (Value.slice (some fv2) rest.length fc2)).setCell { block:=P.hb,off:=o } (Value.int IntKind.i64 (-1))) = X at hMX hbX haX hhX ⊢;have hofb:∀ j,P.S j ∨ M.S j→j ≠ fv2.block:=fun j hj e=>hrw.out.df fb (by rw [hfv'.out];rfl) (by rw [← hfv2b.out,← e];exact hj);have hSX:=hSlr.mod hMX (fun j hj hj2=>hofb j (.inl hj2) (by injection hj with hj;exact hj.symm))
      have hrl:rest.length≤65536:=by
       have:=nodup_le p.freed (List.range p.frames) hI.out.nodup (fun x hx=>List.mem_range.2 ((hI.out.free x).1 hx).1);rw [List.length_range,hfl.out] at this;omega
      refine (Clone_int hSX (by simp [ints,Value.oneCell']) (by omega)).mono ?_;rintro e w6 ⟨v6,rfl,hown6,_,hm6⟩;have hsX:=hm6.size;have hXl:P.pb < X.heap.size∧P.ab < X.heap.size∧P.hb < X.heap.size:=⟨hbX.lt,haX.lt,hhX.lt⟩;have tokA:True:=trivial
      go_wp2_with (at_builtin;have _t:=tokA;refine wpList_append_lies _ rfl _ _ 109 rfl X.heap.size 3 i0 (.int .i64 0) 1 8 Tryz.underlying109 hi0 hz0 hz1 hz2 rfl (by decide) _ rest.length _ rfl (hown6.alloc _) ⟨w6.heap.size,0,none⟩ 1 1 [.int .i64 (o:Int)] rfl rfl (cell_one_new _ _ _) (by simp [Value.oneCell']) (by decide) (by unfold maxLen;omega) (by omega) (by simp <;> omega) _ rfl ?_;intro g7 cap7 w7 hown7 hgrow7 hat7 hlt7;have hm7:Mod (Above X.heap.size) X w7:=(hm6.nowhere.alloc _).app (hown6.alloc _) hgrow7;have hb7:=hbX.mod hm7 (fun hj=>by have hj:X.heap.size≤P.pb:=hj;omega);have ha7:=haX.mod hm7 (fun hj=>by have hj:X.heap.size≤P.ab:=hj;omega);have hh7:=hhX.mod hm7 (fun hj=>by have hj:X.heap.size≤P.hb:=hj;omega);have q6:w7.cell? ⟨P.pb,6,none⟩ = some (.slice (some ⟨P.ab,0,none⟩) p.count p.count):=hb7.cell 6;rw [hcnt.out] at q6;have q7:w7.cell? ⟨P.pb,7,none⟩ = some (.slice (some ⟨P.hb,0,none⟩) p.frames p.frames):=hb7.cell 7;rw [hfrm.out] at q7;have q8:w7.cell? ⟨P.pb,8,none⟩ = some (.slice (some fv2) rest.length fc2):=hb7.cell 8;obtain ⟨x2v,x2⟩:∃ v,w7.cell? ⟨P.ab,i,none⟩ = some (.int .i64 v):=⟨_,zs_cell ha7 (i:=i) (by rw [hrw.out.al];rw [hcnt.out];exact hiC)⟩;obtain ⟨x3v,x3⟩:∃ v,w7.cell? ⟨P.hb,f,none⟩ = some (.int .i64 v):=⟨_,zs_cell hh7 (i:=f) (by rw [List.length_set,hrw.out.hl,hfrm.out];exact hfNN)⟩;have z1:=hb7.frozen;have z2:=ha7.frozen;have z3:=hh7.frozen;have y1:=hb7.lt;have y2:=ha7.lt;have y3:=hh7.lt;clear tokA _t hgrow7 hat7)
      go_region
      all_goals go_wp2
      go_ret;have hr9:=hrw.out;have hlr:(rest ++ [o]).length = rest.length + 1:=by simp
      have hgX:X.heap.size≤g7:=owns_fresh hown7 g7 rfl
      have hMW:Mod P.S w7 (((((w7.setCell { block:=P.pb,off:=8 } (Value.slice (some { block:=g7,off:=0 }) (rest.length + 1) cap7)).setCell { block:=P.ab,off:=i } (Value.int IntKind.i64 ↑f)).setCell { block:=P.hb,off:=f } (Value.int IntKind.i64 ↑i)).drew)) :=
       ((((Mod.refl _ w7).setCell (fun _=>.inl rfl) _).setCell (fun _=>.inr (.inl rfl)) _).setCell (fun _=>.inr (.inr rfl)) _).drew
      have hMP:Mod P.S wr _:=(hMX.above hm7 hMX.size).trans hMW;refine .inl ⟨mk,.slice (some ⟨g7,0,none⟩) (rest.length + 1) cap7,rfl,hmk.mod hMP (fun j hj hj2=>hr9.dM j hj2 hj),hr9.placed (fx:=fx) (hs:=(p.holds.set o (-1)).set f i) ?_ ?_ ?_ ?_ ?_ (fun j hj=>?_),hrun,?_,(hMf.out.mono fun j _ hj=>.inr hj).trans (hMP.mono fun j _ hj=>.inl hj)⟩
      ·refine ((((hb7.setCell 8 _).setCell_other d1 _).setCell_other d2 _).drew).conv ?_;rw [hvv.out];rfl
      ·exact ((((ha7.setCell_other d1.symm _).setCell i _).setCell_other d3 _).drew).conv (zs_set _ _ _)
      ·exact ((((hh7.setCell_other d2.symm _).setCell_other d3.symm _).setCell f _).drew).conv (zs_set _ _ _)
      ·show _ = (if p.at_.getD i 0 = -1 then p.holds else p.holds.set (p.at_.getD i 0).toNat (-1)).set f (i:Int)
       rw [hao.out,if_neg ho1];rfl
      ·have e:(p.placed i f rest).freed = rest ++ [o]:=by show (if p.at_.getD i 0 = -1 then rest else rest ++ [(p.at_.getD i 0).toNat]) = _;rw [hao.out,if_neg ho1];rfl
       rw [e,hlr];have hs:=Sl.of_owns hown7;rw [show ints rest ++ [Value.int .i64 (o:Int)] = ints (rest ++ [o]) by simp [ints]] at hs;refine hs.mod hMW (fun j hj hj2=>?_)
       have hj:g7 = j:=by
        have hj:some g7 = some j:=hj
        injection hj
       rcases hj2 with e | e | e
       ·have e:j = P.pb:=e;omega
       ·have e:j = P.ab:=e;omega
       ·have e:j = P.hb:=e;omega
      ·injection hj with hj
       have hj:g7 = j:=hj;intro h3
       have hl:j < X.heap.size:=by
        rcases h3 with (e | e | e) | h3
        ·rw [e];omega
        ·rw [e];omega
        ·rw [e];omega
        ·have h1:=hmk.lt j h3;have h2:=hMX.size;omega
       omega
      ·rw [hvv.out,hws.out];exact hD.out
end Go.Proofs.YtanioleniadhoaaGreat
/-
 What place does, as a law about the pages' contents.
-/
namespace Go.Proofs.YtanioleniadhoaaGreat
open Go.RowKit
theorem bytes3_bytes (l:List Nat):Bytes (unwords l):=by
 intro k
 have key:∀ x,x ∈ unwords l→x < 256:=by
  intro x hx;obtain ⟨n,_,hn⟩:=List.mem_flatMap.1 hx;simp only [bytes3,List.mem_cons,List.not_mem_nil,or_false] at hn;rcases hn with e | e | e <;> (rw [e];exact Nat.mod_lt _ (by omega))
 rw [gd0];by_cases h:k < (unwords l).length
 ·rw [List.getElem?_eq_getElem h];exact key _ (List.getElem_mem h)
 ·rw [List.getElem?_eq_none (by omega)]
  show 0 < 256
  omega
theorem Holds.bytes {D:Nat→Nat} {C N W:Nat} {pc:Nat→List Nat} (h:Holds D C N W pc) (i:Nat) (hi:i < C):Bytes (pc i):=by
 rcases h.has i hi with ⟨f,_,e⟩ | ⟨_,e⟩
 ·rw [← e];exact bytes3_bytes _
 ·rw [e];intro k;simp only [zeros48,gd0,List.getElem?_replicate]
  split <;> simp
theorem Runs.trans {m m1 m2:Mem} {a b:Nat} (h:Runs m m1 a) (k:Runs m1 m2 b):Runs m m2 (a + b) :=
 ⟨k.off,k.cuts.trans h.cuts,k.endu.trans h.endu,k.size.trans h.size,k.pend.trans h.pend,by rw [k.writes,h.writes];omega,k.good,fun hc=>k.clean (h.clean hc)⟩
theorem Runs.stopped {m m1 m2:Mem} {a b n:Nat} (h:Runs m m1 a) (k:Stopped m1 m2 b) (hn:a + b≤n):Stopped m m2 n :=
 ⟨by have:=k.lo;rw [h.writes] at this;omega,by have:=k.hi;rw [h.writes] at this;omega,k.off,k.cuts.trans (by rw [h.cuts]),k.endu.trans h.endu,k.size.trans h.size,by rw [← h.pend];exact k.pend,k.good,fun hc=>k.clean (h.clean hc)⟩
theorem Stopped.mono {m m':Mem} {a b:Nat} (h:Stopped m m' a) (hn:a≤b):Stopped m m' b:={ h with hi:=by have:=h.hi;omega }
structure Pg (w:World) (M:MemAt) (m:Mem) (P:PAt) (p:PSt) (pc:Nat→List Nat):Prop where
 ctx:PCtx w M m P p
 rep:PRep w M P p
 inv:PInv m.D p m.writes pc
 fit:p.frames * 20≤m.size
 alive:p.cuts = m.cuts
structure Room (m:Mem) (n:Nat):Prop where
 endu:m.writes + n≤m.endu
 cuts:m.cuts < 1099511627776
theorem Room.mono {m:Mem} {a b:Nat} (h:Room m a) (hb:b≤a):Room m b:=⟨by have:=h.endu;omega,h.cuts⟩
theorem Room.runs {m m':Mem} {a b k:Nat} (h:Room m a) (hr:Runs m m' k) (hb:k + b≤a):Room m' b:=⟨by rw [hr.writes,hr.endu];have:=h.endu;omega,by rw [hr.cuts];exact h.cuts⟩
def WrPost (w:World) (M:MemAt) (m:Mem) (P:PAt) (p:PSt) (n:Nat) (pc pc':Nat→List Nat) (Q:(Nat→List Nat)→Prop) (e:Ending) (w':World):Prop :=
 (∃ m' P' p' k,e = .returned (errno 0)∧Pg w' M m' P' p' pc'∧P'.pb = P.pb∧P'.ab = P.ab∧P'.hb = P.hb∧p'.count = p.count∧p'.frames = p.frames∧p'.cuts = p.cuts∧k≤n∧Runs m m' k∧Mod (fun k=>P.S k ∨ M.S k) w w') ∨
 (∃ m' P' p' pc2,e = .returned (errno 7)∧MemRep w' M m'∧PRep w' M P' p'∧P'.pb = P.pb∧P'.ab = P.ab∧P'.hb = P.hb∧p'.count = p.count∧p'.frames = p.frames∧p'.cuts = p.cuts∧Stopped m m' n∧Holds m'.D p.count p.frames m'.writes pc2∧Q pc2∧Mod (fun k=>P.S k ∨ M.S k) w w')
theorem place_ok {w:World} {M:MemAt} {m:Mem} {P:PAt} {p:PSt} {pc:Nat→List Nat} {vb:Value} {b:List Nat} {i:Nat}
  (h:Pg w M m P p pc) (hi:i < p.count) (hvb:Sl w vb 5 1 48 (u8s b)) (hbl:b.length = 48) (hbb:Bytes b) (hob:Off M.S vb) (hrm:Room m 21) :
  Calls Tryz.prog 307 #[ptr P.pb,.int .i64 i,vb] w (WrPost w M m P p 21 pc (setPage pc i b) fun x=>x = pc):=by
 obtain ⟨f,rest,hfree⟩:=h.inv.freed_ne;have hendu:=h.ctx.mem.ok.endu40;have hrm1:=hrm.endu;have hvW:=h.inv.verW;have hff:f ∈ p.freed:=by rw [hfree];exact List.mem_cons_self ..
 refine (place_raw h.ctx h.rep h.inv h.fit hi hfree hvb hbl hbb hob (by omega) hrm1 hrm.cuts).mono ?_;rintro e w' (⟨m',fv',rfl,hm',hr',hrun,hD,hmod⟩ | ⟨m',k,hk,rfl,hm',hr',hst,hD,hmod⟩)
 ·refine .inl ⟨m',{ P with fv:=fv' },p.placed i f rest,21,rfl,?_,rfl,rfl,rfl,rfl,rfl,rfl,Nat.le_refl _,hrun,hmod⟩;obtain ⟨d1,d2,d3,d4,d5⟩:=part_done m.D f hbb hbl i (p.version + 1);have hag:=part_agree m.D f (allWords (frameWords b i (p.version + 1))) 21 (Nat.le_refl _);rw [← hD] at d1 d2 d3 d4 d5 hag;refine ⟨⟨hm',hr'.bp,h.ctx.dP,hrun.off,hrun.good⟩,hr',?_,by rw [hrun.size];exact h.fit,by rw [hrun.cuts];exact h.alive⟩;exact h.inv.placed hfree hi hag d1 d2 d3 d4 d5 (by rw [hrun.writes];omega) (by rw [hrun.writes];omega)
 ·refine .inr ⟨m',P,p,pc,rfl,hm',hr',rfl,rfl,rfl,rfl,rfl,rfl,hst.mono (by omega),?_,rfl,hmod.mono fun _ _ h=>.inr h⟩;have hag:=part_agree m.D f (allWords (frameWords b i (p.version + 1))) k (by omega);have hH:=h.inv.h.mono hst.lo;by_cases hk0:k = 0
  ·subst hk0;rw [hD];exact hH
  ·have hs:=part_seal m.D f (allWords (frameWords b i (p.version + 1))) rfl k (by omega) hk;rw [← hD] at hag hs;exact hH.spoil hag (fun hv=>hv hs) (fun j hj g=>h.inv.free_top hff j hj g)
end Go.Proofs.YtanioleniadhoaaGreat
