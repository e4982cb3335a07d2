/-
  The walks over the package cell: each method of a memory does what the plain memory does.
-/
import Derived.Test.YtanioleniadhoaaGreatProg
import Derived.Test.YtanioleniadhoaaGreatAG01
set_option linter.unusedVariables false
set_option linter.unusedSimpArgs false
set_option maxHeartbeats 1000000
set_option maxRecDepth 100000
namespace Go.Proofs.YtanioleniadhoaaGreat
open Go.RowKit
abbrev ptr (b:Nat):Value:=.pointer (some ⟨b,0,none⟩)
abbrev errno (n:Int):Value:=.int .i64 n
section
variable {w : World} {M : MemAt} {m : Mem}
theorem MemRep.f0 (h:MemRep w M m):w.cell? ⟨M.mb,0,none⟩ = some (.slice (some ⟨M.wb,0,none⟩) m.size m.size):=h.bm.cell 0
theorem MemRep.f1 (h:MemRep w M m):w.cell? ⟨M.mb,1,none⟩ = some (.slice (some ⟨M.rb,0,none⟩) m.size M.rcap):=h.bm.cell 1
theorem MemRep.f2 (h:MemRep w M m):w.cell? ⟨M.mb,2,none⟩ = some (.int .i64 m.endu):=h.bm.cell 2
theorem MemRep.f3 (h:MemRep w M m):w.cell? ⟨M.mb,3,none⟩ = some (.int .i64 m.writes):=h.bm.cell 3
theorem MemRep.f4 (h:MemRep w M m):w.cell? ⟨M.mb,4,none⟩ = some (.int .i64 m.cuts):=h.bm.cell 4
theorem MemRep.f5 (h:MemRep w M m):w.cell? ⟨M.mb,5,none⟩ = some (.bool m.off):=h.bm.cell 5
theorem MemRep.f6 (h:MemRep w M m):w.cell? ⟨M.mb,6,none⟩ = some (.bool m.pending):=h.bm.cell 6
theorem MemRep.f7 (h:MemRep w M m):w.cell? ⟨M.mb,7,none⟩ = some (.int .i64 m.left):=h.bm.cell 7
theorem MemRep.sz (h:MemRep w M m):1≤m.size∧m.size≤65536:=⟨h.ok.pos,h.ok.le⟩
end
theorem Words_ok {w:World} {M:MemAt} {m:Mem} (h:MemRep w M m) :
  Calls Tryz.prog 166 #[ptr M.mb] w fun e w'=>e = .returned (.int .i64 m.size)∧w = w':=by
 have h0:=h.f0;obtain ⟨s1,s2⟩:=h.sz;generalize m.size = n at h0 s1 s2 ⊢;go_enter Tryz.func166,Tryz.ntmps166;go_wp2;go_ret;exact ⟨rfl,rfl⟩
theorem Power_ok {w:World} {M:MemAt} {m:Mem} (h:MemRep w M m) :
  Calls Tryz.prog 39 #[ptr M.mb] w fun e w'=>e = .returned (.bool (!m.off))∧w = w':=by
 have h0:=h.f0;have h5:=h.f5;generalize m.off = o at h5 ⊢;generalize m.size = n at h0;go_enter Tryz.func39,Tryz.ntmps39;go_wp2;go_ret;exact ⟨rfl,rfl⟩
theorem Cuts_ok {w:World} {M:MemAt} {m:Mem} (h:MemRep w M m) :
  Calls Tryz.prog 167 #[ptr M.mb] w fun e w'=>e = .returned (.int .i64 m.cuts)∧w = w':=by
 have h0:=h.f0;have h4:=h.f4;generalize m.cuts = c at h4 ⊢;generalize m.size = n at h0;go_enter Tryz.func167,Tryz.ntmps167;go_wp2;go_ret;exact ⟨rfl,rfl⟩
theorem Wear_ok {w:World} {M:MemAt} {m:Mem} (h:MemRep w M m) (a:Nat) (ha:a < m.size) :
  Calls Tryz.prog 277 #[ptr M.mb,.int .i64 a] w fun e w'=>e = .returned (.int .i64 (m.wear.getD a 0:Nat))∧w = w':=by
 have h0:=h.f0;have h1:=h.f1;have hc:=h.cellR ha;obtain ⟨s1,s2⟩:=h.sz;generalize m.wear.getD a 0 = x at hc ⊢;generalize m.size = n at h0 h1 s1 s2 ha;go_enter Tryz.func277,Tryz.ntmps277;go_wp2;go_ret;exact ⟨rfl,rfl⟩
theorem Read_ok {w:World} {M:MemAt} {m:Mem} (h:MemRep w M m) (hoff:m.off = false) (a:Nat) (ha:a < m.size) :
  Calls Tryz.prog 291 #[ptr M.mb,.int .i64 a] w fun e w'=>e = .returned (.tuple #[.int .u32 (m.words.getD a 0:Nat),errno 0])∧w = w':=by
 have h0:=h.f0;have h5:=h.f5;rw [hoff] at h5;replace hoff:=Lib.hid hoff;have hc:=h.cellW ha;obtain ⟨s1,s2⟩:=h.sz;generalize m.words.getD a 0 = x at hc ⊢;generalize m.size = n at h0 s1 s2 ha;go_enter Tryz.func291,Tryz.ntmps291;go_wp2
 go_ret2
 exact ⟨rfl,rfl⟩
theorem Cut_ok {w:World} {M:MemAt} {m:Mem} (h:MemRep w M m) (hoff:m.off = false) (n:Nat) (hn:n < 9223372036854775808) :
  Calls Tryz.prog 35 #[ptr M.mb,.int .i64 n] w fun e w'=>e = .returned (errno 0)∧MemRep w' M (m.cut n)∧Mod M.S w w':=by
 have h0:=h.f0;have h5:=h.f5;have h6:=h.f6;have h7:=h.f7;rw [hoff] at h5;have hf:=h.bm.frozen;have hR:Hid (MemRep w M m):=h;clear h;generalize hms:m.size = sz at h0;refine hid3 ?_ hoff hms hn;clear hoff hms hn;intro hoff hms hn;go_enter Tryz.func35,Tryz.ntmps35;go_wp2;go_ret;have h:=hR.out;refine ⟨rfl,{ h with ok:=h.ok.cut hn.out,bm:=?_,bw:=(h.bw.setCell_other h.d1.symm _).setCell_other h.d1.symm _,br:=(h.br.setCell_other h.d2.symm _).setCell_other h.d2.symm _ },((Mod.refl _ _).setCell (fun _=>.inl rfl) _).setCell (fun _=>.inl rfl) _⟩;exact (h.bm.setCell 6 _).setCell 7 _
theorem Restore_ok {w:World} {M:MemAt} {m:Mem} (h:MemRep w M m) :
  Calls Tryz.prog 40 #[ptr M.mb] w fun e w'=>e = .returned (.tuple #[])∧MemRep w' M m.restore∧Mod M.S w w':=by
 have h0:=h.f0;have h5:=h.f5;have h6:=h.f6;have h7:=h.f7;have hf:=h.bm.frozen;have hR:Hid (MemRep w M m):=h;clear h;generalize hms:m.size = sz at h0;replace hms:=Lib.hid hms;go_enter Tryz.func40,Tryz.ntmps40;go_wp2
 go_end0
 have h:=hR.out;refine ⟨rfl,{ h with ok:=h.ok.restore,bm:=?_,bw:=((h.bw.setCell_other h.d1.symm _).setCell_other h.d1.symm _).setCell_other h.d1.symm _,br:=((h.br.setCell_other h.d2.symm _).setCell_other h.d2.symm _).setCell_other h.d2.symm _ },(((Mod.refl _ _).setCell (fun _=>.inl rfl) _).setCell (fun _=>.inl rfl) _).setCell (fun _=>.inl rfl) _⟩;exact ((h.bm.setCell 5 _).setCell 6 _).setCell 7 _
end Go.Proofs.YtanioleniadhoaaGreat
/-
 The walks over the package cell, second part: Write.
-/
namespace Go.Proofs.YtanioleniadhoaaGreat
open Go.RowKit
def okNo (b:Bool):Value:=errno (if b then 0 else 7)
theorem ints_set (l:List Nat) (a v:Nat) (x:List Value) (h:a < l.length):(ints l ++ x).set a (.int .i64 (v:Int)) = ints (l.set a v) ++ x:=by
 rw [List.set_append_left _ _ (by simpa [ints] using h)];simp [ints,List.map_set]
theorem u32s_set (l:List Nat) (a v:Nat):(u32s l).set a (.int .u32 (v:Int)) = u32s (l.set a v):=by
 simp [u32s,List.map_set]
theorem size_put (m:Mem) (a v:Nat):(m.put a v).size = m.size:=by simp [Mem.put,Mem.size]
theorem Write_ok {w:World} {M:MemAt} {m:Mem} (h:MemRep w M m) (hoff:m.off = false) (a v:Nat) (ha:a < m.size) (hv:v < 4294967296) (hw:m.writes < m.endu) (hcu:m.cuts < 1099511627776) :
  Calls Tryz.prog 330 #[ptr M.mb,.int .i64 a,.int .u32 v] w fun e w'=>e = .returned (okNo (m.write a v).2)∧MemRep w' M (m.write a v).1∧Mod M.S w w':=by
 have h0:=h.f0;have h1:=h.f1;have h2:=h.f2;have h3:=h.f3;have h4:=h.f4;have h5:=h.f5;have h6:=h.f6;have h7:=h.f7;rw [hoff] at h5;have hf:=h.bm.frozen;have hfw:=h.bw.frozen;have hfr:=h.br.frozen;have hcw:=h.cellW ha;have hcr:=h.cellR ha;obtain ⟨s1,s2⟩:=h.sz;obtain ⟨d1,d2,d3⟩:M.mb ≠ M.wb∧M.mb ≠ M.rb∧M.wb ≠ M.rb:=⟨h.d1,h.d2,h.d3⟩;have hwl:=h.ok.wearLe a;have he40:=h.ok.endu40;have hlt:=h.ok.left63;have hr:m.wear.getD a 0 + 1≤m.endu:=by omega
 have hR:Hid (MemRep w M m):=h;clear h;have hao:a < m.words.length:=ha;have hal:a < m.wear.length:=by have:=hR.out.ok.wl;omega
 generalize hx:m.words.getD a 0 = x at hcw;generalize hy:m.wear.getD a 0 = y at hcr hwl hr;generalize hsz:m.size = sz at h0 h1 ha s1 s2;refine hid6 ?_ hoff hx hy hsz hao hal;clear hoff hx hy hsz hao hal;intro hoff hx hy hsz hao hal
 cases hp:m.pending
 ·have hW:m.write a v = (m.put a v,true):=by unfold Mem.write Mem.due;rw [hp];rfl
  rw [hW];clear hW;rw [hp] at h6;replace hp:=Lib.hid hp;generalize hwr:m.writes = wr at h3 hw hwl;generalize hen:m.endu = en at h2 hw hr he40;refine hid2 ?_ hwr hen;clear hwr hen;intro hwr hen;go_enter Tryz.func330,Tryz.ntmps330;go_wp2
  go_quiet (fail)
  go_wp2;go_ret;have h:=hR.out;refine ⟨rfl,{ h with ok:=h.ok.put hv (by have:=hwr.out;omega),bm:=?_,bw:=?_,br:=?_,cap:=by rw [size_put];exact h.cap,spare:=by rw [size_put];exact h.spare },(((Mod.refl _ _).setCell (fun _=>.inl rfl) _).setCell (fun _=>.inr (.inr rfl)) _).drewN _ |>.setCell (fun _=>.inr (.inl rfl)) _⟩
  ·refine ((((h.bm.setCell 3 _).setCell_other d2 _).drewN _).setCell_other d1 _).conv ?_;have e1:=hwr.out;have e2:=hp.out;simp [memCells,Mem.size,Mem.put,e1,e2]
  ·refine ((((h.bw.setCell_other d1.symm _).setCell_other d3 _).drewN _).setCell a _).conv ?_;exact u32s_set _ _ _
  ·refine ((((h.br.setCell_other d2.symm _).setCell a _).drewN _).setCell_other d3.symm _).conv ?_;have e:=ints_set m.wear a (y + 1) M.spare hal.out;have e1:=hy.out;simp only [Mem.put,e1];exact e
 ·by_cases hl:m.left = 0
  ·have hW:m.write a v = (m.cutNow,false):=by unfold Mem.write Mem.due;rw [hp,hl];rfl
   rw [hW];clear hW;rw [hp] at h6;rw [hl] at h7;refine hid2 ?_ hp hl;clear hp hl;intro hp hl;generalize hcc:m.cuts = cc at h4 hcu;replace hcc:=Lib.hid hcc;go_enter Tryz.func330,Tryz.ntmps330;go_wp2;go_ret;have h:=hR.out;refine ⟨rfl,{ h with ok:=h.ok.cutNow (by have:=hcc.out;omega),bm:=?_,bw:=?_,br:=?_ },(((Mod.refl _ _).setCell (fun _=>.inl rfl) _).setCell (fun _=>.inl rfl) _).setCell (fun _=>.inl rfl) _⟩
   ·refine (((h.bm.setCell 5 _).setCell 6 _).setCell 4 _).conv ?_;have e1:=hcc.out;simp [memCells,Mem.cutNow,Mem.size,e1]
   ·exact ((h.bw.setCell_other d1.symm _).setCell_other d1.symm _).setCell_other d1.symm _
   ·exact ((h.br.setCell_other d2.symm _).setCell_other d2.symm _).setCell_other d2.symm _
  ·have hW:m.write a v = (m.put a v,true):=by
    unfold Mem.write Mem.due;rw [hp];have:(m.left == 0) = false:=by simpa using hl
    rw [this];rfl
   rw [hW];clear hW;rw [hp] at h6;have hln:((m.left:Int) == 0) = false:=by simpa using hl
   have hlp:1≤m.left:=by omega
   replace hp:=Lib.hid hp;generalize hlf:m.left = lf at h7 hln hlt hlp;generalize hwr:m.writes = wr at h3 hw hwl;generalize hen:m.endu = en at h2 hw hr he40;refine hid3 ?_ hwr hen hlf;clear hwr hen hlf;intro hwr hen hlf;clear hl;go_enter Tryz.func330,Tryz.ntmps330;go_wp2
   go_quiet (fail)
   go_wp2;go_ret;have h:=hR.out;refine ⟨rfl,{ h with ok:=h.ok.put hv (by have:=hwr.out;omega),bm:=?_,bw:=?_,br:=?_,cap:=by rw [size_put];exact h.cap,spare:=by rw [size_put];exact h.spare },((((Mod.refl _ _).setCell (fun _=>.inl rfl) _).setCell (fun _=>.inl rfl) _).setCell (fun _=>.inr (.inr rfl)) _).drewN _ |>.setCell (fun _=>.inr (.inl rfl)) _⟩
   ·refine (((((h.bm.setCell 7 _).setCell 3 _).setCell_other d2 _).drewN _).setCell_other d1 _).conv ?_;have e1:=hwr.out;have e2:=hp.out;have e3:=hlf.out;simp [memCells,Mem.size,Mem.put,e1,e2,e3];omega
   ·refine (((((h.bw.setCell_other d1.symm _).setCell_other d1.symm _).setCell_other d3 _).drewN _).setCell a _).conv ?_;exact u32s_set _ _ _
   ·refine (((((h.br.setCell_other d2.symm _).setCell_other d2.symm _).setCell a _).drewN _).setCell_other d3.symm _).conv ?_;have e:=ints_set m.wear a (y + 1) M.spare hal.out;have e1:=hy.out;simp only [Mem.put,e1];exact e
end Go.Proofs.YtanioleniadhoaaGreat
/-
 The walks over the package cell, third part: New.
-/
namespace Go.Proofs.YtanioleniadhoaaGreat
open Go.RowKit
def Mem.new (n e:Nat):Mem:={ words:=List.replicate n 0,wear:=List.replicate n 0,endu:=e,writes:=0,cuts:=0,left:=0,off:=false,pending:=false }
theorem Mem.new_ok {n e:Nat} (h1:1≤n) (h2:n≤65536) (h4:e≤1099511627776):(Mem.new n e).Ok:=by
 have hg:∀ a,(List.replicate n 0).getD a 0 = 0:=fun a=>by
  simp only [gd0,List.getElem?_replicate];split <;> rfl
 exact ⟨by simp [Mem.new],by simpa [Mem.new] using h1,by simpa [Mem.new] using h2,fun a=>by show (List.replicate n 0).getD a 0 < _;rw [hg];omega,fun a=>by show (List.replicate n 0).getD a 0≤_;rw [hg];omega,h4,by show 0≤_;omega,by show 0≤_;omega,by show 0 < _;omega⟩
theorem info_u32:(Tryz.prog.info? 315).map (fun i=>(i.zero,i.size,i.bytes)) = some (some (.int .u32 0),1,4):=by kernel_rfl
theorem info_i64:(Tryz.prog.info? 3).map (fun i=>(i.zero,i.size,i.bytes)) = some (some (.int .i64 0),1,8):=by kernel_rfl
theorem rep_u32 (n:Nat):List.replicate n (Value.int .u32 0) = u32s (List.replicate n 0):=by simp [u32s]
theorem rep_int (n:Nat):List.replicate n (Value.int .i64 0) = ints (List.replicate n 0):=by simp [ints]
theorem memRep_new {w:World} {mb wb rb n e:Nat} (h1:1≤n) (h2:n≤65536) (h4:e≤1099511627776) (d1:mb ≠ wb) (d2:mb ≠ rb) (d3:wb ≠ rb)
  (bm:Blk w mb [.slice (some ⟨wb,0,none⟩) n n,.slice (some ⟨rb,0,none⟩) n n,.int .i64 e,.int .i64 0,.int .i64 0,.bool false,.bool false,.int .i64 0] 165)
  (bw:Blk w wb (List.replicate n (.int .u32 0)) 315) (br:Blk w rb (List.replicate n (.int .i64 0)) 3):MemRep w ⟨mb,wb,rb,n,[]⟩ (Mem.new n e):=by
 have hs:(Mem.new n e).size = n:=by simp [Mem.new,Mem.size]
 refine ⟨Mem.new_ok h1 h2 h4,d1,d2,d3,by rw [hs];exact Nat.le_refl _,by show n≤maxLen;unfold maxLen;omega,by rw [hs];rfl,?_,?_,?_⟩
 ·refine bm.conv ?_;unfold memCells;rw [hs];rfl
 ·exact bw.conv (rep_u32 n)
 ·refine br.conv ?_
  show _ = ints (List.replicate n 0) ++ []
  rw [List.append_nil,rep_int]
theorem Blk.new' {w:World} {b:Nat} {A:Array Value} {cs:List Value} {T:TypeId} (hb:b = w.heap.size) (hA:cs.toArray = A):Blk (w.alloc (.cells A T)) b cs T:=by
 subst hA;subst hb;exact Blk.new w cs T
def NewMem (n e:Nat) (w:World) (v:Ending) (w':World):Prop :=
 ∃ M:MemAt,v = .returned (.tuple #[ptr M.mb,errno 0])∧MemRep w' M (Mem.new n e)∧(∀ k,M.S k→w.heap.size≤k)∧Mod Nowhere w w'
theorem New_ok (w:World) (n e:Nat) (h1:1≤n) (h2:n≤65536) (h3:1≤e) (h4:e≤1099511627776) :
  Calls Tryz.prog 96 #[.agg #[.int .i64 n,.int .i64 e]] w (NewMem n e w):=by
 have hmk1:∀ w,(Instr.makeSlice 163 (.int .i64 n) (.int .i64 n)).run Tryz.prog w = .ok (.slice (some ⟨w.heap.size,0,none⟩) n n) (w.alloc (.cells (List.replicate n (.int .u32 0)).toArray 315)) :=
  run_make_full _ _ _ 4 Tryz.underlying163 info_u32 rfl n (by omega) (by omega)
 have hmk2:∀ w,(Instr.makeSlice 109 (.int .i64 n) (.int .i64 n)).run Tryz.prog w = .ok (.slice (some ⟨w.heap.size,0,none⟩) n n) (w.alloc (.cells (List.replicate n (.int .i64 0)).toArray 3)) :=
  run_make_full _ _ _ 8 Tryz.underlying109 info_i64 rfl n (by omega) (by omega)
 generalize hA:(List.replicate n (Value.int .u32 0)).toArray = A at hmk1;generalize hB:(List.replicate n (Value.int .i64 0)).toArray = B at hmk2;refine hid2 ?_ hA hB;clear hA hB;intro hA hB;go_enter Tryz.func96,Tryz.ntmps96;go_wp2
 go_region
 all_goals go_wp2
 ·go_ret2
  refine ⟨⟨w.heap.size + 1 + 1 + 1,w.heap.size + 1,w.heap.size + 1 + 1,n,[]⟩,rfl,memRep_new h1 h2 h4 (by omega) (by omega) (by omega) ?_ ?_ ?_,?_,?_⟩
  ·exact (Blk.new' (by simp) rfl).drew
  ·exact (((Blk.new' (by simp) hA.out).alloc _).alloc _).drew
  ·exact ((Blk.new' (by simp) hB.out).alloc _).drew
  ·rintro k (rfl | rfl | rfl) <;> (dsimp only;omega)
  ·exact (((((Mod.refl _ _).alloc _).alloc _).alloc _).alloc _).drew
 ·go_ret2
  refine ⟨⟨w.heap.size + 1 + 1 + 1,w.heap.size + 1 + 1,w.heap.size + 1,n,[]⟩,rfl,memRep_new h1 h2 h4 (by omega) (by omega) (by omega) ?_ ?_ ?_,?_,?_⟩
  ·exact (Blk.new' (by simp) rfl).drew
  ·exact ((Blk.new' (by simp) hA.out).alloc _).drew
  ·exact (((Blk.new' (by simp) hB.out).alloc _).alloc _).drew
  ·rintro k (rfl | rfl | rfl) <;> (dsimp only;omega)
  ·exact (((((Mod.refl _ _).alloc _).alloc _).alloc _).alloc _).drew
end Go.Proofs.YtanioleniadhoaaGreat
/-
 The pages of a memory as a plain value, and what it means that Go's memory holds them; the small methods.
-/
namespace Go.Proofs.YtanioleniadhoaaGreat
open Go.RowKit
structure PSt where
 cuts:Nat
 count:Nat
 frames:Nat
 version:Nat
 turn:Nat
 at_:List Int
 holds:List Int
 freed:List Nat
structure PAt where
 pb:Nat
 ab:Nat
 hb:Nat
 fv:Value
def PAt.S (P:PAt):Nat→Prop:=fun k=>k = P.pb ∨ k = P.ab ∨ k = P.hb
def zs (l:List Int):List Value:=l.map fun x:Int=>Value.int .i64 x
def pCells (M:MemAt) (P:PAt) (p:PSt) (fx:Int):List Value :=
 [ptr M.mb,.int .i64 p.cuts,.int .i64 p.count,.int .i64 p.frames,.int .i64 p.version,.int .i64 p.turn,.slice (some ⟨P.ab,0,none⟩) p.count p.count,.slice (some ⟨P.hb,0,none⟩) p.frames p.frames,P.fv,.int .i64 fx]
def PBlk (w:World) (M:MemAt) (P:PAt) (p:PSt):Prop:=∃ fx:Int,Blk w P.pb (pCells M P p fx) 246
structure PRep (w:World) (M:MemAt) (P:PAt) (p:PSt):Prop where
 bp:PBlk w M P p
 ba:Blk w P.ab (zs p.at_) 3
 bh:Blk w P.hb (zs p.holds) 3
 bf:Sl w P.fv 3 1 p.freed.length (ints p.freed)
 d1:P.pb ≠ P.ab
 d2:P.pb ≠ P.hb
 d3:P.ab ≠ P.hb
 dM:∀ k,P.S k→¬ M.S k
 df:Off (fun k=>P.S k ∨ M.S k) P.fv
 al:p.at_.length = p.count
 hl:p.holds.length = p.frames
 c16:p.count≤65536
 f16:p.frames≤65536
section
variable {w w' : World} {M : MemAt} {m : Mem} {P : PAt} {p : PSt} {S : Nat → Prop}
theorem PBlk.mod (h:PBlk w M P p) (hm:Mod S w w') (hs:¬ S P.pb):PBlk w' M P p:=h.imp fun _ h=>h.mod hm hs
theorem PRep.mod (h:PRep w M P p) (hm:Mod S w w') (hs:∀ k,P.S k→¬ S k) (hf:Off S P.fv):PRep w' M P p :=
 { h with bp:=h.bp.mod hm (hs _ (.inl rfl)),ba:=h.ba.mod hm (hs _ (.inr (.inl rfl))),bh:=h.bh.mod hm (hs _ (.inr (.inr rfl))),bf:=h.bf.mod hm hf }
theorem MemRep.drewN (h:MemRep w M m) (n:Nat):MemRep (w.drewN n) M m:=⟨h.ok,h.d1,h.d2,h.d3,h.cap,h.cap2,h.spare,h.bm,h.bw,h.br⟩
theorem quiet_world {P:Program} {f:FuncId} {args:Array Value} {w:World} {v:Value} (h:Calls P f args w fun e w'=>e = .returned v∧w = w'):Calls P f args w fun e w'=>e = .returned v∧w' = w :=
 h.mono fun _ _ ⟨a,b⟩=>⟨a,b.symm⟩
theorem PBlk.f0 (h:PBlk w M P p):w.cell? ⟨P.pb,0,none⟩ = some (ptr M.mb):=h.elim fun _ h=>h.cell 0
theorem PBlk.f1 (h:PBlk w M P p):w.cell? ⟨P.pb,1,none⟩ = some (.int .i64 p.cuts):=h.elim fun _ h=>h.cell 1
theorem PBlk.f2 (h:PBlk w M P p):w.cell? ⟨P.pb,2,none⟩ = some (.int .i64 p.count):=h.elim fun _ h=>h.cell 2
theorem PBlk.f3 (h:PBlk w M P p):w.cell? ⟨P.pb,3,none⟩ = some (.int .i64 p.frames):=h.elim fun _ h=>h.cell 3
theorem PBlk.f4 (h:PBlk w M P p):w.cell? ⟨P.pb,4,none⟩ = some (.int .i64 p.version):=h.elim fun _ h=>h.cell 4
theorem PBlk.f5 (h:PBlk w M P p):w.cell? ⟨P.pb,5,none⟩ = some (.int .i64 p.turn):=h.elim fun _ h=>h.cell 5
theorem PBlk.f6 (h:PBlk w M P p):w.cell? ⟨P.pb,6,none⟩ = some (.slice (some ⟨P.ab,0,none⟩) p.count p.count):=h.elim fun _ h=>h.cell 6
theorem PBlk.f7 (h:PBlk w M P p):w.cell? ⟨P.pb,7,none⟩ = some (.slice (some ⟨P.hb,0,none⟩) p.frames p.frames):=h.elim fun _ h=>h.cell 7
theorem PBlk.f8 (h:PBlk w M P p):w.cell? ⟨P.pb,8,none⟩ = some P.fv:=h.elim fun _ h=>h.cell 8
theorem PBlk.f9 (h:PBlk w M P p):∃ fx:Int,w.cell? ⟨P.pb,9,none⟩ = some (.int .i64 fx):=h.elim fun fx h=>⟨fx,h.cell 9⟩
theorem PBlk.frozen (h:PBlk w M P p) (o:Nat):w.frozen? ⟨P.pb,o,none⟩ = false:=h.elim fun _ h=>h.frozen o
theorem PBlk.lt (h:PBlk w M P p):P.pb < w.heap.size:=h.elim fun _ h=>h.lt
end
def alive (m:Mem) (p:PSt):Bool:=!m.off && m.cuts == p.cuts
theorem pAlive_ok {w:World} {M:MemAt} {m:Mem} {P:PAt} {p:PSt} (hR:MemRep w M m) (hb:PBlk w M P p) :
  Calls Tryz.prog 173 #[ptr P.pb] w fun e w'=>e = .returned (.bool (alive m p))∧∃ n,w' = w.drewN n:=by
 have h0:=hb.f0;have h1:=hb.f1;have hPow:=fun n=>quiet_world (Power_ok (hR.drewN n));have hCut:=fun n=>quiet_world (Cuts_ok (hR.drewN n));unfold alive
 have hmade:∀ n,Calls Tryz.prog 235 #[ptr P.pb] (w.drewN n) fun e w'=>e = .returned (.bool true)∧w' = w.drewN n:=by
  intro n;have h0':(w.drewN n).cell? ⟨P.pb,0,none⟩ = some (ptr M.mb):=h0;clear hPow hCut;go_enter Tryz.func235,Tryz.ntmps235;go_wp2;go_ret;exact ⟨rfl,rfl⟩
 refine hid3 ?_ hPow hCut hmade;clear hPow hCut hmade;intro hPow hCut hmade;clear hR hb
 cases ho:m.off
 ·by_cases hc:m.cuts = p.cuts
  ·have hcb:((m.cuts:Int) == (p.cuts:Int)) = true:=by rw [hc];simp
   have hcb2:(m.cuts == p.cuts) = true:=by rw [hc];simp
   generalize m.cuts = c1 at hCut hcb hcb2 ⊢;generalize p.cuts = c2 at h1 hcb hcb2 ⊢;clear hc;rw [ho] at hPow;go_enter Tryz.func173,Tryz.ntmps173;go_wp2_with fail
   go_quiet (first | (go_at_call 235;exact Calls.quiet_of_same (hmade.out _)) | (go_at_call 39;exact Calls.quiet_of_same (hPow.out _)) | (go_at_call 167;exact Calls.quiet_of_same (hCut.out _)))
   go_wp2;go_ret;exact ⟨ret_bool (by rw [hcb2];rfl),nq,rfl⟩
  ·have hcb:((m.cuts:Int) == (p.cuts:Int)) = false:=by simp;omega
   have hcb2:(m.cuts == p.cuts) = false:=by simpa using hc
   generalize m.cuts = c1 at hCut hcb hcb2 ⊢;generalize p.cuts = c2 at h1 hcb hcb2 ⊢;clear hc;rw [ho] at hPow;go_enter Tryz.func173,Tryz.ntmps173;go_wp2_with fail
   go_quiet (first | (go_at_call 235;exact Calls.quiet_of_same (hmade.out _)) | (go_at_call 39;exact Calls.quiet_of_same (hPow.out _)) | (go_at_call 167;exact Calls.quiet_of_same (hCut.out _)))
   go_wp2;go_ret;exact ⟨ret_bool (by rw [hcb2];rfl),nq,rfl⟩
 ·rw [ho] at hPow;generalize m.cuts = c1 at hCut ⊢;generalize p.cuts = c2 at h1 ⊢;go_enter Tryz.func173,Tryz.ntmps173;go_wp2_with fail
  go_quiet (first | (go_at_call 235;exact Calls.quiet_of_same (hmade.out _)) | (go_at_call 39;exact Calls.quiet_of_same (hPow.out _)) | (go_at_call 167;exact Calls.quiet_of_same (hCut.out _)))
  go_wp2;go_ret;exact ⟨ret_bool rfl,nq,rfl⟩
theorem pCount_ok {w:World} {M:MemAt} {P:PAt} {p:PSt} (hb:PBlk w M P p) :
  Calls Tryz.prog 172 #[ptr P.pb] w fun e w'=>e = .returned (.int .i64 p.count)∧w = w':=by
 have h0:=hb.f0;have h2:=hb.f2;generalize p.count = c at h2 ⊢;go_enter Tryz.func172,Tryz.ntmps172;go_wp2;go_ret;exact ⟨rfl,rfl⟩
theorem pAccess_ok {w:World} {M:MemAt} {m:Mem} {P:PAt} {p:PSt} (hR:MemRep w M m) (hb:PBlk w M P p) (i:Int) :
  Calls Tryz.prog 236 #[ptr P.pb,.int .i64 i] w fun e w'=>e = .returned (errno (if alive m p then (if 0≤i∧i < p.count then 0 else 2) else 7))∧∃ n,w' = w.drewN n:=by
 have hA:=pAlive_ok hR hb;have h2:=hb.f2;generalize p.count = c at h2 ⊢;replace hA:=Lib.hid hA;clear hR hb
 cases ha:alive m p
 ·rw [ha] at hA;go_enter Tryz.func236,Tryz.ntmps236
  go_wp2_with (go_at_call 173;refine hA.out.mono ?_;rintro e w1 ⟨rfl,n,rfl⟩)
  go_ret;exact ⟨ret_int (by simp),n,rfl⟩
 ·rw [ha] at hA;by_cases h:0≤i
  ·by_cases h':i < c
   ·go_enter Tryz.func236,Tryz.ntmps236
    go_wp2_with (go_at_call 173;refine hA.out.mono ?_;rintro e w1 ⟨rfl,n,rfl⟩)
    go_ret;exact ⟨ret_int (by simp [h,h']),n,rfl⟩
   ·go_enter Tryz.func236,Tryz.ntmps236
    go_wp2_with (go_at_call 173;refine hA.out.mono ?_;rintro e w1 ⟨rfl,n,rfl⟩)
    go_ret;exact ⟨ret_int (by simp [h,h']),n,rfl⟩
  ·go_enter Tryz.func236,Tryz.ntmps236
   go_wp2_with (go_at_call 173;refine hA.out.mono ?_;rintro e w1 ⟨rfl,n,rfl⟩)
   go_ret;exact ⟨ret_int (by simp [h]),n,rfl⟩
end Go.Proofs.YtanioleniadhoaaGreat
/-
 The pages, in plain numbers: frames, seals, what a page holds, and that a page that is being written is the old or the new one whenever the power is cut.
-/
namespace Go.Proofs.YtanioleniadhoaaGreat
def Mem.D (m:Mem) (a:Nat):Nat:=(Ecc.dec (m.words.getD a 0)).1
def Mem.Good (m:Mem):Prop:=∀ a,a < m.size→(Ecc.dec (m.words.getD a 0)).2 ≠ 2
def upd (D:Nat→Nat) (a v:Nat):Nat→Nat:=fun b=>if b = a then v else D b
theorem Mem.D_lt (m:Mem) (a:Nat):m.D a < 16777216:=Ecc.dec_lt _
theorem Mem.D_put {m:Mem} {a n:Nat} (ha:a < m.size) (hn:n < 16777216):(m.put a (Ecc.enc n)).D = upd m.D a n:=by
 funext b
 unfold Mem.D upd
 show (Ecc.dec ((m.words.set a (Ecc.enc n)).getD b 0)).1 = _
 rw [Mem.getD_set];by_cases h:a = b
 ·subst h;rw [if_pos ⟨rfl,ha⟩,if_pos rfl,Ecc.dec_enc n hn]
 ·rw [if_neg (fun x=>h x.1),if_neg (fun x=>h x.symm)]
theorem Mem.Good_put {m:Mem} (h:m.Good) {a n:Nat} (hn:n < 16777216):(m.put a (Ecc.enc n)).Good:=by
 intro b hb
 show (Ecc.dec ((m.words.set a (Ecc.enc n)).getD b 0)).2 ≠ 2
 rw [Mem.getD_set]
 split
 ·rw [Ecc.dec_enc n hn];exact (by decide:(0:Nat) ≠ 2)
 ·exact h b (by simpa [Mem.put,Mem.size] using hb)
def sealStep (h n:Nat):Nat :=
 let g:=((h ^^^ n) * 3083085 + 79225) % 16777216
 g ^^^ (g / 2048)
def sealFold (l:List Nat):Nat:=l.foldl sealStep 5904323
def sealOf (l:List Nat):Nat:=sealFold l ||| 1
theorem sealStep_lt (h n:Nat):sealStep h n < 16777216:=by
 unfold sealStep;refine Nat.xor_lt_two_pow (n:=24) (Nat.mod_lt _ (by decide)) ?_;exact Nat.lt_of_le_of_lt (Nat.div_le_self _ _) (Nat.mod_lt _ (by decide))
theorem sealFold_lt (l:List Nat):sealFold l < 16777216:=by
 unfold sealFold
 have:∀ (l:List Nat) (h:Nat),h < 16777216→l.foldl sealStep h < 16777216:=by
  intro l
  induction l with
  | nil=>intro h hh;exact hh
  | cons x l ih=>intro h _;exact ih _ (sealStep_lt _ _)
 exact this l _ (by decide)
theorem sealOf_lt (l:List Nat):sealOf l < 16777216:=Nat.or_lt_two_pow (n:=24) (sealFold_lt l) (by decide)
theorem sealOf_pos (l:List Nat):sealOf l ≠ 0:=by
 unfold sealOf;intro h;have:(sealFold l ||| 1).testBit 0 = true:=by rw [Nat.testBit_or];simp
 rw [h] at this;simp at this
def fw (D:Nat→Nat) (f j:Nat):Nat:=D (f * 20 + j)
def fwords (D:Nat→Nat) (f:Nat):List Nat:=(List.range 19).map (fw D f)
def Valid (D:Nat→Nat) (f:Nat):Prop:=fw D f 19 ≠ 0
def fpage (D:Nat→Nat) (f:Nat):Nat:=fw D f 16
def fver (D:Nat→Nat) (f:Nat):Nat:=fw D f 17 * 16777216 + fw D f 18
def bytes3 (n:Nat):List Nat:=[n / 65536 % 256,n / 256 % 256,n % 256]
def unwords (l:List Nat):List Nat:=l.flatMap bytes3
def fdata (D:Nat→Nat) (f:Nat):List Nat:=unwords ((List.range 16).map (fw D f))
structure FrameOk (D:Nat→Nat) (C f:Nat):Prop where
 sok:Valid D f→fw D f 19 = sealOf (fwords D f)
 page:Valid D f→fpage D f < C
structure Top (D:Nat→Nat) (N i f:Nat):Prop where
 lt:f < N
 valid:Valid D f
 page:fpage D f = i
 max:∀ g,g < N→Valid D g→fpage D g = i→fver D g≤fver D f
def NoFrame (D:Nat→Nat) (N i:Nat):Prop:=∀ f,f < N→Valid D f→fpage D f ≠ i
def zeros48:List Nat:=List.replicate 48 0
structure Holds (D:Nat→Nat) (C N W:Nat) (pc:Nat→List Nat):Prop where
 ok:∀ f,f < N→FrameOk D C f
 inj:∀ f g,f < N→g < N→Valid D f→Valid D g→fpage D f = fpage D g→fver D f = fver D g→f = g
 ver:∀ f,f < N→Valid D f→fver D f≤W
 has:∀ i,i < C→(∃ f,Top D N i f∧fdata D f = pc i) ∨ (NoFrame D N i∧pc i = zeros48)
theorem Holds.len {D:Nat→Nat} {C N W:Nat} {pc:Nat→List Nat} (h:Holds D C N W pc) (i:Nat) (hi:i < C):(pc i).length = 48:=by
 rcases h.has i hi with ⟨f,_,e⟩ | ⟨_,e⟩
 ·rw [← e];rfl
 ·rw [e];rfl
theorem Holds.mono {D:Nat→Nat} {C N W W':Nat} {pc:Nat→List Nat} (h:Holds D C N W pc) (hw:W≤W'):Holds D C N W' pc :=
 ⟨h.ok,h.inj,fun f hf hv=>Nat.le_trans (h.ver f hf hv) hw,h.has⟩
def AgreeBut (f:Nat) (D E:Nat→Nat):Prop:=∀ g j,g ≠ f→j < 20→fw E g j = fw D g j
section
variable {f : Nat} {D E : Nat → Nat}
theorem AgreeBut.valid (h:AgreeBut f D E) {g:Nat} (hg:g ≠ f):Valid E g ↔ Valid D g:=by unfold Valid;rw [h g 19 hg (by decide)]
theorem AgreeBut.page (h:AgreeBut f D E) {g:Nat} (hg:g ≠ f):fpage E g = fpage D g:=h g 16 hg (by decide)
theorem AgreeBut.ver (h:AgreeBut f D E) {g:Nat} (hg:g ≠ f):fver E g = fver D g:=by unfold fver;rw [h g 17 hg (by decide),h g 18 hg (by decide)]
theorem AgreeBut.words (h:AgreeBut f D E) {g:Nat} (hg:g ≠ f):fwords E g = fwords D g:=by
 unfold fwords;refine List.map_congr_left fun j hj=>h g j hg ?_;have:=List.mem_range.1 hj;omega
theorem AgreeBut.data (h:AgreeBut f D E) {g:Nat} (hg:g ≠ f):fdata E g = fdata D g:=by
 unfold fdata;congr 1;refine List.map_congr_left fun j hj=>h g j hg ?_;have:=List.mem_range.1 hj;omega
theorem AgreeBut.ok (h:AgreeBut f D E) {g C:Nat} (hg:g ≠ f) (ho:FrameOk D C g):FrameOk E C g :=
 ⟨fun v=>by rw [h g 19 hg (by decide),h.words hg];exact ho.sok ((h.valid hg).1 v),fun v=>by rw [h.page hg];exact ho.page ((h.valid hg).1 v)⟩
theorem agree_upd (D:Nat→Nat) (f j v:Nat) (hj:j < 20):AgreeBut f D (upd D (f * 20 + j) v):=by
 intro g k hg hk;unfold fw upd;rw [if_neg (by omega)]
theorem AgreeBut.refl (f:Nat) (D:Nat→Nat):AgreeBut f D D:=fun _ _ _ _=>rfl
theorem AgreeBut.trans {F:Nat→Nat} (h:AgreeBut f D E) (k:AgreeBut f E F):AgreeBut f D F:=fun g j hg hj=>(k g j hg hj).trans (h g j hg hj)
end
theorem Holds.spoil {D E:Nat→Nat} {C N W:Nat} {pc:Nat→List Nat} {f:Nat} (h:Holds D C N W pc) (ha:AgreeBut f D E) (hv:¬ Valid E f)
  (hfree:∀ i,i < C→∀ g,Top D N i g→g ≠ f):Holds E C N W pc:=by
 have hne:∀ g,Valid E g→g ≠ f:=fun g hg e=>hv (e ▸ hg);refine ⟨fun g hg=>?_,fun g k hg hk vg vk hp he=>?_,fun g hg vg=>?_,fun i hi=>?_⟩
 ·by_cases e:g = f
  ·subst e;exact ⟨fun v=>(hv v).elim,fun v=>(hv v).elim⟩
  ·exact ha.ok e (h.ok g hg)
 ·have eg:=hne g vg;have ek:=hne k vk;exact h.inj g k hg hk ((ha.valid eg).1 vg) ((ha.valid ek).1 vk) (by rw [← ha.page eg,← ha.page ek];exact hp) (by rw [← ha.ver eg,← ha.ver ek];exact he)
 ·have eg:=hne g vg;rw [ha.ver eg];exact h.ver g hg ((ha.valid eg).1 vg)
 ·rcases h.has i hi with ⟨g,tg,e⟩ | ⟨hn,e⟩
  ·have eg:=hfree i hi g tg;refine .inl ⟨g,⟨tg.lt,(ha.valid eg).2 tg.valid,by rw [ha.page eg];exact tg.page,fun k hk vk pk=>?_⟩,by rw [ha.data eg];exact e⟩;have ek:=hne k vk;rw [ha.ver ek,ha.ver eg];exact tg.max k hk ((ha.valid ek).1 vk) (by rw [← ha.page ek];exact pk)
  ·refine .inr ⟨fun k hk vk pk=>?_,e⟩;have ek:=hne k vk;exact hn k hk ((ha.valid ek).1 vk) (by rw [← ha.page ek];exact pk)
theorem Holds.write {D E:Nat→Nat} {C N W V:Nat} {pc:Nat→List Nat} {f i:Nat} {b:List Nat} (h:Holds D C N W pc) (ha:AgreeBut f D E) (hf:f < N) (hi:i < C)
  (hfree:∀ i,i < C→∀ g,Top D N i g→g ≠ f) (hv:Valid E f) (hs:fw E f 19 = sealOf (fwords E f)) (hp:fpage E f = i) (hver:fver E f = V)
  (hV:∀ g,g < N→Valid D g→fver D g < V) (hVW:V≤W) (hd:fdata E f = b) :
  Holds E C N W (fun j=>if j = i then b else pc j)∧Top E N i f:=by
 have hval:∀ g,g ≠ f→(Valid E g ↔ Valid D g):=fun g hg=>ha.valid hg
 have htop:Top E N i f:=⟨hf,hv,hp,fun g hg vg pg=>by
  by_cases e:g = f
  ·subst e;exact Nat.le_refl _
  ·rw [ha.ver e,hver];exact Nat.le_of_lt (hV g hg ((hval g e).1 vg))⟩
 refine ⟨⟨fun g hg=>?_,fun g k hg hk vg vk hpp he=>?_,fun g hg vg=>?_,fun j hj=>?_⟩,htop⟩
 ·by_cases e:g = f
  ·subst e;exact ⟨fun _=>hs,fun _=>by rw [hp];exact hi⟩
  ·exact ha.ok e (h.ok g hg)
 ·by_cases eg:g = f
  ·by_cases ek:k = f
   ·rw [eg,ek]
   ·rw [eg,hver,ha.ver ek] at he;have:=hV k hk ((hval k ek).1 vk);omega
  ·by_cases ek:k = f
   ·rw [ek,hver,ha.ver eg] at he;have:=hV g hg ((hval g eg).1 vg);omega
   ·exact h.inj g k hg hk ((hval g eg).1 vg) ((hval k ek).1 vk) (by rw [← ha.page eg,← ha.page ek];exact hpp) (by rw [← ha.ver eg,← ha.ver ek];exact he)
 ·by_cases eg:g = f
  ·rw [eg,hver];exact hVW
  ·rw [ha.ver eg];exact h.ver g hg ((hval g eg).1 vg)
 ·by_cases ej:j = i
  ·subst ej;exact .inl ⟨f,htop,by simp [hd]⟩
  ·simp only [ej,if_false];rcases h.has j hj with ⟨g,tg,e⟩ | ⟨hn,e⟩
   ·have eg:=hfree j hj g tg;refine .inl ⟨g,⟨tg.lt,(hval g eg).2 tg.valid,by rw [ha.page eg];exact tg.page,fun k hk vk pk=>?_⟩,by rw [ha.data eg];exact e⟩;by_cases ek:k = f
    ·rw [ek,hp] at pk;exact (ej pk.symm).elim
    ·rw [ha.ver ek,ha.ver eg];exact tg.max k hk ((hval k ek).1 vk) (by rw [← ha.page ek];exact pk)
   ·refine .inr ⟨fun k hk vk pk=>?_,e⟩;by_cases ek:k = f
    ·rw [ek,hp] at pk;exact (ej pk.symm).elim
    ·exact hn k hk ((hval k ek).1 vk) (by rw [← ha.page ek];exact pk)
end Go.Proofs.YtanioleniadhoaaGreat
/-
 The pages, in plain numbers, second part: the state of the opened pages, and what place does to it.
-/
namespace Go.Proofs.YtanioleniadhoaaGreat
theorem nodup_le:∀ (l1 l2:List Nat),l1.Nodup→(∀ x,x ∈ l1→x ∈ l2)→l1.length≤l2.length
 | [],l2,_,_=>Nat.zero_le _
 | x :: l1,l2,hn,hs=>by
  obtain ⟨h1,h2⟩:=List.nodup_cons.1 hn;have hx:x ∈ l2:=hs x (List.mem_cons_self ..);have:=nodup_le l1 (l2.erase x) h2 (fun y hy=>(List.mem_erase_of_ne (by intro e;subst e;exact h1 hy)).2 (hs y (List.mem_cons_of_mem _ hy)));rw [List.length_erase_of_mem hx] at this;have hp:0 < l2.length:=List.length_pos_of_mem hx;simp only [List.length_cons];omega
theorem getD_setI (l:List Int) (a b:Nat) (v:Int):(l.set a v).getD b 0 = if a = b∧a < l.length then v else l.getD b 0:=by
 simp only [gd0,List.getElem?_set];by_cases h:a = b
 ·subst h;by_cases h2:a < l.length <;> simp [h2]
 ·simp [h]
structure PInv (D:Nat→Nat) (p:PSt) (W:Nat) (pc:Nat→List Nat):Prop where
 h:Holds D p.count p.frames W pc
 at_:∀ i,i < p.count→(p.at_.getD i 0 = -1∧NoFrame D p.frames i) ∨ ∃ f:Nat,p.at_.getD i 0 = f∧Top D p.frames i f
 holds:∀ f,f < p.frames→(p.holds.getD f 0 = -1∧∀ i,i < p.count→p.at_.getD i 0 ≠ f) ∨ ∃ i:Nat,i < p.count∧p.holds.getD f 0 = i∧p.at_.getD i 0 = f
 nodup:p.freed.Nodup
 free:∀ f,f ∈ p.freed ↔ f < p.frames∧p.holds.getD f 0 = -1
 ver:∀ f,f < p.frames→Valid D f→fver D f≤p.version
 verW:p.version≤W
 turn:p.turn < p.frames
 al:p.at_.length = p.count
 hl:p.holds.length = p.frames
 cf:p.count < p.frames
theorem Holds.top_unique {D:Nat→Nat} {C N W:Nat} {pc:Nat→List Nat} (h:Holds D C N W pc) {i f g:Nat} (hf:Top D N i f) (hg:Top D N i g):f = g :=
 h.inj f g hf.lt hg.lt hf.valid hg.valid (hf.page.trans hg.page.symm) (Nat.le_antisymm (hg.max f hf.lt hf.valid hf.page) (hf.max g hg.lt hg.valid hg.page))
section
variable {D : Nat → Nat} {p : PSt} {W : Nat} {pc : Nat → List Nat}
theorem PInv.at_top (h:PInv D p W pc) {i g:Nat} (hi:i < p.count) (ht:Top D p.frames i g):p.at_.getD i 0 = (g:Int):=by
 rcases h.at_ i hi with ⟨_,hn⟩ | ⟨f,e,tf⟩
 ·exact (hn g ht.lt ht.valid ht.page).elim
 ·rw [e,h.h.top_unique tf ht]
theorem PInv.free_top (h:PInv D p W pc) {f:Nat} (hf:f ∈ p.freed):∀ i,i < p.count→∀ g,Top D p.frames i g→g ≠ f:=by
 intro i hi g tg e;subst e;obtain ⟨h1,h2⟩:=(h.free g).1 hf;rcases h.holds g h1 with ⟨_,h3⟩ | ⟨j,_,h4,_⟩
 ·exact h3 i hi (h.at_top hi tg)
 ·rw [h4] at h2;omega
theorem PInv.freed_ne (h:PInv D p W pc):∃ f rest,p.freed = f :: rest:=by
 cases hf:p.freed with
 | cons f rest=>exact ⟨f,rest,rfl⟩
 | nil =>
  exfalso
  have:(List.range p.frames).length≤((List.range p.count).map fun i=>(p.at_.getD i 0).toNat).length:=by
   refine nodup_le _ _ List.nodup_range fun f hfm=>?_;have hfl:=List.mem_range.1 hfm;rcases h.holds f hfl with ⟨h1,_⟩ | ⟨i,hi,_,h3⟩
   ·have:=(h.free f).2 ⟨hfl,h1⟩;rw [hf] at this
    cases this
   ·exact List.mem_map.2 ⟨i,List.mem_range.2 hi,by rw [h3];simp⟩
  have hcf:=h.cf;simp at this;omega
end
def PSt.placed (p:PSt) (i f:Nat) (rest:List Nat):PSt :=
 { p with version:=p.version + 1,freed:=if p.at_.getD i 0 = -1 then rest else rest ++ [(p.at_.getD i 0).toNat],at_:=p.at_.set i f,holds:=(if p.at_.getD i 0 = -1 then p.holds else p.holds.set (p.at_.getD i 0).toNat (-1)).set f i }
def setPage (pc:Nat→List Nat) (i:Nat) (b:List Nat):Nat→List Nat:=fun j=>if j = i then b else pc j
theorem PInv.placed {D E:Nat→Nat} {p:PSt} {W W':Nat} {pc:Nat→List Nat} {f i:Nat} {rest b:List Nat} (h:PInv D p W pc) (hfr:p.freed = f :: rest) (hi:i < p.count)
  (ha:AgreeBut f D E) (hv:Valid E f) (hs:fw E f 19 = sealOf (fwords E f)) (hp:fpage E f = i) (hver:fver E f = p.version + 1) (hd:fdata E f = b) (hW:W≤W') (hV:p.version + 1≤W') :
  PInv E (p.placed i f rest) W' (setPage pc i b):=by
 have hfm:f ∈ p.freed:=by rw [hfr];exact List.mem_cons_self ..
 obtain ⟨hfN,hfh⟩:=(h.free f).1 hfm;have hfree:=h.free_top hfm;have hnd:=h.nodup;rw [hfr] at hnd;obtain ⟨hfr1,hfr2⟩:=List.nodup_cons.1 hnd;obtain ⟨hH,hT⟩:=(h.h.mono hW).write ha hfN hi hfree hv hs hp hver (fun g hg vg=>Nat.lt_succ_of_le (h.ver g hg vg)) hV hd;have hlt:i < p.at_.length:=by rw [h.al];exact hi
 have hat:∀ j,(p.at_.set i (f:Int)).getD j 0 = if j = i then (f:Int) else p.at_.getD j 0:=by
  intro j;rw [getD_setI];by_cases e:i = j
  ·rw [if_pos ⟨e,hlt⟩,if_pos e.symm]
  ·rw [if_neg (fun x=>e x.1),if_neg (fun x=>e x.symm)]
 have hatf:∀ j,j < p.count→p.at_.getD j 0 ≠ (f:Int):=by
  rcases h.holds f hfN with ⟨_,h3⟩ | ⟨j,_,h4,_⟩
  ·exact h3
  ·rw [h4] at hfh;omega
 -- the frame that page i had
 have hold:p.at_.getD i 0 = -1 ∨ ∃ o:Nat,p.at_.getD i 0 = o∧o < p.frames∧o ≠ f∧p.holds.getD o 0 = i∧(∀ j,j < p.count→p.at_.getD j 0 = (o:Int)→j = i):=by
  rcases h.at_ i hi with ⟨e,_⟩ | ⟨o,e,to⟩
  ·exact .inl e
  ·refine .inr ⟨o,e,to.lt,hfree i hi o to,?_,fun j hj ej=>?_⟩
   ·rcases h.holds o to.lt with ⟨_,h3⟩ | ⟨j,hj,h4,h5⟩
    ·exact (h3 i hi e).elim
    ·rcases h.at_ j hj with ⟨e2,_⟩ | ⟨o2,e2,to2⟩
     ·rw [e2] at h5;omega
     ·have:o2 = o:=by rw [e2] at h5;omega
      subst this;rw [h4,← to2.page,to.page]
   ·rcases h.at_ j hj with ⟨e2,_⟩ | ⟨o2,e2,to2⟩
    ·rw [e2] at ej;omega
    ·have:o2 = o:=by rw [e2] at ej;omega
     subst this;rw [← to2.page,to.page]
 have hhl:f < p.holds.length:=by rw [h.hl];exact hfN
 have hho:∀ g,((if p.at_.getD i 0 = -1 then p.holds else p.holds.set (p.at_.getD i 0).toNat (-1)).set f (i:Int)).getD g 0 =
   if g = f then (i:Int) else if p.at_.getD i 0 = (g:Int) then -1 else p.holds.getD g 0:=by
  intro g;rw [getD_setI];by_cases e:f = g
  ·rw [if_pos ⟨e,by split <;> simp [hhl]⟩,if_pos e.symm]
  ·rw [if_neg (fun x=>e x.1),if_neg (show ¬ g = f from fun x=>e x.symm)];rcases hold with e1 | ⟨o,e1,ho,_⟩
   ·rw [if_pos e1,e1,if_neg (by omega)]
   ·rw [if_neg (by omega),getD_setI,e1];by_cases eo:(o:Int) = (g:Int)
    ·rw [if_pos eo,if_pos ⟨by omega,by rw [h.hl];omega⟩]
    ·rw [if_neg eo,if_neg (fun x=>eo (by have:=x.1;omega))]
 have hkeep:∀ j,j ≠ i→∀ g,g ≠ f→Top D p.frames j g→Top E p.frames j g:=by
  intro j hj g hg tg;refine ⟨tg.lt,(ha.valid hg).2 tg.valid,by rw [ha.page hg];exact tg.page,fun k hk vk pk=>?_⟩;by_cases ek:k = f
  ·rw [ek,hp] at pk;exact (hj pk.symm).elim
  ·rw [ha.ver ek,ha.ver hg];exact tg.max k hk ((ha.valid ek).1 vk) (by rw [← ha.page ek];exact pk)
 refine ⟨hH,fun j hj=>?_,fun g hg=>?_,?_,fun g=>?_,fun g hg vg=>?_,hV,h.turn,by simp [PSt.placed,h.al],?_,h.cf⟩
 ·show ((p.at_.set i (f:Int)).getD j 0 = -1∧_) ∨ ∃ g:Nat,(p.at_.set i (f:Int)).getD j 0 = g∧_
  rw [hat j];by_cases ej:j = i
  ·rw [if_pos ej];exact .inr ⟨f,rfl,ej ▸ hT⟩
  ·rw [if_neg ej];rcases h.at_ j hj with ⟨e1,hn⟩ | ⟨g,e1,tg⟩
   ·refine .inl ⟨e1,fun k hk vk pk=>?_⟩;by_cases ek:k = f
    ·rw [ek,hp] at pk;exact ej pk.symm
    ·exact hn k hk ((ha.valid ek).1 vk) (by rw [← ha.page ek];exact pk)
   ·exact .inr ⟨g,e1,hkeep j ej g (hfree j hj g tg) tg⟩
 ·show (((if p.at_.getD i 0 = -1 then p.holds else p.holds.set (p.at_.getD i 0).toNat (-1)).set f (i:Int)).getD g 0 = -1∧∀ j,j < p.count→(p.at_.set i (f:Int)).getD j 0 ≠ (g:Int)) ∨
   ∃ j:Nat,j < p.count∧((if p.at_.getD i 0 = -1 then p.holds else p.holds.set (p.at_.getD i 0).toNat (-1)).set f (i:Int)).getD g 0 = j∧(p.at_.set i (f:Int)).getD j 0 = (g:Int)
  rw [hho g];by_cases eg:g = f
  ·rw [if_pos eg];exact .inr ⟨i,hi,rfl,by rw [hat i,if_pos rfl,eg]⟩
  ·rw [if_neg eg];by_cases eo:p.at_.getD i 0 = (g:Int)
   ·rw [if_pos eo];refine .inl ⟨rfl,fun j hj=>?_⟩;rw [hat j];by_cases ej:j = i
    ·rw [if_pos ej];omega
    ·rw [if_neg ej];intro e2;rcases hold with e1 | ⟨o,e1,_,_,_,hu⟩
     ·omega
     ·exact ej (hu j hj (by rw [e2];omega))
   ·rw [if_neg eo];rcases h.holds g hg with ⟨e1,hn⟩ | ⟨j,hj,e1,e2⟩
    ·refine .inl ⟨e1,fun j hj=>?_⟩;rw [hat j];by_cases ej:j = i
     ·rw [if_pos ej];omega
     ·rw [if_neg ej];exact hn j hj
    ·refine .inr ⟨j,hj,e1,?_⟩;rw [hat j,if_neg (show ¬ j = i from fun ej=>eo (by rw [← ej];exact e2))];exact e2
 ·show (if p.at_.getD i 0 = -1 then rest else rest ++ [(p.at_.getD i 0).toNat]).Nodup
  rcases hold with e1 | ⟨o,e1,ho,hof,hoh,_⟩
  ·rw [if_pos e1];exact hfr2
  ·rw [if_neg (by omega),e1];refine List.nodup_append.2 ⟨hfr2,by simp,fun a ha b hb=>?_⟩;have hb':b = o:=by simpa using hb
   rintro rfl;have:=(h.free a).1 (by rw [hfr];exact List.mem_cons_of_mem _ ha);rw [hb',hoh] at this;omega
 ·show g ∈ (if p.at_.getD i 0 = -1 then rest else rest ++ [(p.at_.getD i 0).toNat]) ↔ g < p.frames∧((if p.at_.getD i 0 = -1 then p.holds else p.holds.set (p.at_.getD i 0).toNat (-1)).set f (i:Int)).getD g 0 = -1
  rw [hho g]
  have hmr:g ∈ rest ↔ g ≠ f∧g < p.frames∧p.holds.getD g 0 = -1:=by
   rw [← h.free g,hfr,List.mem_cons]
   constructor
   ·intro hg;exact ⟨fun e=>hfr1 (e ▸ hg),.inr hg⟩
   ·rintro ⟨h1,h2 | h2⟩
    ·exact (h1 h2).elim
    ·exact h2
  rcases hold with e1 | ⟨o,e1,ho,hof,hoh,_⟩
  ·rw [if_pos e1,hmr];by_cases eg:g = f
   ·rw [if_pos eg];constructor
    ·intro x;exact (x.1 eg).elim
    ·intro x;omega
   ·rw [if_neg eg,if_neg (by omega)];exact ⟨fun x=>x.2,fun x=>⟨eg,x⟩⟩
  ·rw [if_neg (by omega),List.mem_append,hmr,e1];by_cases eg:g = f
   ·rw [if_pos eg];constructor
    ·rintro (x | x)
     ·exact (x.1 eg).elim
     ·have:g = o:=by simpa using x
      omega
    ·intro x;omega
   ·rw [if_neg eg];by_cases eo:g = o
    ·rw [if_pos (by omega)];exact ⟨fun _=>⟨by omega,rfl⟩,fun _=>.inr (by simp [eo])⟩
    ·rw [if_neg (by omega)]
     constructor
     ·rintro (x | x)
      ·exact x.2
      ·have:g = o:=by simpa using x
       exact (eo this).elim
     ·intro x;exact .inl ⟨eg,x⟩
 ·show fver E g≤p.version + 1
  by_cases eg:g = f
  ·rw [eg,hver];exact Nat.le_refl _
  ·rw [ha.ver eg];exact Nat.le_succ_of_le (h.ver g hg ((ha.valid eg).1 vg))
 ·show ((if p.at_.getD i 0 = -1 then p.holds else p.holds.set (p.at_.getD i 0).toNat (-1)).set f (i:Int)).length = p.frames
  split <;> simp [h.hl]
end Go.Proofs.YtanioleniadhoaaGreat
/-
 What place writes, in plain numbers: the words of a page, and the memory after each write.
-/
namespace Go.Proofs.YtanioleniadhoaaGreat
def wordAt (b:List Nat) (j:Nat):Nat:=b.getD (3 * j) 0 * 65536 + b.getD (3 * j + 1) 0 * 256 + b.getD (3 * j + 2) 0
def toWords (b:List Nat):List Nat:=(List.range 16).map (wordAt b)
def Bytes (b:List Nat):Prop:=∀ k,b.getD k 0 < 256
theorem wordAt_lt {b:List Nat} (h:Bytes b) (j:Nat):wordAt b j < 16777216:=by
 unfold wordAt;have h1:=h (3 * j);have h2:=h (3 * j + 1);have h3:=h (3 * j + 2);omega
theorem bytes3_wordAt {b:List Nat} (h:Bytes b) (j:Nat):bytes3 (wordAt b j) = [b.getD (3 * j) 0,b.getD (3 * j + 1) 0,b.getD (3 * j + 2) 0]:=by
 unfold bytes3 wordAt;have h1:=h (3 * j);have h2:=h (3 * j + 1);have h3:=h (3 * j + 2)
 congr 1
 ·omega
 congr 1
 ·omega
 congr 1
 omega
theorem unwords_toWords {b:List Nat} (h:Bytes b) (hl:b.length = 48):unwords (toWords b) = b:=by
 have key:∀ n,n≤16→unwords ((List.range n).map (wordAt b)) = b.take (3 * n):=by
  intro n
  induction n with
  | zero=>intro _;rfl
  | succ n ih =>
   intro hn;rw [List.range_succ,List.map_append,List.map_singleton];have e:unwords ((List.range n).map (wordAt b) ++ [wordAt b n]) = unwords ((List.range n).map (wordAt b)) ++ bytes3 (wordAt b n):=by simp [unwords]
   rw [e,ih (by omega),bytes3_wordAt h]
   have t1:b.take (3 * (n + 1)) = b.take (3 * n + 2) ++ [b.getD (3 * n + 2) 0]:=by
    rw [show 3 * (n + 1) = (3 * n + 2) + 1 by omega,List.take_add_one,List.getElem?_eq_getElem (by omega),gd0,List.getElem?_eq_getElem (by omega)];rfl
   have t2:b.take (3 * n + 2) = b.take (3 * n + 1) ++ [b.getD (3 * n + 1) 0]:=by
    rw [show 3 * n + 2 = (3 * n + 1) + 1 by omega,List.take_add_one,List.getElem?_eq_getElem (by omega),gd0,List.getElem?_eq_getElem (by omega)];rfl
   have t3:b.take (3 * n + 1) = b.take (3 * n) ++ [b.getD (3 * n) 0]:=by
    rw [List.take_add_one,List.getElem?_eq_getElem (by omega),gd0,List.getElem?_eq_getElem (by omega)];rfl
   rw [t1,t2,t3];simp
 have:=key 16 (Nat.le_refl _);rw [show (3 * 16) = b.length by omega,List.take_length] at this;exact this
def frameWords (b:List Nat) (i v:Nat):List Nat:=toWords b ++ [i,v / 16777216,v % 16777216]
def allWords (ws:List Nat):List Nat:=0 :: ws ++ [sealOf ws]
theorem toWords_len (b:List Nat):(toWords b).length = 16:=by simp [toWords]
theorem frameWords_len (b:List Nat) (i v:Nat):(frameWords b i v).length = 19:=by simp [frameWords,toWords_len]
theorem frameWords_lt {b:List Nat} {i v:Nat} (h:Bytes b) (hi:i < 16777216) (hv:v < 281474976710656):∀ k,(frameWords b i v).getD k 0 < 16777216:=by
 intro k;unfold frameWords;rw [gd0,List.getElem?_append]
 split
 ·rename_i hk
  have hk:k < 16:=by simpa [toWords_len] using hk
  simp [toWords,hk];exact wordAt_lt h k
 ·rename_i hk
  rw [toWords_len] at hk ⊢;have:k - 16 = 0 ∨ k - 16 = 1 ∨ k - 16 = 2 ∨ 3≤k - 16:=by omega
  rcases this with e | e | e | e
  ·rw [e];simpa using hi
  ·rw [e];simp;omega
  ·rw [e];simp;omega
  ·rw [List.getElem?_eq_none (by simpa using e)];simp
theorem getD_mid (a s:Nat) (l:List Nat) (k B:Nat) (ha:a < B) (hs:s < B) (h0:0 < B) (hl:∀ k,l.getD k 0 < B):(a :: l ++ [s]).getD k 0 < B:=by
 cases k with
 | zero=>exact ha
 | succ k =>
  rw [List.cons_append,List.getD_cons_succ,gd0,List.getElem?_append]
  split
  ·rw [← gd0];exact hl k
  ·by_cases e:k - l.length = 0
   ·rw [e];exact hs
   ·rw [List.getElem?_eq_none (by rw [List.length_singleton];omega)];exact h0
theorem allWords_lt {b:List Nat} {i v:Nat} (h:Bytes b) (hi:i < 16777216) (hv:v < 281474976710656):∀ k,(allWords (frameWords b i v)).getD k 0 < 16777216:=fun k =>
 getD_mid 0 (sealOf (frameWords b i v)) (frameWords b i v) k 16777216 (by omega) (sealOf_lt _) (by omega) (frameWords_lt h hi hv)
def wAddr (f k:Nat):Nat:=if k = 0 then f * 20 + 19 else f * 20 + (k - 1)
def partD (D:Nat→Nat) (f:Nat) (all:List Nat):Nat→Nat→Nat
 | 0=>D
 | k + 1=>upd (partD D f all k) (wAddr f k) (all.getD k 0)
theorem wAddr_succ (f k:Nat):wAddr f (k + 1) = f * 20 + k:=by simp [wAddr]
theorem part_agree (D:Nat→Nat) (f:Nat) (all:List Nat):∀ k,k≤21→AgreeBut f D (partD D f all k)
 | 0,_=>AgreeBut.refl f D
 | k + 1,hk=>by
  refine (part_agree D f all k (by omega)).trans ?_;unfold partD wAddr
  split
  ·exact agree_upd _ _ _ _ (by omega)
  ·exact agree_upd _ _ _ _ (by omega)
theorem part_seal (D:Nat→Nat) (f:Nat) (all:List Nat) (h0:all.getD 0 0 = 0):∀ k,1≤k→k≤20→fw (partD D f all k) f 19 = 0
 | 0,h,_=>by omega
 | 1,_,_=>by
  show upd D (f * 20 + 19) (all.getD 0 0) (f * 20 + 19) = 0
  unfold upd;rw [if_pos rfl];exact h0
 | k + 2,_,h=>by
  have ih:=part_seal D f all h0 (k + 1) (by omega) (by omega)
  show upd (partD D f all (k + 1)) (wAddr f (k + 1)) (all.getD (k + 1) 0) (f * 20 + 19) = 0
  rw [wAddr_succ];unfold upd;rw [if_neg (by omega)];exact ih
theorem part_word (D:Nat→Nat) (f:Nat) (all:List Nat) (j:Nat):∀ k,k≤21→j + 1 < k→j < 19→fw (partD D f all k) f j = all.getD (j + 1) 0
 | 0,_,h,_=>by omega
 | k + 1,hk,h,hj=>by
  show upd (partD D f all k) (wAddr f k) (all.getD k 0) (f * 20 + j) = _
  by_cases e:k = j + 1
  ·subst e;rw [wAddr_succ];unfold upd;rw [if_pos rfl]
  ·obtain ⟨q,rfl⟩:∃ q,k = q + 1:=⟨k - 1,by omega⟩;rw [wAddr_succ];unfold upd;rw [if_neg (by omega)];exact part_word D f all j (q + 1) (by omega) (by omega) hj
theorem part_last (D:Nat→Nat) (f:Nat) (all:List Nat):fw (partD D f all 21) f 19 = all.getD 20 0:=by
 show fw (upd (partD D f all 20) (wAddr f 20) (all.getD 20 0)) f 19 = _
 rw [wAddr_succ];unfold fw upd;rw [if_pos rfl]
theorem part_fwords (D:Nat→Nat) (f:Nat) (ws:List Nat) (hl:ws.length = 19):fwords (partD D f (allWords ws) 21) f = ws:=by
 have key:∀ j,j < 19→fw (partD D f (allWords ws) 21) f j = ws.getD j 0:=by
  intro j hj;rw [part_word D f (allWords ws) j 21 (by omega) (by omega) hj];unfold allWords;rw [List.cons_append,List.getD_cons_succ,gd0,List.getElem?_append_left (by omega),gd0]
 apply List.ext_getElem?
 intro j;unfold fwords;by_cases hj:j < 19
 ·rw [List.getElem?_map,List.getElem?_range (by omega),Option.map_some,key j hj,gd0,List.getElem?_eq_getElem (by omega)];rfl
 ·rw [List.getElem?_eq_none (by simp;omega),List.getElem?_eq_none (by omega)]
theorem part_seal_last (D:Nat→Nat) (f:Nat) (ws:List Nat) (hl:ws.length = 19):fw (partD D f (allWords ws) 21) f 19 = sealOf ws:=by
 rw [part_last];unfold allWords;rw [List.cons_append,List.getD_cons_succ,gd0,List.getElem?_append_right (by omega),hl];rfl
theorem part_done (D:Nat→Nat) (f:Nat) {b:List Nat} (hb:Bytes b) (hbl:b.length = 48) (i v:Nat) :
  Valid (partD D f (allWords (frameWords b i v)) 21) f∧fw (partD D f (allWords (frameWords b i v)) 21) f 19 = sealOf (fwords (partD D f (allWords (frameWords b i v)) 21) f) ∧
  fpage (partD D f (allWords (frameWords b i v)) 21) f = i∧fver (partD D f (allWords (frameWords b i v)) 21) f = v∧fdata (partD D f (allWords (frameWords b i v)) 21) f = b:=by
 have hl:=frameWords_len b i v;have hw:=part_fwords D f _ hl;have hs:=part_seal_last D f _ hl
 have key:∀ j,j < 19→fw (partD D f (allWords (frameWords b i v)) 21) f j = (frameWords b i v).getD j 0:=by
  intro j hj
  have:(fwords (partD D f (allWords (frameWords b i v)) 21) f).getD j 0 = fw (partD D f (allWords (frameWords b i v)) 21) f j:=by
   simp [fwords,gd0,hj]
  rw [← this,hw]
 refine ⟨by unfold Valid;rw [hs];exact sealOf_pos _,by rw [hs,hw],?_,?_,?_⟩
 ·unfold fpage;rw [key 16 (by omega)];simp [frameWords,gd0,toWords_len]
 ·unfold fver;rw [key 17 (by omega),key 18 (by omega)];simp [frameWords,gd0,toWords_len];omega
 ·unfold fdata
  have:(List.range 16).map (fw (partD D f (allWords (frameWords b i v)) 21) f) = toWords b:=by
   unfold toWords;refine List.map_congr_left fun j hj=>?_;have hj:=List.mem_range.1 hj;rw [key j (by omega)];unfold frameWords;rw [gd0,List.getElem?_append_left (by rw [toWords_len];exact hj)];simp [toWords,hj]
  rw [this];exact unwords_toWords hb hbl
end Go.Proofs.YtanioleniadhoaaGreat
