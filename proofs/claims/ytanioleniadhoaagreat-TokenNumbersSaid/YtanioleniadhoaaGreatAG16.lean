/-
  append(b, make([]byte, k)...), whether or not there is room.
-/
import Derived.Test.YtanioleniadhoaaGreatAG15
import Derived.Test.YtanioleniadhoaaGreatAG13
set_option linter.unusedVariables false
set_option linter.unusedSimpArgs false
set_option maxHeartbeats 8000000
set_option maxRecDepth 100000
namespace Go.Proofs.YtanioleniadhoaaGreat
open Go.RowKit
theorem append_zeros_u8 {w:World} {base n k:Nat} {v:Value} {xs:List Value} (hown:w.ownsRow base 5 1 v n xs) (hn:0 < n) (hk:0 < k) (hle:n + k≤1099511627776) (hbase:base≤w.heap.size) (ty:TypeId) :
  ∃ g cap w',(Builtin.append_ #[22,3] ty #[v,.int .i64 k]).run Tryz.prog w = .ok (.slice (some ⟨g,0,none⟩) (n + k) cap) w'∧w'.ownsRow base 5 1 (.slice (some ⟨g,0,none⟩) (n + k) cap) (n + k) (xs ++ List.replicate k (.int .u8 0))∧Mod (Above base) w w':=by
 obtain ⟨i0,hi0,hz0,hz1,hz2⟩:=info_parts info_u8;have hl:=hown.1;rw [Nat.mul_one] at hl;rcases hown.2 with ⟨_,h0⟩ | ⟨g,cap,cur,rfl,hbg,hg,hnc,hcm,hcs,htake⟩
 ·omega
 ·rw [Nat.mul_one] at hcs htake;by_cases hroom:n + k≤cap
  ·have hst:=run_storeCells_at Tryz.prog g n 5 (List.replicate k (.int .u8 0)) 0 cur w hg (by simp;omega) (by intro u hu;rw [List.eq_of_mem_replicate hu];rfl);simp only [Nat.add_zero,List.length_replicate] at hst;have hw:IntKind.i64.wrap (k:Int) = k:=by rw [IntKind.wrap_i64];omega
   have hneg:¬ ((k:Int) < 0):=by omega
   have h48i:¬ (281474976710656 < (k:Int) * (i0.bytes:Int)):=by rw [hz2];omega
   have hk0:k ≠ 0:=by omega
   refine ⟨g,cap,w.setRow g (cur.toList.take n ++ List.replicate k (Value.int .u8 0) ++ cur.toList.drop (n + k)).toArray,?_,?_,?_⟩
   ·simp [Builtin.append_,run_underlying Tryz.underlying22,run_underlying Tryz.underlying3,sizeOf,typeInfo,zeroValue,hi0,hz0,hz1,asInt,asIntOf,hw,hneg,h48i,hroom,hk0,Value.cells,Addr.add_lit,zeroCells_u8,u8s_rep,hst]
   ·refine ⟨by simp [hl],.inr ⟨g,cap,_,rfl,hbg,setRow_heap w g cur _ 5 _ hg,hroom,hcm,?_,?_⟩⟩
    ·simp;omega
    ·rw [htake,Nat.mul_one];exact List.take_left' (by simp [hl])
   ·exact (Mod.refl _ w).setRow (fun _=>hbg) _
  ·have hold:(Builtin.firstCells i0.size n (.slice (some ⟨g,0,none⟩) n cap)).run Tryz.prog w.drew = .ok xs.toArray w.drew:=by
    rw [hz1];refine run_firstCells_some _ 1 n _ n cap _ (by simp [hl]) (fun j u hj=>?_);have:=hown.cells (g:=g) rfl j u hj;simpa using this
   have hnx:Builtin.nextslicecap (n + k) cap * i0.bytes≤281474976710656:=by
    rw [hz2];exact growslice_fits (need:=n + k) (old:=cap) (bytes:=1) (by omega) (by omega)
   have hrun:=Lib.run_append_grow_zeros (P:=Tryz.prog) w 22 3 ty 5 i0 (.int .u8 0) .i64 .i64 Tryz.underlying22 Tryz.underlying3 hi0 hz0 (some ⟨g,0,none⟩) n cap xs hold k hk (by omega) (by omega) (by omega) (by rw [hz2];omega) hnx;have hge:=grownCap_ge w (n + k) cap 5;have hcm':=grownCap_le_maxLen w (n + k) cap 5 (by unfold maxLen;omega);refine ⟨_,_,_,hrun,⟨by simp [hl],.inr ⟨_,_,_,rfl,hbase,heap_alloc_new w.drew _,hge,hcm',?_,?_⟩⟩,?_⟩
   ·simp only [Array.size_append,List.size_toArray,size_zeroCells,Value.cells,hl]
    simp;omega
   ·simp only [Value.cells,zeroCells_u8,u8s_rep,List.append_toArray,List.append_assoc];rw [← List.append_assoc,Nat.mul_one];exact List.take_left' (by simp [hl])
   ·exact ((Mod.refl _ w).drew).alloc _
end Go.Proofs.YtanioleniadhoaaGreat
/-
 The vault: writing.
-/
namespace Go.Proofs.YtanioleniadhoaaGreat
open Go.RowKit
open Jn Vn
attribute [local go_sem] Oper.semAt_some
theorem jpost_vault {w w':World} {A:VAt} {m:Mem} {P:PAt} {p:PSt} {pc:PC} {n:Nat} {Qok Qd:PC→Prop} {e:Ending} (h:JPost w A.jb A.M m P p n Qok Qd e w') (hj:Jr w A.jb A.M m P p pc) (hO:A.Of P p) :
  (∃ m' P' p' k pc',e = .returned (errno 0)∧Jr w' A.jb A.M m' P' p' pc'∧A.Of P' p'∧k≤n∧Runs m m' k∧Qok pc'∧Mod A.J w w') ∨
  (∃ m' P' p' pc2,e = .returned (errno 7)∧MemRep w' A.M m'∧PRep w' A.M P' p'∧A.Of P' p'∧Blk w' A.jb [ptr A.pb] 255∧Stopped m m' n∧Holds m'.D A.count A.frames m'.writes pc2∧Qd pc2∧Mod A.J w w'):=by
 rcases h with ⟨m',P',p',k,pc',e1,a1,a2,a3,a4,a5,a6,a7,a8,a9,a10,a11⟩ | ⟨m',P',p',pc2,e1,b1,b2,b3,b4,b5,b6,b7,b8,b9,b10,b11,b12⟩
 ·exact .inl ⟨m',P',p',k,pc',e1,a1,hO.after a2 a3 a4 a5 a6 a7,a8,a9,a10,hO.J ▸ a11⟩
 ·refine .inr ⟨m',P',p',pc2,e1,b1,b2,hO.after b3 b4 b5 b6 b7 b8,?_,b9,by rw [← hO.count,← hO.frames];exact b10,b11,hO.J ▸ b12⟩;have:=hj.bj.mod b12 hj.jn;rw [hO.pb] at this;exact this
theorem Jr.vset {w w':World} {A:VAt} {m:Mem} {P:PAt} {p:PSt} {pc:PC} {cs:List Value} (h:Jr w A.jb A.M m P p pc) (hO:A.Of P p) (hbv:Blk w A.vb cs 162) (hm:Mod (fun k=>k = A.vb) w w'):Jr w' A.jb A.M m P p pc:=by
 have hsh:∀ T,T ≠ 162→Shun (fun k=>k = A.vb) w T:=fun T hT k e cs' hb=>by
  have e:k = A.vb:=e;subst e;exact hT (hb.inj hbv).2
 have hj:∀ k,(k = A.jb ∨ P.S k ∨ A.M.S k)→¬ k = A.vb:=by
  rintro k (e | e) ev
  ·rw [ev] at e;have hb:=h.bj;rw [← e] at hb;exact absurd (hb.inj hbv).2 (by decide)
  ·have hJ:A.J k:=by rw [← hO.J];exact e
   rw [ev] at hJ;exact JR.shunJ (T:=162) h hO (by decide) _ hJ _ hbv
 exact h.keep hm hj (h.pg.rep.bf.off (hsh _ (by decide)))
def WrtPost (w:World) (A:VAt) (m:Mem) (f f':Items) (b1 e1 n ib:Nat) (act:Bool) (lv:Value) (e:Ending) (w':World):Prop :=
 (∃ m' P' p' pc' J' k,e = .returned (errno 0)∧Jr w' A.jb A.M m' P' p' pc'∧A.Of P' p'∧Still A.count pc' J'∧Banks A.Z J' f' b1 e1∧k≤n∧Runs m m' k∧Blk w' A.vb (vCells A b1 e1 ib act lv) 162∧Mod A.S w w') ∨
 (∃ m' g,e = .returned (errno 7)∧(g = f ∨ g = f')∧VDead w' A m' g∧Stopped m m' n∧Mod A.S w w')
theorem WrtPost.errno {w w':World} {A:VAt} {m:Mem} {f f':Items} {b1 e1 n ib:Nat} {act:Bool} {lv:Value} {e:Ending} (h:WrtPost w A m f f' b1 e1 n ib act lv e w'):∃ n:Int,e = .returned (errno n):=by
 rcases h with ⟨_,_,_,_,_,_,e,_⟩ | ⟨_,_,e,_⟩ <;> exact ⟨_,e⟩
theorem bank_le {Z b0:Nat} (h:b0≤1) (hZ:8≤Z):b0 * bs Z + bs Z≤Z - 8:=by
 have:bs Z * 2≤Z - 8:=Nat.div_mul_le_self _ _;rcases (by omega:b0 = 0 ∨ b0 = 1) with e | e <;> subst e <;> omega
theorem chSl_one {w:World} {v:Value} {o:Nat} {d:List Nat} (hd:DSl (w.alloc (.cells #[.int .i64 o,v] 292)) v d):ChSl (w.alloc (.cells #[.int .i64 o,v] 292)) (.slice (some ⟨w.heap.size,0,none⟩) 1 1) [(v,(o,d))] :=
 ⟨⟨rfl,.inr ⟨w.heap.size,0,1,_,rfl,Blk.new w [.int .i64 o,v] 292,Nat.le_refl _,by unfold maxLen;decide,Nat.le_refl _,rfl⟩⟩,fun x hx=>by
  have e:=List.mem_singleton.1 hx
  subst e;exact hd⟩
structure Wr (w wr:World) (A:VAt) (m:Mem) (J:Nat→Nat) (bank end_ b0 e0:Nat) (b:List Nat) (k j:Nat) (m1:Mem) (P1:PAt) (p1:PSt) (pc1:PC) (J1:Nat→Nat):Prop where
 jr:Jr wr A.jb A.M m1 P1 p1 pc1
 of:A.Of P1 p1
 st:Still A.count pc1 J1
 ms:Mk A.Z J J1 bank end_ b0 e0 b k
 jl:j≤(k / 1000) * 63924
 k0:k % 1000 = 0
 runs:Runs m m1 j
 md:Mod A.J w wr
theorem vdead_of {w:World} {A:VAt} {m m0:Mem} {P:PAt} {p:PSt} {pc2:PC} {J:Nat→Nat} {f:Items} {bank end_ n ib:Nat} {act:Bool} {lv:Value} {b' e':Nat} (h1:MemRep w A.M m) (h2:PRep w A.M P p) (h3:A.Of P p) (h4:Blk w A.jb [ptr A.pb] 255) (h5:Stopped m0 m n) (h6:Holds m.D A.count A.frames m.writes pc2) (h7:Holdsj A.count pc2 J) (h8:Banks A.Z J f bank end_) (h9:Blk w A.vb (vCells A b' e' ib act lv) 162):VDead w A m f :=
 ⟨⟨P,p,pc2,J,bank,end_,h2,h3,h6,h7,h8⟩,h1,h4,⟨b',e',ib,act,lv,h9⟩,.inl h5.off⟩
theorem puts_fin (J1:Nat→Nat) (O:Nat) (R hd:List Nat) (h8:hd.length = 8) (o:Nat):puts J1 [(O,R),(0,hd)] o = if o < 8 then hd.getD o 0 else if O≤o∧o < O + R.length then R.getD (o - O) 0 else J1 o:=by
 show put1 (put1 J1 (O,R)) (0,hd) o = _
 unfold put1;simp only [Nat.zero_le,Nat.zero_add,true_and,Nat.sub_zero,h8]
theorem puts_hd (J1:Nat→Nat) (hd:List Nat) (h8:hd.length = 8) (o:Nat):puts J1 [(0,hd)] o = if o < 8 then hd.getD o 0 else J1 o:=by
 show put1 J1 (0,hd) o = _
 unfold put1;simp only [Nat.zero_le,Nat.zero_add,true_and,Nat.sub_zero,h8]
theorem getD_drop (b:List Nat) (k i:Nat):(b.drop k).getD i 0 = b.getD (k + i) 0:=by
 simp [gd0,List.getElem?_drop]
section
variable {w wr W w' : World} {A : VAt} {m : Mem} {J : Nat → Nat} {bank end_ b0 e0 : Nat} {b : List Nat} {k j : Nat} {m1 : Mem} {P1 : PAt} {p1 : PSt} {pc1 : PC} {J1 J2 : Nat → Nat} {f f' : Items} {ib n : Nat} {act : Bool} {lv : Value} {e : Ending}
theorem wr_apply (hW:Wr w wr A m J bank end_ b0 e0 b k j m1 P1 p1 pc1 J1) (hm:Mod Nowhere wr W) {vx:Value} {xs:List Cx} (hch:ChSl W vx xs) (hok:∀ c ∈ chs xs,ChOk A.Z c) (hws:wsum (chs xs)≤1024) (hrm:Room m1 63924) :
  Calls Tryz.prog 228 #[ptr A.jb,vx] W (JPost W A.jb A.M m1 P1 p1 63924 (fun x=>Still A.count x (puts J1 (chs xs))) (fun x=>Still A.count x J1 ∨ Due A.count x (puts J1 (chs xs)) (chs xs))):=by
 have hJW:=hW.jr.fresh hm (fun _ _=>id);have hshW:∀ T,(T ≠ 246∧T ≠ 3∧T ≠ 165∧T ≠ 315)→Shun (fun k=>P1.S k ∨ A.M.S k) W T:=fun T hT=>by rw [hW.of.J];exact JR.shunJ hJW hW.of hT
 have hZe:(A.count - 32) * 48 = A.Z:=rfl;have h:=jApply_ok hJW (by rw [hW.of.count];exact hW.st) hch (hch.sl.off (hshW _ (by decide))) (fun x hx=>(hch.data x hx).off (hshW _ (by decide))) (by rw [hW.of.count,hZe];exact hok) hws hrm;rw [hW.of.count] at h;exact h
theorem wr_post {L:List Ch} (hpost:JPost W A.jb A.M m1 P1 p1 63924 (fun x=>Still A.count x J2) (fun x=>Still A.count x J1 ∨ Due A.count x J2 L) e w') (hW:Wr w wr A m J bank end_ b0 e0 b k j m1 P1 p1 pc1 J1) (hm:Mod Nowhere wr W)
  (hB:Banks A.Z J f bank end_) (hb2:Banks A.Z J2 f' b0 (e0 + n)) (hbv:Blk wr A.vb (vCells A bank end_ ib act lv) 162) (hvJ:¬ A.J A.vb) (hk:k≤n) :
  (e = .returned (errno 0)∧Blk w' A.vb (vCells A bank end_ ib act lv) 162∧∀ x:Int,x = (e0 + n:Nat)→WrtPost w A m f f' b0 (e0 + n) ((n / 1000 + 1) * 63924) ib act lv (.returned (errno 0)) ((w'.setCell ⟨A.vb,1,none⟩ (.int .i64 b0)).setCell ⟨A.vb,2,none⟩ (.int .i64 x))) ∨
  (e = .returned (errno 7)∧WrtPost w A m f f' b0 (e0 + n) ((n / 1000 + 1) * 63924) ib act lv (.returned (errno 7)) w'):=by
 have hjl:=hW.jl;rcases jpost_vault hpost (hW.jr.fresh hm (fun _ _=>id)) hW.of with ⟨m2,P2,p2,kk,pc2,e1,a1,a2,a3,a4,a5,a6⟩ | ⟨m2,P2,p2,pc2,e1,b1,b2,b3,b4,b5,b6,b7,b8⟩
 ·have hb':=(hbv.mod hm id).mod a6 hvJ;refine .inl ⟨e1,hb',fun x hx=>?_⟩;subst hx;have hms:Mod (fun k=>k = A.vb) w' ((w'.setCell ⟨A.vb,1,none⟩ (.int .i64 b0)).setCell ⟨A.vb,2,none⟩ (.int .i64 ((e0 + n:Nat):Int))):=((Mod.refl (fun k=>k = A.vb) w').setCell (p:=⟨A.vb,1,none⟩) (fun _=>rfl) _).setCell (p:=⟨A.vb,2,none⟩) (fun _=>rfl) _;refine .inl ⟨m2,P2,p2,pc2,J2,j + kk,rfl,a1.vset a2 hb' hms,a2,a5,hb2,by omega,hW.runs.trans a4,((hb'.setCell 1 _).setCell 2 _).conv rfl,?_⟩;exact (((hW.md.trans hm.nowhere).trans a6).mono fun _ _ h=>.inr h).trans (hms.mono fun _ _ h=>.inl h)
 ·have hb':=(hbv.mod hm id).mod b8 hvJ;have hmm:Mod A.S w w':=((hW.md.trans hm.nowhere).trans b8).mono fun _ _ h=>.inr h;refine .inr ⟨e1,?_⟩;rcases b7 with h | h
  ·exact .inr ⟨m2,f,rfl,.inl rfl,vdead_of b1 b2 b3 b4 b5 b6 (.inl h) (hW.ms.banks hB) hb',hW.runs.stopped b5 (by omega),hmm⟩
  ·exact .inr ⟨m2,f',rfl,.inr rfl,vdead_of b1 b2 b3 b4 b5 b6 (.inr ⟨_,h⟩) hb2 hb',hW.runs.stopped b5 (by omega),hmm⟩
end
theorem vWrite_ok {w:World} {A:VAt} {m:Mem} {P:PAt} {p:PSt} {pc:PC} {J:Nat→Nat} {bank end_ b0 e0 ib:Nat} {act:Bool} {lv vv:Value} {b:List Nat} {l':List Rec} {f f':Items}
  (hj:Jr w A.jb A.M m P p pc) (hO:A.Of P p) (hst:Still A.count pc J) (hB:Banks A.Z J f bank end_) (hbv:Blk w A.vb (vCells A bank end_ ib act lv) 162) (hF:Free A.Z bank end_ b0 e0 b.length)
  (hb:b = encRs l') (hok:∀ r ∈ l',ROk r) (hf:f' = sets (if b0 = bank then f else none_) l') (hw:wt f'≤A.Z / 2) (hsl:DSl w vv b) (hrm:Room m ((b.length / 1000 + 1) * 63924)) :
  Calls Tryz.prog 165 #[ptr A.vb,.int .i64 b0,.int .i64 e0,vv] w (WrtPost w A m f f' b0 (e0 + b.length) ((b.length / 1000 + 1) * 63924) ib act lv):=by
 have h33:33≤A.count:=by have:=hj.c33;rw [hO.count] at this;exact this
 have h16:A.count≤65536:=by have:=hj.pg.rep.c16;rw [hO.count] at this;exact this
 have hZ1:48≤A.Z:=by unfold VAt.Z;omega
 have hZ2:A.Z≤3145728:=by unfold VAt.Z;omega
 have hZe:(A.count - 32) * 48 = A.Z:=rfl;have hstub:VStub w A m P p:=⟨hbv.cell 0,hj.jblk,hj.pg.ctx.mem⟩;have hStart:=vStart_ok hstub hO h33 h16 b0 hF.one';have hshJ:Shun A.J w 5:=JR.shunJ hj hO (by decide);have hvJ:¬ A.J A.vb:=fun e=>JR.shunJ (T:=162) hj hO (by decide) _ e _ hbv;have hjJ:¬ A.J A.jb:=fun e=>JR.shunJ (T:=255) hj hO (by decide) _ e _ hj.bj;have hbl:=bank_le (Z:=A.Z) hF.one' (by omega);have hfit:=hF.fit;have hbytes:Bytes b:=by rw [hb];exact encRs_bytes l' hok
 have hlt:∀ k,A.J k→k < w.heap.size:=fun k hk=>by
  obtain ⟨cs,T,hc⟩:=JR.cells hj hO k hk;exact hc.lt
 have hone:=hF.one';obtain ⟨va,vc,rfl,hv1,hv2,-⟩:=Sl.gen hsl;obtain ⟨n,hn⟩:∃ n,b.length = n:=⟨_,rfl⟩;have hrun0:Runs m m 0:=hj.runs;have hbs:bs A.Z≤1572864:=by unfold bs;omega
 rw [hn] at hsl hrm hfit hv1 ⊢;obtain ⟨S0,hS0⟩:∃ S0,8 + b0 * bs A.Z = S0:=⟨_,rfl⟩;rw [hS0] at hStart;have hS1:S0 + e0 + n≤A.Z:=by omega
 have h0:Wr w w A m J bank end_ b0 e0 b 0 0 m P p pc J:=⟨hj,hO,hst,Mk.start _ _ _ _ _ _ _,Nat.le_refl _,rfl,hrun0,Mod.refl _ _⟩;refine hid12 ?_ h0 hStart hj hO hst hB hbv hF hb hok hf hw;clear h0 hStart hj hO hst hB hbv hF hb hok hf hw;intro h0 hStart hj hO hst hB hbv hF hb hok hf hw;refine hid8 ?_ hsl hn hS0 hrm hbytes hshJ hlt hZe;clear hsl hn hS0 hrm hbytes hshJ hlt hZe;intro hsl hn hS0 hrm hbytes hshJ hlt hZe;clear hstub hrun0;go_enter Tryz.func165,Tryz.ntmps165
 go_wp2_with (go_at_call 227;refine hStart.out.mono ?_;rintro e w1 ⟨rfl,rfl⟩)
 go_loopg [9,2,3] n (fun gg o en bv wr=>∃ (k j:Nat) (m1:Mem) (P1:PAt) (p1:PSt) (pc1:PC) (J1:Nat→Nat) (a:Option Addr) (c:Nat),gg + k = n∧k≤n∧o = .int .i64 (S0 + e0 + k:Nat)∧en = .int .i64 (e0 + k:Nat)∧bv = .slice a (n - k) c∧n - k≤c∧c≤maxLen∧Sl w (.slice a (n - k) c) 5 1 (n - k) (u8s (b.drop k))∧Wr w wr A m J bank end_ b0 e0 b k j m1 P1 p1 pc1 J1)
 case atStart=>exact ⟨0,0,m,P,p,pc,J,va,vc,by omega,by omega,by go_num,by go_num,rfl,hv1,hv2,by have h:=hsl.out;rw [DSl,hn.out] at h;exact h,h0.out⟩
 case round =>
  obtain ⟨k,j,m1,P1,p1,pc1,J1,a,c,hgg,hkn,rfl,rfl,rfl,hc1,hc2,hsk,hW⟩:=hrel;by_cases hlt:1000 < n - k
  ·obtain ⟨bb,bo,c',e0',hbl',_,_,_,_⟩:=hsk.open (by omega);obtain ⟨rfl,rfl⟩:a = some ⟨bb,bo,none⟩∧c = c':=by simp at e0';exact e0'
   have hbvw:=hbv.out.mod hW.md hvJ;have hc0:wr.cell? ⟨A.vb,0,none⟩ = some (ptr A.jb):=hbvw.cell 0;have hvl:=hbvw.lt;have hup:=fun W=>run_upto (P:=Tryz.prog) (t:=22) Tryz.underlying22 info_u8 bb bo (n - k) c 1000 (by omega) W;rw [show ((1000:Nat):Int) = 1000 from rfl] at hup;have hD:=hsk.upto 1000 c (by omega) (by omega) (Nat.le_refl _);rw [u8s_take] at hD;obtain ⟨o',hr',hT⟩:=hsk.from_ (t:=22) Tryz.underlying22 info_u8 1000 (by omega);rw [show ((1000:Nat):Int) = 1000 from rfl] at hr';rw [u8s_drop,List.drop_drop] at hT;have hkk:n - k - 1000 = n - (k + 1000):=by omega
   rw [hkk] at hr' hT;have hpc:=hW.ms.piece (q:=1000) hF.out (by rw [hn.out];omega);rw [hS0.out] at hpc;obtain ⟨Pc,hPc⟩:∃ Pc,(b.drop k).take 1000 = Pc:=⟨_,rfl⟩;have hPl:Pc.length = 1000:=by rw [← hPc,List.length_take,List.length_drop,hn.out];omega
   have hPb:Bytes Pc:=by rw [← hPc];exact bytes_take (bytes_drop hbytes.out k) 1000
   rw [hPc] at hD hpc;obtain ⟨O,hOe⟩:∃ O,S0 + e0 + k = O:=⟨_,rfl⟩;rw [hOe] at hpc ⊢;have hOf:O + 1000≤A.Z:=by omega
   obtain ⟨r,hr⟩:∃ r,n - k = r:=⟨_,rfl⟩;rw [hr] at hup hr' hc1 hlt hsk ⊢;obtain ⟨E,hE⟩:∃ E,e0 + k = E:=⟨_,rfl⟩;rw [hE];have hEb:E≤4000000:=by omega
   have hli:(1000:Int) < (r:Int):=by omega
   have hmW:Mod Nowhere wr (wr.alloc (.cells #[.int .i64 O,.slice (some ⟨bb,bo,none⟩) 1000 c] 292)).drew:=((Mod.refl _ wr).alloc _).drew
   have hch:ChSl (wr.alloc (.cells #[.int .i64 O,.slice (some ⟨bb,bo,none⟩) 1000 c] 292)).drew (.slice (some ⟨wr.heap.size,0,none⟩) 1 1) [(.slice (some ⟨bb,bo,none⟩) 1000 c,(O,Pc))] :=
    (chSl_one (DSl.mod (w:=w) (by rw [DSl,hPl];exact hD) (hW.md.alloc _) hshJ.out)).fresh ((Mod.refl Nowhere _).drew)
   have hJW:=hW.jr.fresh hmW (fun _ _=>id);have hshW:∀ T,(T ≠ 246∧T ≠ 3∧T ≠ 165∧T ≠ 315)→Shun (fun k=>P1.S k ∨ A.M.S k) (wr.alloc (.cells #[.int .i64 O,.slice (some ⟨bb,bo,none⟩) 1000 c] 292)).drew T:=fun T hT=>by rw [hW.of.J];exact JR.shunJ hJW hW.of hT
   have hAp:=jApply_ok hJW (by rw [hW.of.count];exact hW.st) hch (hch.sl.off (hshW _ (by decide))) (fun x hx=>(hch.data x hx).off (hshW _ (by decide)))
    (by
     intro ch hc;have e:=List.mem_singleton.1 hc;subst e
     exact ⟨by rw [hW.of.count,hZe.out];show O + Pc.length≤A.Z;omega,hPb⟩)
    (by show wsum [(O,Pc)]≤1024;simp [wsum,hPl]) (hrm.out.runs hW.runs (by have:=hW.jl;omega))
   clear hJW hshW hch;refine hid12 ?_ hAp hpc hW hD hT hsk hbvw hPc hOe hE hr hmW;clear hAp hpc hW hD hT hsk hbvw hPc hOe hE hr hmW;intro hAp hpc hW hD hT hsk hbvw hPc hOe hE hr hmW;refine hid2 ?_ hPl hkk;clear hPl hkk;intro hPl hkk;go_wp2
   go_region_held3 (fun w'=>w'.cell? ⟨A.vb,0,none⟩ = some (ptr A.jb)) (simp [*,World.cell?_alloc_some,World.cell?_setCell_far,World.cell?_setCell_other])
    (first | (go_at_call 228;(with_reducible refine hAp.out.mono ?_);rintro e w6 hpost;obtain ⟨ne,rfl⟩:=hpost.errno;have hpv:=jpost_vault hpost (hW.out.jr.fresh hmW.out (fun _ _=>id)) hW.out.of;have hbv6:Blk w6 A.vb (vCells A bank end_ ib act lv) 162:=(hbvw.out.mod hmW.out id).mod (by rcases hpv with ⟨_,_,_,_,_,_,_,_,_,_,_,h⟩ | ⟨_,_,_,_,_,_,_,_,_,_,_,_,h⟩ <;> exact h) hvJ;have kb6:w6.cell? ⟨A.vb,0,none⟩ = some (ptr A.jb):=hbv6.cell 0;replace hpv:=Lib.hid hpv;replace hbv6:=Lib.hid hbv6;clear hpost))
   rcases hpv.out with ⟨m2,P2,p2,kk,pc2,e1,a1,a2,a3,a4,a5,a6⟩ | ⟨m2,P2,p2,pc2,e1,b1,b2,b3,b4,b5,b6,b7,b8⟩
   ·obtain rfl:ne = 0:=by simpa [errno] using e1
    have hW2:Wr w w6 A m J bank end_ b0 e0 b (k + 1000) (j + kk) m2 P2 p2 pc2 (puts J1 [(O,Pc)]) :=
     ⟨a1,a2,by rw [← hW.out.of.count];exact a5,hpc.out,by have:=hW.out.jl;omega,by have:=hW.out.k0;omega,hW.out.runs.trans a4,(hW.out.md.trans hmW.out.nowhere).trans a6⟩
    replace hW2:=Lib.hid hW2;clear a1 a2 a3 a4 a5 a6 hpv;go_wp2
    go_roundg (n - (k + 1000))
    case measure=>have:=hr.out;omega
    case rel=>exact ⟨k + 1000,j + kk,m2,P2,p2,pc2,_,some ⟨bb,o',none⟩,c - 1000,by have:=hr.out;omega,by have:=hr.out;omega,by rw [← hOe.out];go_num,by rw [← hE.out];go_num,rfl,by have:=hr.out;omega,by omega,hT.out,hW2.out⟩
   ·obtain rfl:ne = 7:=by simpa [errno] using e1
    have hfin:WrtPost w A m f f' b0 (e0 + n) ((n / 1000 + 1) * 63924) ib act lv (.returned (errno 7)) w6:=by
     have hmm:Mod A.S w w6:=((hW.out.md.trans hmW.out.nowhere).trans b8).mono fun _ _ h=>.inr h;have hjl:=hW.out.jl;have hcc:=hW.out.of.count;rw [hcc] at b7;refine .inr ⟨m2,f,rfl,.inl rfl,?_,hW.out.runs.stopped b5 (by omega),hmm⟩;rcases b7 with h | h
     ·exact vdead_of b1 b2 b3 b4 b5 b6 (.inl h) (hW.out.ms.banks hB.out) hbv6.out
     ·exact vdead_of b1 b2 b3 b4 b5 b6 (.inr ⟨_,h⟩) (hpc.out.banks hB.out) hbv6.out
    replace hfin:=Lib.hid hfin;clear b1 b2 b3 b4 b5 b6 b7 b8 hpv;go_wp2;go_ret;exact hfin.out
  ·have hbvw:=hbv.out.mod hW.md hvJ;have hc0:wr.cell? ⟨A.vb,0,none⟩ = some (ptr A.jb):=hbvw.cell 0;have hvl:=hbvw.lt;obtain ⟨r,hr⟩:∃ r,n - k = r:=⟨_,rfl⟩;obtain ⟨E,hE⟩:∃ E,e0 + k = E:=⟨_,rfl⟩;obtain ⟨O,hOe⟩:∃ O,S0 + e0 + k = O:=⟨_,rfl⟩;have hnr:k + r = n:=by omega
   rw [hr] at hlt hc1 hsk ⊢;rw [hE,hOe];have hEr:E + r = e0 + n:=by omega
   have hEb:E≤4000000:=by omega
   have hrb:r≤1000:=by omega
   have hli:¬ (1000:Int) < (r:Int):=by omega
   have hOf:O + r≤A.Z:=by omega
   have hRl:(b.drop k).length = r:=by rw [List.length_drop,hn.out];omega
   obtain ⟨R,hR⟩:∃ R,b.drop k = R:=⟨_,rfl⟩;rw [hR] at hRl hsk;have hRb:Bytes R:=by rw [← hR];exact bytes_drop hbytes.out k
   have hb256:(b0:Int) % 256 = (b0:Int):=by omega
   have hB4:∀ W,Calls Tryz.prog 225 #[.int .i64 ((E:Int) + (r:Int)),.int .i64 4] W fun e w'=>e = .returned (.slice (some ⟨W.heap.size,0,none⟩) 4 4)∧Blk w' W.heap.size (u8s (be 4 (e0 + n))) 5∧Mod Nowhere W w':=fun W=>by
    rw [← hEr,show (E:Int) + (r:Int) = ((E + r:Nat):Int) by omega];exact vbytesOf_ok (E + r) 4 (by omega) (by omega) (by omega)
   have hhd:u8s (hdB b0 (e0 + n)) = ([.int .u8 (b0:Int)] ++ u8s (be 4 (e0 + n))) ++ List.replicate 3 (.int .u8 0):=by
    unfold hdB;rw [u8s_append,u8s_append,u8s_rep,List.append_assoc];rfl
   have hl4:(u8s (be 4 (e0 + n))).length = 4:=by simp [u8s,be_len]
   have hone4:=one_u8 (be 4 (e0 + n));have hhl:=hdB_len b0 (e0 + n);have hhb:Bytes (hdB b0 (e0 + n)):=bytes_append (bytes_mem.2 (by simp;omega)) (bytes_append (be_bytes _ _) (bytes_zeros 3));generalize u8s (be 4 (e0 + n)) = L4 at *;obtain ⟨i0,hi0,hz0,hz1,hz2⟩:=info_parts info_u8;obtain ⟨i1,hi1,hz3,hz4,hz5⟩:=info_parts info_chg;have hbnew:=Blk.new wr [.int .u8 (b0:Int)] 5;have hmW:Mod Nowhere wr (wr.alloc (.cells #[.int .u8 (b0:Int)] 5)):=(Mod.refl _ wr).alloc _;have hsz0:(wr.alloc (.cells #[.int .u8 (b0:Int)] 5)).heap.size = wr.heap.size + 1:=by simp
   refine hid12 ?_ hB4 hhd hW hsk hbvw hr hE hOe hR hRl hRb hl4;clear hB4 hhd hW hsk hbvw hr hE hOe hR hRl hRb hl4;intro hB4 hhd hW hsk hbvw hr hE hOe hR hRl hRb hl4;refine hid7 ?_ hhl hhb hbnew hmW hsz0 hEr hnr;clear hhl hhb hbnew hmW hsz0 hEr hnr;intro hhl hhb hbnew hmW hsz0 hEr hnr;go_wp2_with fail;refine (hB4.out _).mono ?_;rintro e w2 ⟨rfl,hb2,hm2⟩;rw [hsz0.out] at hb2;have hown2:=owns_blk (n:=1) (base:=wr.heap.size) (hbnew.out.mod hm2 id) (Nat.le_refl _) (rfl:[Value.int .u8 (b0:Int)].length = 1) (by unfold maxLen;omega);have hsrc2:=blk_src hb2;have hsz2:wr.heap.size + 1≤w2.heap.size:=by have:=hm2.size;rw [hsz0.out] at this;exact this
   have hm02:=hmW.out.trans hm2;replace hm02:=Lib.hid hm02;clear hm2 hb2;by_cases h0:0 < r
   ·have h0i:(0:Int) < (r:Int):=by omega
    go_wp2_with (first
     | (at_builtin;have _t:=hown2;go_loud (refine wpList_append_lies _ rfl _ _ 22 rfl wr.heap.size 5 i0 (.int .u8 0) 1 1 Tryz.underlying22 hi0 hz0 hz1 hz2 rfl (by decide) _ 1 _ (by rfl) hown2 ⟨wr.heap.size + 1,0,none⟩ 4 4 L4 (by rfl) hl4.out hsrc2 hone4 (by decide) (by unfold maxLen;omega) (by omega) (by omega) _ rfl ?_;intro g3 cap3 w3 hown3 hgrow3 hat3 hlt3;have hm03:Mod Nowhere wr w3:=hm02.out.step ((Mod.refl (Above wr.heap.size) _).app hown2 hgrow3) (fun i hi e=>by have e:wr.heap.size≤i:=e;omega);have hsz3:wr.heap.size + 1≤w3.heap.size:=(by have:=hgrow3.size;omega);clear hgrow3 hat3 hown2 hsrc2;obtain ⟨g4,cap4,w4,hrz,hown4,hm4⟩:=append_zeros_u8 hown3 (by omega) (k:=3) (by omega) (by omega) (by omega) 22;rw [show ((3:Nat):Int) = 3 from rfl] at hrz;have hm04:Mod Nowhere wr w4:=hm03.step hm4 (fun i hi e=>by have e:wr.heap.size≤i:=e;omega);have hsz4:wr.heap.size + 1≤w4.heap.size:=(by have:=hm4.size;omega);have kb4:w4.cell? ⟨A.vb,0,none⟩ = some (ptr A.jb):=(hm04.cell (p:=⟨A.vb,0,none⟩) hvl id).trans hc0;have hv4:A.vb < w4.heap.size:=(by omega);have hownL:((w4.alloc (.cells #[.int .i64 0,.slice (some ⟨g4,0,none⟩) 8 cap4] 292)).alloc (.cells #[.int .i64 O,.slice a r c] 292)).ownsRow (w4.heap.size + 1) 292 2 (.slice (some ⟨w4.heap.size + 1,0,none⟩) 1 1) 1 [.int .i64 O,.slice a r c]:=⟨rfl,.inr ⟨w4.heap.size + 1,1,#[.int .i64 O,.slice a r c],rfl,Nat.le_refl _,(by have h:=heap_alloc_new (w4.alloc (.cells #[.int .i64 0,.slice (some ⟨g4,0,none⟩) 8 cap4] 292)) (.cells #[.int .i64 O,.slice a r c] 292);simpa using h),Nat.le_refl _,by unfold maxLen;decide,rfl,rfl⟩⟩;have hsrcL:=blk_src ((Blk.new w4 [.int .i64 0,.slice (some ⟨g4,0,none⟩) 8 cap4] 292).alloc (.cells #[.int .i64 O,.slice a r c] 292));replace hm04:=Lib.hid hm04;replace hown4:=Lib.hid hown4;clear hown3 hm03 hm4))
     | (at_builtin;have _t:=hrz;refine Lib.wpList_append_run _ rfl (.tmp 50) (.tmp 53) _ _ rfl _ _ (by rfl) (by rfl) _ _ hrz ?_;clear hrz)
     | (at_builtin;have _t:=hownL;go_loud (refine wpList_append_lies _ rfl (.tmp 64) (.tmp 65) 293 rfl (w4.heap.size + 1) 292 i1 (.agg #[.int .i64 0,.slice none 0 0]) 2 32 Tryz.underlying293 hi1 hz3 hz4 hz5 rfl (by decide) _ 1 _ (by rfl) hownL ⟨w4.heap.size,0,none⟩ 1 1 [.int .i64 0,.slice (some ⟨g4,0,none⟩) 8 cap4] (by rfl) rfl hsrcL (by simp [Value.oneCell']) (by decide) (by unfold maxLen;omega) (by omega) (by simp) _ rfl ?_;intro g5 cap5 w5 hown5 hgrow5 hat5 hlt5;have hm45:Mod Nowhere w4 w5:=(((Mod.refl Nowhere w4).alloc _).alloc _).step ((Mod.refl (Above (w4.heap.size + 1)) _).app hownL hgrow5) (fun i hi e=>by have e:w4.heap.size + 1≤i:=e;omega);have kb5:w5.cell? ⟨A.vb,0,none⟩ = some (ptr A.jb):=(hm45.cell (p:=⟨A.vb,0,none⟩) hv4 id).trans kb4;replace hm45:=Lib.hid hm45;replace hown5:=Lib.hid hown5;clear hownL hsrcL hgrow5 hat5)))
    have hdH:DSl w4 (.slice (some ⟨g4,0,none⟩) 8 cap4) (hdB b0 (e0 + n)):=by
     have h:=Sl.of_owns hown4.out;rw [← hhd.out] at h;rw [DSl,hhl.out];exact h
    have hm05:Mod Nowhere wr w5:=hm04.out.trans hm45.out;have hdR:DSl w5 (.slice a r c) R:=(DSl.mod (w:=w) (by rw [DSl,hRl.out];exact hsk.out) hW.out.md hshJ.out).fresh hm05
    have hch:ChSl w5 (.slice (some ⟨g5,0,none⟩) 2 cap5) [(.slice a r c,(O,R)),(.slice (some ⟨g4,0,none⟩) 8 cap4,(0,hdB b0 (e0 + n)))] :=
     ⟨Sl.of_owns hown5.out,fun x hx=>by
      simp only [List.mem_cons,List.not_mem_nil,or_false] at hx;rcases hx with rfl | rfl
      ·exact hdR
      ·exact hdH.fresh hm45.out⟩
    clear hdR hdH
    refine (wr_apply hW.out hm05 hch
     (by
      intro ch hc;simp only [chs,List.map_cons,List.map_nil,List.mem_cons,List.not_mem_nil,or_false] at hc;rcases hc with rfl | rfl
      ·exact ⟨by show O + R.length≤A.Z;have:=hRl.out;omega,hRb.out⟩
      ·exact ⟨by show 0 + (hdB b0 (e0 + n)).length≤A.Z;have:=hhl.out;omega,hhb.out⟩)
     (by simp [chs,wsum,hhl.out,hRl.out];try omega) (hrm.out.runs hW.out.runs (by have:=hW.out.jl;omega))).mono ?_
    rintro e w6 hpost
    have hbk:Banks A.Z (puts J1 (chs [(.slice a r c,(O,R)),(.slice (some ⟨g4,0,none⟩) 8 cap4,(0,hdB b0 (e0 + n)))])) f' b0 (e0 + n):=by
     have hd:=hW.out.ms.done hF.out (by omega) (J':=puts J1 (chs [(.slice a r c,(O,R)),(.slice (some ⟨g4,0,none⟩) 8 cap4,(0,hdB b0 (e0 + n)))])) (by
      intro o
      show puts J1 [(O,R),(0,hdB b0 (e0 + n))] o = _
      rw [puts_fin _ _ _ _ hhl.out,hRl.out,hS0.out,hn.out,← hR.out,← hOe.out];have e1:=hnr.out;have e2:S0 + e0 + k + r = S0 + e0 + n:=by omega
      rw [e2]
      split
      ·rfl
      ·split
       ·rename_i h1 h2
        rw [getD_drop,show k + (o - (S0 + e0 + k)) = o - (S0 + e0) by omega]
       ·rfl) hB.out hb.out hok.out hf.out hw.out
     rw [hn.out] at hd;exact hd
    rcases wr_post hpost hW.out hm05 hB.out hbk hbvw.out hvJ (by omega) with ⟨rfl,hb6,hq⟩ | ⟨rfl,hq⟩
    ·have q1:w6.cell? ⟨A.vb,1,none⟩ = some (.int .i64 bank):=hb6.cell 1;have q2:w6.cell? ⟨A.vb,2,none⟩ = some (.int .i64 end_):=hb6.cell 2;have qf:=hb6.frozen;have ql:=hb6.lt;have hq2:=hq ((E:Int) + (r:Int)) (by have:=hEr.out;omega);replace hq2:=Lib.hid hq2;clear hpost hbk hq hb6;go_wp2;go_ret;exact hq2.out
    ·replace hq:=Lib.hid hq;clear hpost hbk;go_wp2;go_ret;exact hq.out
   ·have h0i:¬ (0:Int) < (r:Int):=by omega
    go_wp2_with (first
     | (at_builtin;have _t:=hown2;go_loud (refine wpList_append_lies _ rfl _ _ 22 rfl wr.heap.size 5 i0 (.int .u8 0) 1 1 Tryz.underlying22 hi0 hz0 hz1 hz2 rfl (by decide) _ 1 _ (by rfl) hown2 ⟨wr.heap.size + 1,0,none⟩ 4 4 L4 (by rfl) hl4.out hsrc2 hone4 (by decide) (by unfold maxLen;omega) (by omega) (by omega) _ rfl ?_;intro g3 cap3 w3 hown3 hgrow3 hat3 hlt3;have hm03:Mod Nowhere wr w3:=hm02.out.step ((Mod.refl (Above wr.heap.size) _).app hown2 hgrow3) (fun i hi e=>by have e:wr.heap.size≤i:=e;omega);have hsz3:wr.heap.size + 1≤w3.heap.size:=(by have:=hgrow3.size;omega);clear hgrow3 hat3 hown2 hsrc2;obtain ⟨g4,cap4,w4,hrz,hown4,hm4⟩:=append_zeros_u8 hown3 (by omega) (k:=3) (by omega) (by omega) (by omega) 22;rw [show ((3:Nat):Int) = 3 from rfl] at hrz;have hm04:Mod Nowhere wr w4:=hm03.step hm4 (fun i hi e=>by have e:wr.heap.size≤i:=e;omega);have hsz4:wr.heap.size + 1≤w4.heap.size:=(by have:=hm4.size;omega);have kb4:w4.cell? ⟨A.vb,0,none⟩ = some (ptr A.jb):=(hm04.cell (p:=⟨A.vb,0,none⟩) hvl id).trans hc0;have hv4:A.vb < w4.heap.size:=(by omega);replace hm04:=Lib.hid hm04;replace hown4:=Lib.hid hown4;clear hown3 hm03 hm4))
     | (at_builtin;have _t:=hrz;refine Lib.wpList_append_run _ rfl (.tmp 50) (.tmp 53) _ _ rfl _ _ (by rfl) (by rfl) _ _ hrz ?_;clear hrz))
    have hdH:DSl w4 (.slice (some ⟨g4,0,none⟩) 8 cap4) (hdB b0 (e0 + n)):=by
     have h:=Sl.of_owns hown4.out;rw [← hhd.out] at h;rw [DSl,hhl.out];exact h
    have hm05:Mod Nowhere wr (w4.alloc (.cells #[.int .i64 0,.slice (some ⟨g4,0,none⟩) 8 cap4] 292)):=hm04.out.alloc _
    have hch:ChSl (w4.alloc (.cells #[.int .i64 0,.slice (some ⟨g4,0,none⟩) 8 cap4] 292)) (.slice (some ⟨w4.heap.size,0,none⟩) 1 1) [(.slice (some ⟨g4,0,none⟩) 8 cap4,(0,hdB b0 (e0 + n)))] :=
     chSl_one (w:=w4) (o:=0) (hdH.fresh ((Mod.refl _ w4).alloc _))
    clear hdH;generalize w4.alloc (.cells #[.int .i64 0,.slice (some ⟨g4,0,none⟩) 8 cap4] 292) = w5 at *
    refine (wr_apply hW.out hm05 hch
     (by
      intro ch hc;simp only [chs,List.map_cons,List.map_nil,List.mem_cons,List.not_mem_nil,or_false] at hc;subst hc
      exact ⟨by show 0 + (hdB b0 (e0 + n)).length≤A.Z;have:=hhl.out;omega,hhb.out⟩)
     (by simp [chs,wsum,hhl.out,hRl.out];try omega) (hrm.out.runs hW.out.runs (by have:=hW.out.jl;omega))).mono ?_
    rintro e w6 hpost
    have hbk:Banks A.Z (puts J1 (chs [(.slice (some ⟨g4,0,none⟩) 8 cap4,(0,hdB b0 (e0 + n)))])) f' b0 (e0 + n):=by
     have hd:=hW.out.ms.done hF.out (by omega) (J':=puts J1 (chs [(.slice (some ⟨g4,0,none⟩) 8 cap4,(0,hdB b0 (e0 + n)))])) (by
      intro o
      show puts J1 [(0,hdB b0 (e0 + n))] o = _
      rw [puts_hd _ _ hhl.out,hS0.out,hn.out];have e1:=hnr.out
      split
      ·rfl
      ·rw [if_neg (by omega)]) hB.out hb.out hok.out hf.out hw.out
     rw [hn.out] at hd;exact hd
    rcases wr_post hpost hW.out hm05 hB.out hbk hbvw.out hvJ (by omega) with ⟨rfl,hb6,hq⟩ | ⟨rfl,hq⟩
    ·have q1:w6.cell? ⟨A.vb,1,none⟩ = some (.int .i64 bank):=hb6.cell 1;have q2:w6.cell? ⟨A.vb,2,none⟩ = some (.int .i64 end_):=hb6.cell 2;have qf:=hb6.frozen;have ql:=hb6.lt;have hq2:=hq ((E:Int) + (r:Int)) (by have:=hEr.out;omega);replace hq2:=Lib.hid hq2;clear hpost hbk hq hb6;go_wp2;go_ret;exact hq2.out
    ·replace hq:=Lib.hid hq;clear hpost hbk;go_wp2;go_ret;exact hq.out
end Go.Proofs.YtanioleniadhoaaGreat
/-
 The vault: storing.
-/
namespace Go.Proofs.YtanioleniadhoaaGreat
open Go.RowKit
open Jn Vn
attribute [local go_sem] Oper.semAt_some
def vcost (A:VAt):Nat:=(bs A.Z / 1000 + 1) * 63924
section
variable {w w' w6 : World} {A : VAt} {m m' : Mem} {P P' : PAt} {p p' : PSt} {pc pc' : PC} {J J' : Nat → Nat} {bank end_ ib nb b1 e1 : Nat} {lv : Value} {xs : List Vx} {s : VSt} {f' : Items}
theorem VR.stored (h:VR w A m P p pc J bank end_ ib lv xs s) (hm:Mod A.S w w6) (hj:Jr w6 A.jb A.M m' P' p' pc') (hO:A.Of P' p') (hst:Still A.count pc' J') (hB:Banks A.Z J' f' b1 e1) (hbv:Blk w6 A.vb (vCells A b1 e1 ib s.act lv) 162) (hmap:VMap w6 nb f') (a:Bool) (u:Value) (hnx:¬ A.X nb) :
  VR (w6.setCell ⟨A.vb,3,none⟩ (.map (some nb))) A m' P' p' pc' J' b1 e1 nb lv xs { s with f:=f' }:=by
 have hms:Mod (fun k=>k = A.vb) w6 (w6.setCell ⟨A.vb,3,none⟩ (.map (some nb))):=(Mod.refl (fun k=>k = A.vb) w6).setCell (p:=⟨A.vb,3,none⟩) (fun _=>rfl) _;have hsh:∀ T,T ≠ 162→Shun (fun k=>k = A.vb) w6 T:=fun T hT k e cs hb=>hT ((e ▸ hb).inj hbv).2;refine ⟨hj.vset hO hbv hms,hO,hst,hB,(hbv.setCell 3 _).conv rfl,hmap.mod hms (fun e=>?_) (hsh _ (by decide)),?_,h.xl,h.ok,h.idle,hnx,fun k hk=>Nat.lt_of_lt_of_le (h.xb k hk) (Nat.le_trans hm.size hms.size)⟩
 ·have e:nb = A.vb:=e;rw [← e] at hbv;exact hmap.noCells hbv
 ·exact (h.ls.mod hm (h.shunS (by decide) (by decide)) (h.shunS (by decide) (by decide))).mod hms (hsh _ (by decide)) (hsh _ (by decide))
end
theorem store_end {w W w6:World} {A:VAt} {m:Mem} {P:PAt} {p:PSt} {pc:PC} {J:Nat→Nat} {bank end_ ib nb b1 e1 n:Nat} {lv:Value} {xs:List Vx} {s:VSt} {f':Items} {e:Ending} (h:VR w A m P p pc J bank end_ ib lv xs s) (hmW:Mod Nowhere w W) (hmp:VMap W nb f') (hnb:w.heap.size≤nb)
  (hp:WrtPost W A m s.f f' b1 e1 n ib s.act lv e w6) (hn:n≤vcost A) :
  (e = .returned (errno 0)∧Blk w6 A.vb (vCells A b1 e1 ib s.act lv) 162∧VPost w A m s { s with f:=f' } (vcost A) (.returned (errno 0)) (w6.setCell ⟨A.vb,3,none⟩ (.map (some nb)))) ∨
  (e = .returned (errno 7)∧VPost w A m s { s with f:=f' } (vcost A) (.returned (errno 7)) w6):=by
 have hW:=h.fresh hmW;have hnS:¬ A.S nb:=fun e=>by have:=h.ltS _ e;omega
 rcases hp with ⟨m',P',p',pc',J',k,e1,a1,a2,a3,a4,a5,a6,a7,a8⟩ | ⟨m',g,e1,b1,b2,b3,b4⟩
 ·have hm6:VMap w6 nb f':=hmp.mod a8 hnS (hW.shunS (by decide) (by decide));have hst:=hW.stored a8 a1 a2 a3 a4 a7 hm6 true (.int .i64 0) (fun e=>by have:=h.xb nb e;omega);refine .inl ⟨e1,a7,.inl ⟨m',k,rfl,hst.rep,by omega,a6,?_⟩⟩;exact (hmW.nowhere.trans a8).setCell (p:=⟨A.vb,3,none⟩) (fun _=>.inl rfl) _
 ·exact .inr ⟨e1,.inr ⟨m',g,rfl,b1,b2,b3.mono hn,hmW.nowhere.trans b4⟩⟩
theorem recs_len (xs:List Vx):(recs xs).length = xs.length:=by simp [recs]
theorem encRs_le {l:List Rec} (h:∀ r ∈ l,(r.2.getD []).length≤2048):(encRs l).length≤2052 * l.length:=by
 induction l with
 | nil=>simp [encRs]
 | cons r l ih =>
  have h1:=ih fun x hx=>h x (by simp [hx]);have h2:=h r (by simp);rw [encRs_cons,List.length_append,encR_len,List.length_cons];omega
theorem encRs_snoc (l:List Rec) (r:Rec):encRs (l ++ [r]) = encRs l ++ encR r:=by rw [encRs_append];simp [encRs]
theorem vStore_ok {w:World} {A:VAt} {m:Mem} {P:PAt} {p:PSt} {pc:PC} {J:Nat→Nat} {bank end_ ib:Nat} {lv l2:Value} {xs ys:List Vx} {s:VSt}
  (h:VR w A m P p pc J bank end_ ib lv xs s) (hl:VcSl w l2 ys) (hok:∀ y ∈ ys,ROk y.2) (hyn:ys.length≤1099511627776) (hw:wt (sets s.f (recs ys))≤A.Z / 2) (hrm:Room m (vcost A)) :
  Calls Tryz.prog 105 #[ptr A.vb,l2] w (VPost w A m s { s with f:=sets s.f (recs ys) } (vcost A)):=by
 have hid:∀ y ∈ ys,y.2.1 < 4097:=fun y hy=>by have:=(hok y hy).hi;omega
 obtain ⟨la,lc,rfl,hl1,hl2,-⟩:=hl.sl.gen
 cases hys:ys with
 | nil =>
  subst hys;have hfin:VPost w A m s { s with f:=sets s.f (recs []) } (vcost A) (.returned (errno 0)) w:=.inl ⟨m,0,rfl,h.rep,Nat.zero_le _,h.jr.runs,Mod.refl _ _⟩;replace hfin:=Lib.hid hfin;clear h hl hok hid hw hrm
  show Calls _ _ #[ptr A.vb,.slice la 0 lc] _ _
  go_enter Tryz.func105,Tryz.ntmps105;go_wp2;go_ret;exact hfin.out
 | cons y0 ys0 =>
  have hpos:0 < ys.length:=by rw [hys];simp
  rw [← hys];clear hys;have hAp:=vApply_ok h.im hl hid hyn;have c3:w.cell? ⟨A.vb,3,none⟩ = some (.map (some ib)):=h.bv.cell 3;have hvl:=h.bv.lt;have hne:((ys.length:Int) == 0) = false:=beq_eq_false_iff_ne.2 (by omega);refine hid7 ?_ hAp h hl hok hid hw hrm;clear hAp h hl hok hid hw hrm;intro hAp h hl hok hid hw hrm;go_enter Tryz.func105,Tryz.ntmps105;go_wp2_with fail;refine hAp.out.mono ?_;rintro e w1 ⟨nb,rfl,hnb,hmp1,hm1⟩;have hLa:=vLast_ok (hl.out.fresh hm1) hid.out hyn;refine hid2 ?_ hLa hmp1;clear hLa hmp1;intro hLa hmp1;clear hAp c3;go_wp2_with fail;refine hLa.out.mono ?_;rintro e w2 ⟨v2,rfl,hown2,hm2⟩
  have hzs:=lastVc (hl.out.fresh hm1) hown2 hm2;have hm02:=hm1.trans hm2;have hzok:∀ z ∈ lastXs ys,ROk z.2:=fun z hz=>hok.out z (lastXs_mem hz);have hzr:recs (lastXs ys) = recsOf (lastOf (recs ys)):=recs_lastXs ys;have hzn:=lastXs_len ys;obtain ⟨za,zc,rfl,hz1,hz2,-⟩:=hzs.sl.gen;generalize lastXs ys = zs at *;have hmp2:=hmp1.out.fresh hm2;refine hid5 ?_ hzs hzok hzr hm02 hmp2;clear hzs hzok hzr hm02 hmp2;intro hzs hzok hzr hm02 hmp2;clear hown2 hm1 hm2 hmp1 hLa;obtain ⟨i0,hi0,hz0,hz3,hz4⟩:=info_parts info_u8;go_wp2
  go_loopw [26,6] (fun i v wr=>∃ (k L:Nat) (va:Option Addr) (vcap:Nat),k≤zs.length∧i = .int .i64 k∧v = .slice va L vcap∧L = (encRs (recs (zs.take k))).length∧wr.ownsRow w2.heap.size 5 1 (.slice va L vcap) L (u8s (encRs (recs (zs.take k))))∧Mod Nowhere w2 wr) (fun i _ _=>zs.length - (RowKit.intOf i).toNat)
  case atStart=>exact ⟨0,0,none,0,by omega,rfl,rfl,rfl,World.ownsRow_nil _ _ _ _,Mod.refl _ _⟩
  case round =>
   obtain ⟨k,L,va,vcap,hk,rfl,rfl,hL,hown,hm⟩:=hrel
   have hLb:L≤2052 * k:=by
    have e:=encRs_le (l:=recs (zs.take k)) (fun r hr=>by
     obtain ⟨z,hz,rfl⟩:=List.mem_map.1 hr
     exact (hzok.out z (List.mem_of_mem_take hz)).len)
    rw [recs_len,List.length_take] at e;rw [hL];omega
   by_cases hlt:k < zs.length
   ·obtain ⟨lb,off,cap',xa,xc,e0,hb,_,_,c1,c2,c3,e3⟩:=(hzs.out.fresh hm).at_ hlt;have hrt:=recs_take zs k hlt;have hxd:=(hzs.out.fresh hm).data _ (List.getElem_mem hlt);have hxo:=hzok.out _ (List.getElem_mem hlt);obtain ⟨rfl,rfl⟩:za = some ⟨lb,off,none⟩∧zc = cap':=by simp at e0;exact ⟨e0.1,e0.2⟩
    obtain ⟨⟨xv,xid,xd⟩,hx⟩:∃ x,zs[k] = x:=⟨_,rfl⟩;rw [hx] at c1 c2 c3 e3 hrt hxd hxo;dsimp only at c1 c2 c3 e3 hrt hxd hxo;subst e3;obtain ⟨xl,hxl⟩:∃ xl,(xd.getD []).length = xl:=⟨_,rfl⟩;have hmA:Mod Nowhere wr (wr.alloc (.cells #[.int .i64 xid,.slice xa xl xc,.bool xd.isNone] 238)):=(Mod.refl _ wr).alloc _
    have hRec:Calls Tryz.prog 162 #[.agg #[.int .i64 xid,.slice xa xl xc,.bool xd.isNone]] (wr.alloc (.cells #[.int .i64 xid,.slice xa xl xc,.bool xd.isNone] 238)) (RecPost (wr.alloc (.cells #[.int .i64 xid,.slice xa xl xc,.bool xd.isNone] 238)) (xid,xd)) :=
     vRecord_ok (x:=(.slice xa xl xc,(xid,xd))) (by have h:=hxd.fresh hmA;rw [hxl] at h;exact h) hxo
    rw [hxl] at c2 hxd;have hel:=encR_len (xid,xd);have hxl2:=hxo.len;dsimp only at hel hxl2;rw [hxl] at hel hxl2;have hone:=one_u8 (encR (xid,xd));have hes:u8s (encRs (recs (zs.take (k + 1)))) = u8s (encRs (recs (zs.take k))) ++ u8s (encR (xid,xd)):=by rw [hrt,encRs_snoc,u8s_append]
    have hesl:(encRs (recs (zs.take (k + 1)))).length = L + (encR (xid,xd)).length:=by rw [hrt,encRs_snoc,List.length_append,hL]
    have hul:(u8s (encR (xid,xd))).length = (encR (xid,xd)).length:=by simp [u8s]
    generalize xd.isNone = xg at *;have hownA:=owns_mod hown hmA (fun _ _=>id);have hmwA:=hm.trans hmA;obtain ⟨q,hq⟩:∃ q,(encR (xid,xd)).length = q:=⟨_,rfl⟩;rw [hq] at hel hesl hul;have hq4:4≤q:=by omega
    have hq5:q≤2052:=by omega
    refine hid12 ?_ hL hRec hx hxl hrt hes hesl hxd hxo hm hq hel;clear hL hRec hx hxl hrt hes hesl hxd hxo hm hq hel;intro hL hRec hx hxl hrt hes hesl hxd hxo hm hq hel;clear hown hmA e0;go_wp2_with fail;refine hRec.out.mono ?_;rintro e w4 ⟨vr,rfl,hownR,hmR⟩;rw [hq.out] at hownR;obtain ⟨g4,cap4,cs4,rfl,-,-,-,-,-,-⟩:=owns_open hownR (by omega);have hsrc:=owns_src hownR;have hownB:=owns_mod hownA hmR (fun _ _=>id);have hmB:=hmwA.trans hmR;have hszB:=hmB.size;replace hmB:=Lib.hid hmB;clear hownR hmR hownA hmwA
    go_wp2_with (at_builtin;go_loud (refine wpList_append_lies _ rfl _ _ 22 rfl w2.heap.size 5 i0 (.int .u8 0) 1 1 Tryz.underlying22 hi0 hz0 hz3 hz4 rfl (by decide) _ L _ (by rfl) hownB ⟨g4,0,none⟩ q cap4 (u8s (encR (xid,xd))) (by rfl) (by rw [hul,Nat.mul_one]) hsrc hone (by omega) (by unfold maxLen;omega) (by omega) (by omega) _ rfl ?_;intro g5 cap5 w5 hown5 hgrow5 hat5 hlt5;have hM5:Mod Nowhere w2 w5:=hmB.out.step ((Mod.refl (Above w2.heap.size) _).app hownB hgrow5) (fun i hi e=>by have e:w2.heap.size≤i:=e;omega);replace hown5:=Lib.hid hown5;replace hM5:=Lib.hid hM5;clear hgrow5 hat5 hownB hsrc))
    go_roundw
    case rel=>exact ⟨k + 1,L + q,_,_,by omega,by go_num,rfl,hesl.out.symm,by rw [hes.out];exact hown5.out,hM5.out⟩
    case measure=>simp [RowKit.intOf];omega
   ·obtain rfl:k = zs.length:=by omega
    rw [List.take_length] at hL hown;have hm0r:=hm02.out.trans hm;have hmpr:=hmp2.out.fresh hm;have hsb:=hm0r.size;clear hm;have h5:=h.out.fresh (hm0r.drewN 0);have q1:wr.cell? ⟨A.vb,1,none⟩ = some (.int .i64 bank):=(h.out.fresh hm0r).bv.cell 1;have q2:wr.cell? ⟨A.vb,2,none⟩ = some (.int .i64 end_):=(h.out.fresh hm0r).bv.cell 2;have hsz2:=hm02.out.size;refine hid4 ?_ hL hown hm0r hmpr;clear hL hown hm0r hmpr;intro hL hown hm0r hmpr;clear h5;go_wp2
    go_quiet (fail)
    have hmr:=hm0r.out.drewN nq;have hmp5:=hmpr.out.fresh ((Mod.refl Nowhere wr).drewN nq);have hown5:=owns_mod hown.out ((Mod.refl Nowhere wr).drewN nq) (fun _ _=>id);generalize wr.drewN nq = W at *;have h5:=h.out.fresh hmr;have h33:33≤A.count:=by have:=h5.jr.c33;rw [h5.of.count] at this;exact this
    have h16:A.count≤65536:=by have:=h5.jr.pg.rep.c16;rw [h5.of.count] at this;exact this
    have hBs:=vBankSize_ok h5.stub h5.of h33 h16;have hbk1:=h5.bk.one;have hbk2:=h5.bk.le;have hz8:=h5.z8;have hbsb:bs A.Z≤1572864:=by unfold bs;omega
    obtain ⟨B,hB⟩:∃ B,bs A.Z = B:=⟨_,rfl⟩;rw [hB] at hBs hbk2 hbsb
    have hIf:IOk (sets s.f (recs ys)):=h5.bk.iok.sets _ (fun r hr=>by
     obtain ⟨y,hy,rfl⟩:=List.mem_map.1 hr
     exact hok.out y hy)
    have q3:W.cell? ⟨A.vb,1,none⟩ = some (.int .i64 bank):=h5.bv.cell 1;have hmW:Mod Nowhere w W:=hmr;obtain ⟨F',hF'⟩:∃ F',sets s.f (recs ys) = F':=⟨_,rfl⟩
    have hFl:sets s.f (recs zs) = F':=by
     rw [hzr.out,← hF']
     exact sets_recsOf_last _ _ (fun r hr=>by
      obtain ⟨y,hy,rfl⟩:=List.mem_map.1 hr
      exact hok.out y hy)
    rw [hF'] at hmp5 hIf;have hw':wt F'≤A.Z / 2:=by rw [← hF'];exact hw.out
    clear q1 q2;refine hid11 ?_ hBs hmr hmp5 hown5 hB hIf hF' hFl hw' hmW h5;clear hBs hmr hmp5 hown5 hB hIf hF' hFl hw' hmW h5;intro hBs hmr hmp5 hown5 hB hIf hF' hFl hw' hmW h5;by_cases hfit:end_ + L≤B
    ·have hfi:¬ (B:Int) < (end_:Int) + (L:Int):=by omega
     have hWr:=vWrite_ok (b0:=bank) (e0:=end_) (b:=encRs (recs zs)) (l':=recs zs) (f':=F') (vv:=.slice va L vcap) h5.out.jr h5.out.of h5.out.st h5.out.bk h5.out.bv
      ⟨hbk1,hbk1,by rw [hB.out];exact hbk2,by rw [hB.out,← hL.out];exact hfit,.inl ⟨rfl,rfl⟩⟩ rfl
      (fun r hr=>by
       obtain ⟨z,hz,rfl⟩:=List.mem_map.1 hr
       exact hzok.out z hz)
      (by rw [if_pos rfl];exact hFl.out.symm) hw'.out
      (by have h:=Sl.of_owns hown5.out;rw [DSl,← hL.out];exact h)
      (hrm.out.mono (by rw [← hL.out,vcost,hB.out];have:L / 1000≤B / 1000:=Nat.div_le_div_right (by omega);omega))
     rw [← hL.out] at hWr;replace hWr:=Lib.hid hWr
     go_wp2_with (go_at_call 163;(with_reducible refine hBs.out.mono ?_);rintro e w7 ⟨rfl,rfl⟩)
     refine hWr.out.mono ?_;rintro e w8 hpost;rcases store_end h.out hmW.out hmp5.out hnb hpost (by rw [vcost,hB.out];have:L / 1000≤B / 1000:=Nat.div_le_div_right (by omega);omega) with ⟨rfl,hb8,hfin⟩ | ⟨rfl,hfin⟩
     ·have k3:w8.cell? ⟨A.vb,3,none⟩ = some (.map (some ib)):=hb8.cell 3;have kf:=hb8.frozen;have kl:=hb8.lt;rw [← hF'.out] at hfin;replace hfin:=Lib.hid hfin;clear hpost hb8 hWr;go_wp2;go_ret;exact hfin.out
     ·rw [← hF'.out] at hfin;replace hfin:=Lib.hid hfin;clear hpost hWr;go_wp2;go_ret;exact hfin.out
    ·have hfi:(B:Int) < (end_:Int) + (L:Int):=by omega
     obtain ⟨g',hNg,hgf⟩:=hmp5.out.ex;have hSo:=vSorted_ok hNg;have hdg:dom g' = dom F':=VMap.dom hgf;have hfitI:=items_fit hw'.out (by omega);have hbsd:(A.Z - 8) / 2 = B:=hB.out;rw [hbsd] at hfitI;have hb1:((1 - bank:Nat):Int) = 1 - (bank:Int):=by omega
     have hdl:=dom_len F';refine hid4 ?_ hSo hdg hfitI hb1;clear hSo hdg hfitI hb1;intro hSo hdg hfitI hb1;clear hNg hgf hbsd
     go_wp2_with (first | (go_at_call 163;(with_reducible refine hBs.out.mono ?_);rintro e w7 ⟨rfl,rfl⟩) | (go_at_call 164;(with_reducible refine hSo.out.mono ?_);rintro e w7 ⟨sv,rfl,hownS,hm7⟩;rw [hdg.out] at hownS;have hslS:=Sl.of_owns hownS;obtain ⟨sa,sc,rfl,hs1,hs2,-⟩:=hslS.gen;replace hslS:=Lib.hid hslS;replace hm7:=Lib.hid hm7;clear hownS))
     obtain ⟨ks,hks⟩:∃ ks,dom F' = ks:=⟨_,rfl⟩;rw [hks] at hslS hs1 hdl ⊢;have hsome:∀ j ∈ ks,(recOf F' j).isSome = true:=fun j hj=>by rw [recOf_some];rw [← hks] at hj;exact (mem_dom.1 hj).2
     have hlo:∀ j ∈ ks,j < 4097:=fun j hj=>by rw [← hks] at hj;exact (mem_dom.1 hj).1
     have hrecs:recsOf (recOf F') = ks.filterMap (recOf F'):=by rw [← hks];unfold recsOf;rw [dom_congr (h:=F') (fun k=>recOf_some)]
     refine hid4 ?_ hks hsome hlo hrecs;clear hks hsome hlo hrecs;intro hks hsome hlo hrecs
     go_loopw [58,6] (fun i v wr=>∃ (k L:Nat) (va:Option Addr) (vcap:Nat),k≤ks.length∧i = .int .i64 k∧v = .slice va L vcap∧L = (encRs ((ks.take k).filterMap (recOf F'))).length∧wr.ownsRow w7.heap.size 5 1 (.slice va L vcap) L (u8s (encRs ((ks.take k).filterMap (recOf F'))))∧Mod Nowhere w7 wr) (fun i _ _=>ks.length - (RowKit.intOf i).toNat)
     case atStart=>exact ⟨0,0,none,0,by omega,rfl,rfl,rfl,World.ownsRow_nil _ _ _ _,Mod.refl _ _⟩
     case round =>
      obtain ⟨k,L2,va2,vcap2,hk,rfl,rfl,hL2,hown2,hm2⟩:=hrel;by_cases hlt:k < ks.length
      ·obtain ⟨y,hy,hft,hfl⟩:=fm_take (recOf F') ks hsome.out k hlt;have hkj:=hlo.out _ (List.getElem_mem hlt);obtain ⟨sb,so,sc',e0,hsb2,hs3,hs4,hcell,_⟩:=(hslS.out.mod hm2 (fun _ _=>id)).open (by omega);obtain ⟨rfl,rfl⟩:sa = some ⟨sb,so,none⟩∧sc = sc':=by simp at e0;exact ⟨e0.1,e0.2⟩
       have ck:=hcell k (by omega);have ekj:(ks.map fun k:Nat=>Value.int .i64 (k:Int)).getD k default = .int .i64 (ks[k]:Nat):=by simp [gd0,hlt]
       rw [ekj] at ck;have hmpw:=(hmp5.out.fresh hm7.out).fresh hm2;obtain ⟨u,hlk,hud⟩:=hmpw.look (t:=159) (e:=22) Tryz.underlying159 rfl (k:=ks[k]) (by omega)
       obtain ⟨d,hd,hyd⟩:∃ d,F' ks[k] = some d∧y = (ks[k],some d):=by
        unfold recOf at hy
        cases hf:F' ks[k] with
        | none=>rw [hf] at hy;cases hy
        | some d=>rw [hf] at hy;cases hy;exact ⟨d,rfl,rfl⟩
       rw [hd,Option.getD_some] at hud;have hro:=hIf.out.ok _ d hd;have hro2:=hro.len;have hro3:=hro.hi;dsimp only [Option.getD_some] at hro2 hro3;obtain ⟨ua,uc,rfl,_⟩:=Sl.len hud;generalize ks[k] = key at *;have hRec:=vRecord_some (w:=wr) key d hud hro3 hro2;have hel:=encR_len (key,some d);rw [Option.getD_some] at hel;have hes:u8s (encRs ((ks.take (k + 1)).filterMap (recOf F'))) = u8s (encRs ((ks.take k).filterMap (recOf F'))) ++ u8s (encR (key,some d)):=by rw [hft,hyd,encRs_snoc,u8s_append]
       have hesl:(encRs ((ks.take (k + 1)).filterMap (recOf F'))).length = L2 + (encR (key,some d)).length:=by rw [hft,hyd,encRs_snoc,List.length_append,hL2]
       have hul:(u8s (encR (key,some d))).length = (encR (key,some d)).length:=by simp [u8s]
       have hone:=one_u8 (encR (key,some d));obtain ⟨q,hq⟩:∃ q,(encR (key,some d)).length = q:=⟨_,rfl⟩
       have hLb:L2≤2052 * k:=by
        have e:=encRs_le (l:=(ks.take k).filterMap (recOf F')) (fun r hr=>by
         obtain ⟨j,_,hj⟩:=List.mem_filterMap.1 hr;unfold recOf at hj
         cases hf:F' j with
         | none=>rw [hf] at hj;cases hj
         | some d'=>rw [hf] at hj;cases hj;exact (hIf.out.ok _ d' hf).len)
        rw [hfl] at e;rw [hL2];exact e
       rw [hq] at hel hesl hul;generalize d.length = dl at *;have hq4:4≤q:=by omega
       have hq5:q≤2052:=by omega
       refine hid12 ?_ hL2 hRec hft hy hyd hd hes hesl hq hel hud hro;clear hL2 hRec hft hy hyd hd hes hesl hq hel hud hro;intro hL2 hRec hft hy hyd hd hes hesl hq hel hud hro;refine hid3 ?_ hfl ekj hmpw;clear hfl ekj hmpw;intro hfl ekj hmpw;clear e0 hcell;go_wp2_with fail;refine hRec.out.mono ?_;rintro e w4 ⟨vr,rfl,hownR,hmR⟩;rw [hq.out] at hownR;obtain ⟨g4,cap4,cs4,rfl,-,-,-,-,-,-⟩:=owns_open hownR (by omega);have hsrc:=owns_src hownR;have hownB:=owns_mod hown2 hmR (fun _ _=>id);have hmB:=hm2.trans hmR;have hszB:=hmB.size;refine hid2 ?_ hmB hm2;clear hmB hm2;intro hmB hm2
       clear hownR hmR hown2
       go_wp2_with (at_builtin;go_loud (refine wpList_append_lies _ rfl _ _ 22 rfl w7.heap.size 5 i0 (.int .u8 0) 1 1 Tryz.underlying22 hi0 hz0 hz3 hz4 rfl (by decide) _ L2 _ (by rfl) hownB ⟨g4,0,none⟩ q cap4 (u8s (encR (key,some d))) (by rfl) (by rw [hul,Nat.mul_one]) hsrc hone (by omega) (by unfold maxLen;omega) (by omega) (by omega) _ rfl ?_;intro g5 cap5 w5 hown5 hgrow5 hat5 hlt5;have hM5:Mod Nowhere w7 w5:=hmB.out.step ((Mod.refl (Above w7.heap.size) _).app hownB hgrow5) (fun i hi e=>by have e:w7.heap.size≤i:=e;omega);replace hown5:=Lib.hid hown5;replace hM5:=Lib.hid hM5;clear hgrow5 hat5 hownB hsrc))
       go_roundw
       case rel=>exact ⟨k + 1,L2 + q,_,_,by omega,by go_num,rfl,hesl.out.symm,by rw [hes.out];exact hown5.out,hM5.out⟩
       case measure=>simp [RowKit.intOf];omega
      ·obtain rfl:k = ks.length:=by omega
       rw [List.take_length,← hrecs.out] at hL2 hown2;have hmW2:Mod Nowhere w wr:=(hmW.out.trans hm7.out).trans hm2;have hmp9:=(hmp5.out.fresh hm7.out).fresh hm2;have h9:=h.out.fresh hmW2;have hLB:L2≤B:=by rw [hL2];exact hfitI.out
       have hWr:=vWrite_ok (b0:=1 - bank) (e0:=0) (b:=encRs (recsOf (recOf F'))) (l':=recsOf (recOf F')) (f':=F') (vv:=.slice va2 L2 vcap2) h9.jr h9.of h9.st h9.bk h9.bv
        ⟨hbk1,by omega,by rw [hB.out];exact hbk2,by rw [hB.out,← hL2];omega,.inr ⟨by omega,rfl⟩⟩ rfl
        (items_ok hIf.out)
        (by rw [if_neg (by omega)];exact (sets_recsOf_items hIf.out).symm) hw'.out
        (by have h:=Sl.of_owns hown2;rw [DSl,← hL2];exact h)
        (hrm.out.mono (by rw [← hL2,vcost,hB.out];have:L2 / 1000≤B / 1000:=Nat.div_le_div_right (by omega);omega))
       rw [← hL2,hb1.out] at hWr;refine hid3 ?_ hWr hL2 hmW2;clear hWr hL2 hmW2;intro hWr hL2 hmW2;clear hown2 h9 hm2;go_wp2_with fail;refine hWr.out.mono ?_;rintro e w9 hpost;rcases store_end h.out hmW2.out hmp9 hnb hpost (by rw [vcost,hB.out];have:L2 / 1000≤B / 1000:=Nat.div_le_div_right (by omega);omega) with ⟨rfl,hb8,hfin⟩ | ⟨rfl,hfin⟩
       ·have k3:w9.cell? ⟨A.vb,3,none⟩ = some (.map (some ib)):=hb8.cell 3;have kf:=hb8.frozen;have kl:=hb8.lt;rw [← hF'.out] at hfin;replace hfin:=Lib.hid hfin;clear hpost hb8 hWr;go_wp2;go_ret;exact hfin.out
       ·rw [← hF'.out] at hfin;replace hfin:=Lib.hid hfin;clear hpost hWr;go_wp2;go_ret;exact hfin.out
end Go.Proofs.YtanioleniadhoaaGreat
