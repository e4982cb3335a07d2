/-
  Open of the pages.
-/
import Derived.Test.YtanioleniadhoaaGreatAG22
import Derived.Test.YtanioleniadhoaaGreatAG08
import Derived.Test.YtanioleniadhoaaGreatAG07
import Derived.Deep.RegionHeld3
import Derived.Deep.DrawnRows
set_option linter.unusedVariables false
set_option linter.unusedSimpArgs false
set_option maxHeartbeats 2000000
set_option maxRecDepth 100000
namespace Go.Proofs.YtanioleniadhoaaGreat
open Go.RowKit Go.Shelf
attribute [local go_sem] Oper.semAt_some
theorem drew_heap' (w:World):w.drew.heap = w.heap:=rfl
theorem headers_any (b:Nat) (w:World):Calls Tryz.prog 169 #[ptr b] w fun e w'=>e = .returned (.func (.func 230) #[] #[.pointer (some ⟨w.heap.size,0,none⟩)])∧w' = w.alloc (.cells #[ptr b] 173):=by
 go_enter Tryz.func169,Tryz.ntmps169;go_wp2;go_ret;exact ⟨rfl,rfl⟩
def newPages (m:Mem) (C N V:Nat) (A H:List Int):PSt:={ cuts:=m.cuts,count:=C,frames:=N,version:=V,turn:=0,at_:=A,holds:=H,freed:=[] }
structure OAt where
 w0:World
 pb:Nat
 ab:Nat
 hb:Nat
 vb:Nat
 b2:Nat
 b3:Nat
 b4:Nat
 b5:Nat
 bn:Nat
def OAt.S (O:OAt):Nat→Prop:=fun k=>k = O.pb ∨ k = O.ab ∨ k = O.hb ∨ k = O.vb
def OAt.P (O:OAt):PAt:={ pb:=O.pb,ab:=O.ab,hb:=O.hb,fv:=.slice none 0 0 }
structure OIw (M:MemAt) (m:Mem) (C N:Nat) (O:OAt) (L:List Nat) (A H:List Int) (V:Nat) (W:World):Prop where
 bp:Blk W O.pb (pCells M O.P (newPages m C N V A H) 0) 246
 ba:Blk W O.ab (zs A) 3
 bh:Blk W O.hb (zs H) 3
 bv:Blk W O.vb (ints L) 3
 x2:Blk W O.b2 [.pointer none] 173
 x3:Blk W O.b3 [.int .i64 0] 27
 x4:Blk W O.b4 [ptr O.pb] 173
 x5:Blk W O.b5 [.slice (some ⟨O.vb,0,none⟩) N N] 109
 xn:Blk W O.bn [ptr O.pb] 173
 mem:MemRep W M m
 md:Mod Nowhere O.w0 W
structure OAt.Ok (O:OAt) (M:MemAt):Prop where
 pa:O.pb ≠ O.ab
 ph:O.pb ≠ O.hb
 pv:O.pb ≠ O.vb
 ah:O.ab ≠ O.hb
 av:O.ab ≠ O.vb
 hv:O.hb ≠ O.vb
 n2:¬ O.S O.b2
 n3:¬ O.S O.b3
 n4:¬ O.S O.b4
 n5:¬ O.S O.b5
 nn:¬ O.S O.bn
 nM:∀ k,O.S k→¬ M.S k
 new:∀ k,O.S k→O.w0.heap.size≤k
theorem MemRep.put {W:World} {M:MemAt} {m:Mem} {r:Nat} {o o':Obj} (h:MemRep W M m) (hr:W.heap[r]? = some o) (ho:o.isCells = false):MemRep (W.putObj r o') M m :=
 { h with bm:=h.bm.put hr ho,bw:=h.bw.put hr ho,br:=h.br.put hr ho }
theorem OIw.put {M:MemAt} {m:Mem} {C N:Nat} {O:OAt} {L:List Nat} {A H:List Int} {V:Nat} {W:World} {r:Nat} {o o':Obj} (h:OIw M m C N O L A H V W) (hB:O.w0.heap.size≤r) (hr:W.heap[r]? = some o) (ho:o.isCells = false):OIw M m C N O L A H V (W.putObj r o') :=
 ⟨h.bp.put hr ho,h.ba.put hr ho,h.bh.put hr ho,h.bv.put hr ho,h.x2.put hr ho,h.x3.put hr ho,h.x4.put hr ho,h.x5.put hr ho,h.xn.put hr ho,h.mem.put hr ho,h.md.put hB⟩
theorem Blk.off {w w':World} {b:Nat} {cs:List Value} {T:TypeId} {S:Nat→Prop} (h:Blk w b cs T) (hm:Mod S w w') (hS:∀ k,S k→∃ o,w.heap[k]? = some o∧o.isCells = false):Blk w' b cs T :=
 h.mod hm (fun hs=>by obtain ⟨o,ho,hc⟩:=hS b hs;exact h.ne_put ho hc rfl)
theorem OIw.mod' {M:MemAt} {m:Mem} {C N:Nat} {O:OAt} {L:List Nat} {A H:List Int} {V:Nat} {W W':World} {S:Nat→Prop} (h:OIw M m C N O L A H V W) (hm:Mod S W W') (hS:∀ k,S k→∃ o,W.heap[k]? = some o∧o.isCells = false) (hB:∀ k,S k→O.w0.heap.size≤k):OIw M m C N O L A H V W' :=
 ⟨h.bp.off hm hS,h.ba.off hm hS,h.bh.off hm hS,h.bv.off hm hS,h.x2.off hm hS,h.x3.off hm hS,h.x4.off hm hS,h.x5.off hm hS,h.xn.off hm hS,
  { h.mem with bm:=h.mem.bm.off hm hS,bw:=h.mem.bw.off hm hS,br:=h.mem.br.off hm hS },h.md.step hm (fun i hi hs=>by have:=hB i hs;omega)⟩
theorem OIw.mod {M:MemAt} {m:Mem} {C N:Nat} {O:OAt} {L:List Nat} {A H:List Int} {V:Nat} {W W':World} {S:Nat→Prop} (h:OIw M m C N O L A H V W) (hm:Mod S W W') (hS:∀ k,k < W.heap.size→¬ S k):OIw M m C N O L A H V W' :=
 ⟨h.bp.mod hm (hS _ h.bp.lt),h.ba.mod hm (hS _ h.ba.lt),h.bh.mod hm (hS _ h.bh.lt),h.bv.mod hm (hS _ h.bv.lt),h.x2.mod hm (hS _ h.x2.lt),h.x3.mod hm (hS _ h.x3.lt),h.x4.mod hm (hS _ h.x4.lt),h.x5.mod hm (hS _ h.x5.lt),h.xn.mod hm (hS _ h.xn.lt),
  { h.mem with bm:=h.mem.bm.mod hm (hS _ h.mem.bm.lt),bw:=h.mem.bw.mod hm (hS _ h.mem.bw.lt),br:=h.mem.br.mod hm (hS _ h.mem.br.lt) },h.md.step hm (fun i hi hs=>(hS i (Nat.lt_of_lt_of_le hi h.md.size) hs).elim)⟩
section
variable {M : MemAt} {m : Mem} {C N : Nat} {O : OAt} {L : List Nat} {A H : List Int} {V : Nat} {W : World}
theorem MemRep.setCell {b o:Nat} (h:MemRep W M m) (hb:¬ M.S b) (v:Value):MemRep (W.setCell ⟨b,o,none⟩ v) M m :=
 h.mod (S:=fun k=>k = b) (Mod.setCell (S:=fun k=>k = b) (Mod.refl _ W) (p:=⟨b,o,none⟩) (fun _=>rfl) v) (fun k hk e=>hb (e ▸ hk))
theorem ints_set' (l:List Nat) (i v:Nat):(ints l).set i (.int .i64 (v:Int)) = ints (l.set i v):=by simp [ints,List.map_set]
theorem zs_set' (l:List Int) (i:Nat) (v:Int):(zs l).set i (.int .i64 v) = zs (l.set i v):=by simp [zs,List.map_set]
theorem OIw.setV (h:OIw M m C N O L A H V W) (ok:O.Ok M) (f v:Nat):OIw M m C N O (L.set f v) A H V (W.setCell ⟨O.vb,f,none⟩ (.int .i64 v)) :=
 have hS:O.S O.vb:=.inr (.inr (.inr rfl))
 ⟨h.bp.setCell_other ok.pv _,h.ba.setCell_other ok.av _,h.bh.setCell_other ok.hv _,(h.bv.setCell f _).conv (ints_set' L f v),h.x2.setCell_other (fun e=>ok.n2 (e ▸ hS)) _,h.x3.setCell_other (fun e=>ok.n3 (e ▸ hS)) _,h.x4.setCell_other (fun e=>ok.n4 (e ▸ hS)) _,h.x5.setCell_other (fun e=>ok.n5 (e ▸ hS)) _,h.xn.setCell_other (fun e=>ok.nn (e ▸ hS)) _,h.mem.setCell (ok.nM _ hS) _,h.md.setCell (fun hl=>(Nat.lt_irrefl _ (Nat.lt_of_lt_of_le hl (ok.new _ hS)))) _⟩
theorem OIw.setA (h:OIw M m C N O L A H V W) (ok:O.Ok M) (i:Nat) (v:Int):OIw M m C N O L (A.set i v) H V (W.setCell ⟨O.ab,i,none⟩ (.int .i64 v)) :=
 have hS:O.S O.ab:=.inr (.inl rfl)
 ⟨h.bp.setCell_other ok.pa _,(h.ba.setCell i _).conv (zs_set' A i v),h.bh.setCell_other ok.ah.symm _,h.bv.setCell_other ok.av.symm _,h.x2.setCell_other (fun e=>ok.n2 (e ▸ hS)) _,h.x3.setCell_other (fun e=>ok.n3 (e ▸ hS)) _,h.x4.setCell_other (fun e=>ok.n4 (e ▸ hS)) _,h.x5.setCell_other (fun e=>ok.n5 (e ▸ hS)) _,h.xn.setCell_other (fun e=>ok.nn (e ▸ hS)) _,h.mem.setCell (ok.nM _ hS) _,h.md.setCell (fun hl=>(Nat.lt_irrefl _ (Nat.lt_of_lt_of_le hl (ok.new _ hS)))) _⟩
theorem OIw.setH (h:OIw M m C N O L A H V W) (ok:O.Ok M) (i:Nat) (v:Int):OIw M m C N O L A (H.set i v) V (W.setCell ⟨O.hb,i,none⟩ (.int .i64 v)) :=
 have hS:O.S O.hb:=.inr (.inr (.inl rfl))
 ⟨h.bp.setCell_other ok.ph _,h.ba.setCell_other ok.ah _,(h.bh.setCell i _).conv (zs_set' H i v),h.bv.setCell_other ok.hv.symm _,h.x2.setCell_other (fun e=>ok.n2 (e ▸ hS)) _,h.x3.setCell_other (fun e=>ok.n3 (e ▸ hS)) _,h.x4.setCell_other (fun e=>ok.n4 (e ▸ hS)) _,h.x5.setCell_other (fun e=>ok.n5 (e ▸ hS)) _,h.xn.setCell_other (fun e=>ok.nn (e ▸ hS)) _,h.mem.setCell (ok.nM _ hS) _,h.md.setCell (fun hl=>(Nat.lt_irrefl _ (Nat.lt_of_lt_of_le hl (ok.new _ hS)))) _⟩
theorem OIw.setVer (h:OIw M m C N O L A H V W) (ok:O.Ok M) (v:Nat):OIw M m C N O L A H v (W.setCell ⟨O.pb,4,none⟩ (.int .i64 v)) :=
 have hS:O.S O.pb:=.inl rfl
 ⟨(h.bp.setCell 4 _).conv rfl,h.ba.setCell_other ok.pa.symm _,h.bh.setCell_other ok.ph.symm _,h.bv.setCell_other ok.pv.symm _,h.x2.setCell_other (fun e=>ok.n2 (e ▸ hS)) _,h.x3.setCell_other (fun e=>ok.n3 (e ▸ hS)) _,h.x4.setCell_other (fun e=>ok.n4 (e ▸ hS)) _,h.x5.setCell_other (fun e=>ok.n5 (e ▸ hS)) _,h.xn.setCell_other (fun e=>ok.nn (e ▸ hS)) _,h.mem.setCell (ok.nM _ hS) _,h.md.setCell (fun hl=>(Nat.lt_irrefl _ (Nat.lt_of_lt_of_le hl (ok.new _ hS)))) _⟩
theorem OIw.drewN (h:OIw M m C N O L A H V W) (n:Nat):OIw M m C N O L A H V (W.drewN n):=h.mod ((Mod.refl Nowhere W).drewN n) (fun _ _=>id)
theorem OIw.drew (h:OIw M m C N O L A H V W):OIw M m C N O L A H V W.drew:=h.mod ((Mod.refl Nowhere W).drew) (fun _ _=>id)
theorem OIw.c4 (h:OIw M m C N O L A H V W):W.cell? ⟨O.b4,0,none⟩ = some (ptr O.pb):=h.x4.cell 0
theorem OIw.c5 (h:OIw M m C N O L A H V W):W.cell? ⟨O.b5,0,none⟩ = some (.slice (some ⟨O.vb,0,none⟩) N N):=h.x5.cell 0
theorem OIw.p4 (h:OIw M m C N O L A H V W):W.cell? ⟨O.pb,4,none⟩ = some (.int .i64 V):=h.bp.cell 4
theorem OIw.p6 (h:OIw M m C N O L A H V W):W.cell? ⟨O.pb,6,none⟩ = some (.slice (some ⟨O.ab,0,none⟩) C C):=h.bp.cell 6
theorem OIw.p7 (h:OIw M m C N O L A H V W):W.cell? ⟨O.pb,7,none⟩ = some (.slice (some ⟨O.hb,0,none⟩) N N):=h.bp.cell 7
theorem OIw.ca (h:OIw M m C N O L A H V W) {i:Nat} (hi:i < A.length):W.cell? ⟨O.ab,i,none⟩ = some (.int .i64 (A.getD i 0)):=zs_cell h.ba hi
theorem OIw.ch (h:OIw M m C N O L A H V W) {i:Nat} (hi:i < H.length):W.cell? ⟨O.hb,i,none⟩ = some (.int .i64 (H.getD i 0)):=zs_cell h.bh hi
theorem OIw.cv (h:OIw M m C N O L A H V W) {i:Nat} (hi:i < L.length):W.cell? ⟨O.vb,i,none⟩ = some (.int .i64 (L.getD i 0:Nat)):=by
 rw [h.bv.cell];simp [ints,List.getElem?_map,List.getElem?_eq_getElem hi,gd0]
theorem OIw.lt (h:OIw M m C N O L A H V W):∀ k,O.S k→k < W.heap.size:=by
 rintro k (e | e | e | e)
 ·rw [e];exact h.bp.lt
 ·rw [e];exact h.ba.lt
 ·rw [e];exact h.bh.lt
 ·rw [e];exact h.bv.lt
end
def HdrIs (D:Nat→Nat) (f:Nat) (pg ver:Int):Prop:=(fw D f 19 = 0∧pg = -1∧ver = 0) ∨ (Valid D f∧pg = fpage D f∧ver = fver D f)
theorem hdrOf_is (D:Nat→Nat) (f:Nat):∃ pg ver,hdrOf D f = hdr pg ver false∧HdrIs D f pg ver:=by
 unfold hdrOf;by_cases h:fw D f 19 = 0
 ·rw [if_pos h];exact ⟨-1,0,rfl,.inl ⟨h,rfl,rfl⟩⟩
 ·rw [if_neg h];exact ⟨_,_,rfl,.inr ⟨h,rfl,rfl⟩⟩
theorem pOpen_ok {w:World} {M:MemAt} {m:Mem} {pc:Nat→List Nat} {C N:Nat} (hR:MemRep w M m) (hoff:m.off = false) (hcl:m.Clean) (hgood:m.Good) (h240:240≤m.size) (hC:m.size / 24 = C) (hN:m.size / 20 = N) (hH:Holds m.D C N m.writes pc) :
  Calls Tryz.prog 106 #[ptr M.mb] w fun e w'=>∃ P p,e = .returned (.tuple #[ptr P.pb,errno 0])∧Pg w' M m P p pc∧p.count = C∧p.frames = N∧Mod Nowhere w w'∧w.heap.size≤P.pb∧w.heap.size≤P.ab∧w.heap.size≤P.hb:=by
 have hm2:Mod Nowhere w ((w.alloc (.cells #[.pointer none] 173)).alloc (.cells #[.int .i64 0] 27)):=((Mod.refl _ w).alloc _).alloc _;have hR2:=hR.mod hm2 (fun _ _=>id);have hW:=Words_ok hR2;have hP:=Power_ok hR2;rw [hoff] at hP;have hCu:=Cuts_ok hR2
 have hz1:((m.size:Int) == 0) = false:=by
  have:¬ ((m.size:Int) = 0):=by omega
  simpa using this
 have hz2:decide ((m.size:Int) < 240) = false:=by
  have:¬ ((m.size:Int) < 240):=by omega
  simpa using this
 have hz3:(m.size:Int) / 24 = C:=by omega
 have hz4:(m.size:Int) / 20 = N:=by omega
 have hC16:C≤65536:=by have:=hR.ok.le;have:m.size≤65536:=this;omega
 have hN16:N≤65536:=by have:=hR.ok.le;have:m.size≤65536:=this;omega
 have hC1:1≤C:=by omega
 have hN1:1≤N:=by omega
 generalize m.size = sz at hW hz1 hz2 hz3 hz4;refine hid9 ?_ hW hP hCu hR2 hR hm2 hoff hC hN;clear hW hP hCu hR2 hR hm2 hoff hC hN;intro hW hP hCu hR2 hR hm2 hoff hC hN;refine (callsIn_wide (n:=8)).1 ?_;refine callsIn_of_wp_marks Tryz.func106 rfl trivial (wpIn_wide.2 ?_) rfl;simp only [Tryz.ntmps106,List.size_toArray,List.length_cons,List.length_nil,Nat.reduceAdd,Nat.reduceSub,Array.replicate_succ,Array.replicate_zero,List.push_toArray,List.append_toArray,List.nil_append,List.cons_append]
 go_wp2_with (first | (go_at_call 166;refine hW.out.mono ?_;rintro e w1 ⟨rfl,rfl⟩) | (go_at_call 39;refine hP.out.mono ?_;rintro e w1 ⟨rfl,rfl⟩) | (go_at_call 167;refine hCu.out.mono ?_;rintro e w1 ⟨rfl,rfl⟩))
 have hp0:Blk (((w.alloc (.cells #[.pointer none] 173)).alloc (.cells #[.int .i64 0] 27)).alloc (.cells #[ptr M.mb,.int .i64 m.cuts,.int .i64 C,.int .i64 N,.int .i64 0,.int .i64 0,.slice none 0 0,.slice none 0 0,.slice none 0 0,.int .i64 0] 246)) (w.heap.size + 1 + 1) [ptr M.mb,.int .i64 m.cuts,.int .i64 C,.int .i64 N,.int .i64 0,.int .i64 0,.slice none 0 0,.slice none 0 0,.slice none 0 0,.int .i64 0] 246:=by
  have:=Blk.new ((w.alloc (.cells #[.pointer none] 173)).alloc (.cells #[.int .i64 0] 27)) [ptr M.mb,.int .i64 m.cuts,.int .i64 C,.int .i64 N,.int .i64 0,.int .i64 0,.slice none 0 0,.slice none 0 0,.slice none 0 0,.int .i64 0] 246;simpa using this
 obtain ⟨W4,hW4⟩:∃ W4,((((w.alloc (.cells #[.pointer none] 173)).alloc (.cells #[.int .i64 0] 27)).alloc (.cells #[ptr M.mb,.int .i64 m.cuts,.int .i64 C,.int .i64 N,.int .i64 0,.int .i64 0,.slice none 0 0,.slice none 0 0,.slice none 0 0,.int .i64 0] 246)).alloc (.cells #[ptr (w.heap.size + 1 + 1)] 173)) = W4:=⟨_,rfl⟩;have hp4:Blk W4 (w.heap.size + 1 + 1) [ptr M.mb,.int .i64 m.cuts,.int .i64 C,.int .i64 N,.int .i64 0,.int .i64 0,.slice none 0 0,.slice none 0 0,.slice none 0 0,.int .i64 0] 246:=by rw [← hW4];exact hp0.alloc _
 have hx4:Blk W4 (w.heap.size + 1 + 1 + 1) [ptr (w.heap.size + 1 + 1)] 173:=by
  rw [← hW4];have:=Blk.new (((w.alloc (.cells #[.pointer none] 173)).alloc (.cells #[.int .i64 0] 27)).alloc (.cells #[ptr M.mb,.int .i64 m.cuts,.int .i64 C,.int .i64 N,.int .i64 0,.int .i64 0,.slice none 0 0,.slice none 0 0,.slice none 0 0,.int .i64 0] 246)) [ptr (w.heap.size + 1 + 1)] 173;simpa using this
 have ha4:Blk W4 w.heap.size [.pointer none] 173:=by
  rw [← hW4];exact (((Blk.new w [.pointer none] 173).alloc _).alloc _).alloc _
 have hb4:Blk W4 (w.heap.size + 1) [.int .i64 0] 27:=by
  rw [← hW4];have:=((Blk.new (w.alloc (.cells #[.pointer none] 173)) [.int .i64 0] 27).alloc (.cells #[ptr M.mb,.int .i64 m.cuts,.int .i64 C,.int .i64 N,.int .i64 0,.int .i64 0,.slice none 0 0,.slice none 0 0,.slice none 0 0,.int .i64 0] 246)).alloc (.cells #[ptr (w.heap.size + 1 + 1)] 173);simpa using this
 have hm4:Mod Nowhere w W4:=by rw [← hW4];exact (((((Mod.refl _ w).alloc _).alloc _).alloc _).alloc _)
 have hs4:W4.heap.size = w.heap.size + 4:=by rw [← hW4];simp
 rw [hW4];clear hW4 hp0 hW hP hCu hR2 hm2;have c1:=hp4.cell 2;have c2:=hp4.cell 3;have c3:=hx4.cell 0;have c6:=hp4.cell 6;have c7:=hp4.cell 7;have cz:=hp4.frozen;have cl:=hp4.lt;have xl:=hx4.lt;have cl1:w.heap.size + 1 + 1 < W4.heap.size + 1:=by omega
 simp at c1 c2 c3 c6 c7;refine hid6 ?_ hp4 hx4 ha4 hb4 hm4 hs4;clear hp4 hx4 ha4 hb4 hm4 hs4;intro hp4 hx4 ha4 hb4 hm4 hs4
 go_cut [] from 9 to 127 (fun w1=>∃ ab hb:Nat,w.heap.size + 4≤ab∧w.heap.size + 4≤hb∧ab ≠ hb∧Blk w1 ab (List.replicate C (.int .i64 (-1))) 3∧Blk w1 hb (List.replicate N (.int .i64 (-1))) 3 ∧
  Blk w1 (w.heap.size + 1 + 1) [ptr M.mb,.int .i64 m.cuts,.int .i64 C,.int .i64 N,.int .i64 0,.int .i64 0,.slice (some ⟨ab,0,none⟩) C C,.slice (some ⟨hb,0,none⟩) N N,.slice none 0 0,.int .i64 0] 246∧Mod (Only (w.heap.size + 1 + 1)) W4 w1)
 case first =>
  go_region_held3 (fun w'=>w'.cell? ⟨w.heap.size + 1 + 1 + 1,0,none⟩ = some (ptr (w.heap.size + 1 + 1))∧w'.cell? ⟨w.heap.size + 1 + 1,2,none⟩ = some (.int .i64 C)∧w'.cell? ⟨w.heap.size + 1 + 1,3,none⟩ = some (.int .i64 N)) (simp [*,World.cell?_alloc_some,World.cell?_setCell_far,World.cell?_setCell_other])
   (first | (go_at_call 168;(with_reducible refine (Repeat_int (z:=-1) ?_ C ?_ ?_).mono ?_);(first | (simp [*]) | (rw [hcc _ _ (by simp;omega)];simp [*]));exact hC1;exact hC16;rintro e eA ⟨rfl,hbA,hmA⟩;have hszA:=hmA.size;(try simp at hszA);have hmA4:Mod Nowhere W4 eA:=(by refine Mod.trans ?_ hmA;repeat (first | exact Mod.refl _ _ | assumption | refine Mod.drew ?_ | refine Mod.alloc ?_ _));have k1:=(hmA.cell (p:=⟨w.heap.size + 1 + 1 + 1,0,none⟩) (by first | assumption | omega | (simp;omega)) id);have k2:=(hmA.cell (p:=⟨w.heap.size + 1 + 1,2,none⟩) (by first | assumption | omega | (simp;omega)) id);have k3:=(hmA.cell (p:=⟨w.heap.size + 1 + 1,3,none⟩) (by first | assumption | omega | (simp;omega)) id);have k4:=(hmA.cell (p:=⟨w.heap.size + 1 + 1,6,none⟩) (by first | assumption | omega | (simp;omega)) id);have k5:=(hmA.cell (p:=⟨w.heap.size + 1 + 1,7,none⟩) (by first | assumption | omega | (simp;omega)) id);have k6:=(hmA.frozen (p:=⟨w.heap.size + 1 + 1,6,none⟩) (by first | assumption | omega | (simp;omega)) id);have k7:=(hmA.frozen (p:=⟨w.heap.size + 1 + 1,7,none⟩) (by first | assumption | omega | (simp;omega)) id);have hcc:=(fun b o (h:b < _)=>hmA.cell (p:=⟨b,o,none⟩) h id);have k8:w.heap.size + 1 + 1 < eA.heap.size:=(by omega);have k9:w.heap.size + 1 + 1 + 1 < eA.heap.size:=(by omega);have k10:w.heap.size + 1 + 1 < eA.heap.size + 1:=(by omega);replace hbA:=Lib.hid hbA;replace hmA:=Lib.hid hmA;replace hmA4:=Lib.hid hmA4) | (go_at_call 168;(with_reducible refine (Repeat_int (z:=-1) ?_ N ?_ ?_).mono ?_);(first | (simp [*]) | (rw [hcc _ _ (by simp;omega)];simp [*]));exact hN1;exact hN16;rintro e eB ⟨rfl,hbB,hmB⟩;have hszB:=hmB.size;(try simp at hszB);have hmB4:Mod Nowhere W4 eB:=(by refine Mod.trans ?_ hmB;repeat (first | exact Mod.refl _ _ | assumption | refine Mod.drew ?_ | refine Mod.alloc ?_ _));have hmAB:Mod Nowhere eA eB:=(by refine Mod.trans ?_ hmB;repeat (first | exact Mod.refl _ _ | assumption | refine Mod.drew ?_ | refine Mod.alloc ?_ _));have k1:=(hmB.cell (p:=⟨w.heap.size + 1 + 1 + 1,0,none⟩) (by first | assumption | omega | (simp;omega)) id);have k2:=(hmB.cell (p:=⟨w.heap.size + 1 + 1,2,none⟩) (by first | assumption | omega | (simp;omega)) id);have k3:=(hmB.cell (p:=⟨w.heap.size + 1 + 1,3,none⟩) (by first | assumption | omega | (simp;omega)) id);have k4:=(hmB.cell (p:=⟨w.heap.size + 1 + 1,6,none⟩) (by first | assumption | omega | (simp;omega)) id);have k5:=(hmB.cell (p:=⟨w.heap.size + 1 + 1,7,none⟩) (by first | assumption | omega | (simp;omega)) id);have k6:=(hmB.frozen (p:=⟨w.heap.size + 1 + 1,6,none⟩) (by first | assumption | omega | (simp;omega)) id);have k7:=(hmB.frozen (p:=⟨w.heap.size + 1 + 1,7,none⟩) (by first | assumption | omega | (simp;omega)) id);have hcc:=(fun b o (h:b < _)=>hmB.cell (p:=⟨b,o,none⟩) h id);have k8:w.heap.size + 1 + 1 < eB.heap.size:=(by omega);have k9:w.heap.size + 1 + 1 + 1 < eB.heap.size:=(by omega);have k10:w.heap.size + 1 + 1 < eB.heap.size + 1:=(by omega);replace hbB:=Lib.hid hbB;replace hmB:=Lib.hid hmB;replace hmB4:=Lib.hid hmB4))
  all_goals
   go_wp2;go_meet
   case rel =>
    have hbA':=hbA.out.mod hmAB id;have hbB':=hbB.out;have hm4B:=hmB4.out;have hs4':=hs4.out;have hlA:=hbA.out.lt;simp only [World.size_alloc,drew_heap'] at hbA' hbB' hlA;refine ⟨_,_,?_,?_,?_,((hbA'.setCell_other ?_ _).setCell_other ?_ _),((hbB'.setCell_other ?_ _).setCell_other ?_ _),(((hp4.out.mod hm4B id).setCell 6 _).setCell 7 _).conv rfl,((hm4B.nowhere).setCell (fun _=>show Only (w.heap.size + 1 + 1) (w.heap.size + 1 + 1) from rfl) _).setCell (fun _=>show Only (w.heap.size + 1 + 1) (w.heap.size + 1 + 1) from rfl) _⟩
    all_goals (try dsimp only)
    all_goals omega
 case rest =>
  obtain ⟨ab,hb,hab,hhb,hne,hba,hbh,hbp,hmc⟩:=hcut;have hsc:=hmc.size;have hs4':=hs4.out;have hm5:Mod Nowhere w wc:=hm4.out.step hmc (fun i hi e=>by have e:i = w.heap.size + 1 + 1:=e;omega);have hx5:=hx4.out.mod hmc (fun e=>by have e:w.heap.size + 1 + 1 + 1 = w.heap.size + 1 + 1:=e;omega);have ha5:=ha4.out.mod hmc (fun e=>by have e:w.heap.size = w.heap.size + 1 + 1:=e;omega);have hb5:=hb4.out.mod hmc (fun e=>by have e:w.heap.size + 1 = w.heap.size + 1 + 1:=e;omega);have hR5:=hR.out.mod hm5 (fun _ _=>id);have hmk:=run_make_full (P:=Tryz.prog) 109 3 (.int .i64 0) 8 Tryz.underlying109 info_i64 rfl N (by omega) (by omega) wc;have c1:=hbp.cell 3
  have c3:=hx5.cell 0;have clc:=hbp.lt;have xlc:=hx5.lt;simp at c1 c3;clear c2 c6 c7 cz cl cl1 xl;refine hid9 ?_ hs4' hx5 ha5 hb5 hR5 hm5 hba hbh hbp;clear hs4' hx5 ha5 hb5 hR5 hm5 hba hbh hbp;intro hs4' hx5 ha5 hb5 hR5 hm5 hba hbh hbp;generalize hZ:(List.replicate N (Value.int .i64 0)).toArray = Z at hmk;replace hZ:=Lib.hid hZ;clear hmc hm4 hx4 ha4 hb4 hp4
  go_wp2_with (go_at_call 169;refine (headers_any _ _).mono ?_;rintro e w1 ⟨rfl,rfl⟩)
  obtain ⟨O,hO⟩:∃ O:OAt,O = { w0:=w,pb:=w.heap.size + 1 + 1,ab:=ab,hb:=hb,vb:=wc.heap.size,b2:=w.heap.size,b3:=w.heap.size + 1,b4:=w.heap.size + 1 + 1 + 1,b5:=wc.heap.size + 1,bn:=wc.heap.size + 1 + 1 }:=⟨_,rfl⟩;generalize hW0:((wc.alloc (Obj.cells Z 3)).alloc (Obj.cells #[Value.slice (some ⟨wc.heap.size,0,none⟩) N N] 109)).alloc (Obj.cells #[ptr (w.heap.size + 1 + 1)] 173) = W0;have hs0:W0.heap.size = wc.heap.size + 3:=by rw [← hW0];simp
  have hm0:Mod Nowhere wc W0:=by rw [← hW0];exact (((Mod.refl _ wc).alloc _).alloc _).alloc _
  have hMlt:∀ k,M.S k→k < w.heap.size:=hR.out.lt;have hac:=hba.out.lt;have hhc:=hbh.out.lt
  have hI0:OIw M m C N O (List.replicate N 0) (List.replicate C (-1)) (List.replicate N (-1)) 0 W0:=by
   have v0:Blk W0 wc.heap.size (ints (List.replicate N 0)) 3:=by
    rw [← hW0,← hZ.out];exact ((((Blk.new wc (List.replicate N (.int .i64 0)) 3).alloc _).alloc _)).conv (by simp [ints])
   have v5:Blk W0 (wc.heap.size + 1) [.slice (some ⟨wc.heap.size,0,none⟩) N N] 109:=by
    rw [← hW0];have:=(Blk.new (wc.alloc (Obj.cells Z 3)) [Value.slice (some ⟨wc.heap.size,0,none⟩) N N] 109).alloc (Obj.cells #[ptr (w.heap.size + 1 + 1)] 173);rw [World.size_alloc] at this;exact this
   have vn:Blk W0 (wc.heap.size + 1 + 1) [ptr (w.heap.size + 1 + 1)] 173:=by
    rw [← hW0];have:=Blk.new ((wc.alloc (Obj.cells Z 3)).alloc (Obj.cells #[Value.slice (some ⟨wc.heap.size,0,none⟩) N N] 109)) [ptr (w.heap.size + 1 + 1)] 173;rw [World.size_alloc,World.size_alloc] at this;exact this
   rw [hO];exact ⟨(hbp.out.mod hm0 id).conv rfl,(hba.out.mod hm0 id).conv (by simp [zs]),(hbh.out.mod hm0 id).conv (by simp [zs]),v0,ha5.out.mod hm0 id,hb5.out.mod hm0 id,hx5.out.mod hm0 id,v5,vn,hR5.out.mod hm0 (fun _ _=>id),hm5.out.trans hm0⟩
  have hOk:O.Ok M:=by
   have h4:=hs4'.out;rw [hO];refine ⟨by show _ ≠ _;dsimp only;omega,by show _ ≠ _;dsimp only;omega,by show _ ≠ _;dsimp only;omega,by show _ ≠ _;dsimp only;omega,by show _ ≠ _;dsimp only;omega,by show _ ≠ _;dsimp only;omega,?_,?_,?_,?_,?_,?_,?_⟩
   ·unfold OAt.S;dsimp only;omega
   ·unfold OAt.S;dsimp only;omega
   ·unfold OAt.S;dsimp only;omega
   ·unfold OAt.S;dsimp only;omega
   ·unfold OAt.S;dsimp only;omega
   ·intro k hk hM;have:=hMlt k hM;unfold OAt.S at hk;dsimp only at hk;omega
   ·intro k hk;unfold OAt.S at hk;dsimp only at hk ⊢;omega
  have hOlt:=hI0.lt;have e4:w.heap.size + 1 + 1 + 1 = O.b4:=by rw [hO]
  have ep:w.heap.size + 1 + 1 = O.pb:=by rw [hO]
  have e3:w.heap.size + 1 = O.b3:=by rw [hO]
  have e2:w.heap.size = O.b2:=by rw [hO]
  have en:wc.heap.size + 1 + 1 = O.bn:=by rw [hO]
  have e5:wc.heap.size + 1 = O.b5:=by rw [hO]
  have ev:wc.heap.size = O.vb:=by rw [hO]
  rw [e4,ep,e3,e2,en,e5,ev];replace hO:=Lib.hid hO;clear e4 ep e3 e2 en e5 ev;refine hid2 ?_ hs0 hW0;clear hs0 hW0;intro hs0 hW0;refine (wpIn_wide (n:=8)).1 ?_
  refine wpIn_range (F:=Fence.wide) (n:=8) (σ:=List Nat × Nat) rfl (by omega) (gf:=230) (lb:=#[.pointer (some ⟨O.bn,0,none⟩)]) rfl trivial (enters_of Tryz.func230 (by kernel_rfl) rfl)
   O.S ?hSD ?hSl (fun s args W=>args = encH m.D N s.2∧s.1.length < N∧W0.heap.size≤W.heap.size∧∃ L A H V,OInv m.D C N (fun f=>f ∈ s.1) L A H V∧OIw M m C N O L A H V W)
   (fun s W=>∃ L A H V,OInv m.D C N (fun f=>f ∈ s.1 ++ [s.2 % N]) L A H V∧OIw M m C N O L A H V W) (fun _ _=>False) (fun W=>∃ L A H V,OInv m.D C N (fun f=>f ∈ List.range N) L A H V∧OIw M m C N O L A H V W)
   ?hZ ?hX ?hT ?hps (fun s a' W=>∃ (Bx:Nat) (pg ver:Int),(W0.heap.size≤Bx∧HdrIs m.D (s.2 % N) pg ver∧Blk W Bx [.int .i64 pg,.int .i64 ver,.bool false] 252∧∃ L A H V,OInv m.D C N (fun f=>f ∈ s.1) L A H V∧OIw M m C N O L A H V W) ∧
    a' = { tmps:=#[ptr M.mb,undef,.pointer (some ⟨O.b2,0,none⟩),.pointer (some ⟨O.b3,0,none⟩),.pointer (some ⟨O.b4,0,none⟩),.pointer (some ⟨O.b5,0,none⟩),.int .i64 (s.2 % N:Nat),.pointer (some ⟨Bx,0,none⟩),undef,u9,u10,u11,u12,u13,u14,u15,u16,u17,u18,u19,u20,u21,u22,u23,u24,u25,u26,u27,u28,u29,u30,u31,u32,u33,u34,u35,u36,u37,u38,u39,u40,u41,u42,u43,u44,u45,u46,u47,u48,u49,u50,u51,u52,u53,ptr O.pb,.pointer (some ⟨O.pb,0,none⟩),.pointer (some ⟨O.pb,3,none⟩),.int .i64 N,.slice (some ⟨O.vb,0,none⟩) N N,ptr O.pb,.func (.func 230) #[] #[.pointer (some ⟨O.bn,0,none⟩)],.int .i64 (s.2 % N:Nat),hdr pg ver false,u63,u64,u65,u66,u67,u68,u69,u70,u71,u72,u73,u74,u75,u76,u77,u78,u79,u80,u81,u82,u83,u84,u85,u86,u87,u88,u89,u90,u91,u92,u93,u94,u95,u96,u97,u98,u99,u100,u101,u102,u103,u104,u105,u106,u107,u108,u109,u110,u111,u112,u113,u114,u115,u116,u117,u118,u119,u120,u121,u122,u123,u124,u125,u126,u127],defers:=[] }) ?hAx ?hassign ?hbody ?hit ?hdone ?hstop
  case hSD=>exact fun e=>by have:=hOlt _ e;omega
  case hSl=>exact fun e=>by have:=hOlt _ e;omega
  case hZ=>rintro s W r o o' ⟨L,A,H,V,h1,h2⟩ hB hr ho;exact ⟨L,A,H,V,h1,h2.put (Nat.le_trans hI0.md.size hB) hr ho⟩
  case hX=>exact fun _ _ _ _ _ h _ _ _=>h
  case hT=>rintro W r o o' ⟨L,A,H,V,h1,h2⟩ hB hr ho;exact ⟨L,A,H,V,h1,h2.put (Nat.le_trans hI0.md.size hB) hr ho⟩
  case hps=>rintro s args W ⟨rfl,_⟩;rfl
  case hAx=>rintro s a' W r o o' ⟨Bx,pg,ver,⟨h1,h2,h3,L,A,H,V,h4,h5⟩,h6⟩ hB hr ho;exact ⟨Bx,pg,ver,⟨h1,h2,h3.put hr ho,L,A,H,V,h4,h5.put (Nat.le_trans hI0.md.size hB) hr ho⟩,h6⟩
  case hassign =>
   rintro l ⟨pre,x⟩ args W ⟨rfl,hlen,hsz,L,A,H,V,hinv,hI⟩;obtain ⟨pg,ver,hh,hHd⟩:=hdrOf_is m.D (x % N);unfold encH;rw [hh];unfold hdr
   have hfin:Mod O.S W (W.alloc (.cells #[.int .i64 pg,.int .i64 ver,.bool false] 252))∧∃ (Bx:Nat) (pg1 ver1:Int),(W0.heap.size≤Bx∧HdrIs m.D (x % N) pg1 ver1∧Blk (W.alloc (.cells #[.int .i64 pg,.int .i64 ver,.bool false] 252)) Bx [.int .i64 pg1,.int .i64 ver1,.bool false] 252∧∃ L A H V,OInv m.D C N (fun f=>f ∈ pre) L A H V∧OIw M m C N O L A H V (W.alloc (.cells #[.int .i64 pg,.int .i64 ver,.bool false] 252)))∧W.heap.size = Bx∧pg = pg1∧ver = ver1 :=
    ⟨(Mod.refl _ W).alloc _,W.heap.size,pg,ver,⟨hsz,hHd,Blk.new W _ _,L,A,H,V,hinv,hI.mod ((Mod.refl Nowhere W).alloc _) (fun _ _=>id)⟩,rfl,rfl,rfl⟩
   replace hfin:=Lib.hid hfin;clear hh hHd hinv hI
   gi_wp2
   exact hfin.out
  case hbody =>
   rintro l ⟨pre,x⟩ a' W ⟨Bx,pg,ver,⟨hBx,hHd,hbB,L,A,H,V,hinv,hI⟩,rfl⟩;dsimp only at *;have hf:x % N < N:=Nat.mod_lt _ (by omega);generalize x % N = f at *;have hBS:¬ O.S Bx:=fun e=>by have:=hOlt Bx e;omega
   have nv:¬ O.vb = Bx:=fun e=>hBS (e ▸ .inr (.inr (.inr rfl)));have y0:=hbB.cell 0;have y1:=hbB.cell 1;have y2:=hbB.cell 2;have y5:=hI.x5.cell 0;have hvl:f < L.length:=by rw [hinv.vl];exact hf
   have yv:W.cell? ⟨O.vb,f,none⟩ = some (.int .i64 (L.getD f 0:Nat)):=by
    rw [hI.bv.cell];simp [ints,List.getElem?_map,List.getElem?_eq_getElem hvl,gd0]
   have yz:=hI.bv.frozen;have yl:=hI.bv.lt;simp at y0 y1 y2 y5;generalize L.getD f 0 = vv at yv;rcases hHd with ⟨h0,rfl,rfl⟩ | ⟨hv,rfl,rfl⟩
   ·have hend:Mod O.S W (W.setCell ⟨O.vb,f,none⟩ (.int .i64 0))∧∃ L A H V,OInv m.D C N (fun g=>g ∈ pre ++ [f]) L A H V∧OIw M m C N O L A H V (W.setCell ⟨O.vb,f,none⟩ (.int .i64 0)):=by
     refine ⟨(Mod.refl _ W).setCell (fun _=>.inr (.inr (.inr rfl))) _,L.set f 0,A,H,V,?_,hI.setV hOk f 0⟩;have:=hinv.skip hf h0;exact this.congr (fun g=>by simp [Plus])
    replace hend:=Lib.hid hend;clear hinv hI hbB h0
    gi_wp2
    exact hend.out
   ·have hpC:fpage m.D f < C:=(hH.ok f (by omega)).page hv
    have hvp:((fpage m.D f:Int) == -1) = false:=by
     have:¬ ((fpage m.D f:Int) = -1):=by omega
     simp only [beq_eq_false_iff_ne,ne_eq];exact this
    have hI1:=hI.setV hOk f (fver m.D f);have hm1:Mod O.S W (W.setCell ⟨O.vb,f,none⟩ (.int .i64 (fver m.D f))):=(Mod.refl _ W).setCell (fun _=>.inr (.inr (.inr rfl))) _;have hb1:=hbB.setCell_other (fun e=>nv e.symm) (a:=⟨O.vb,f,none⟩) (.int .i64 (fver m.D f));refine hid3 ?_ hI1 hm1 hb1;clear hI1 hm1 hb1;intro hI1 hm1 hb1;clear hI hbB
    gi_wp2
    generalize W.setCell ⟨O.vb,f,none⟩ (.int .i64 (fver m.D f)) = W1 at hI1 hm1 hb1 ⊢;clear y0 y1 y2 y5 yv yz yl;have z0:=hI1.out.c4;have z1:=hI1.out.p4;have z2:W1.cell? ⟨Bx,1,none⟩ = some (.int .i64 (fver m.D f)):=hb1.out.cell 1;have zz:=hI1.out.bp.frozen;have zl:=hI1.out.bp.lt;refine wpIn_region_last 10 _ (by rfl) (by rfl) (W1.drew.setCell ⟨O.pb,4,none⟩ (.int .i64 (max V (fver m.D f):Nat))) (fun i=>([ptr O.pb,ptr O.pb,ptr O.pb,.pointer (some ⟨O.pb,4,none⟩),.int .i64 V,.pointer (some ⟨Bx,1,none⟩),.int .i64 (fver m.D f),.int .i64 (max V (fver m.D f):Nat),ptr O.pb,.pointer (some ⟨O.pb,4,none⟩)]:List Value).getD i undef) ?A (by kernel_rfl) (by kernel_rfl) (by kernel_rfl) ?hA (by kernel_rfl) rfl ?hstep ?hlast ?hend
    case hA =>
     simp [putAll,List.range,List.range.loop,Act.put]
     rfl
    case hstep =>
     refine ⟨?_,?_,?_,?_,?_,?_,?_,?_,?_,?_,trivial⟩
     all_goals go_simp
     omega
    case hlast =>
     go_simp
    clear z0 z1 z2 zz zl;have hI2:=(hI1.out.drew).setVer hOk (max V (fver m.D f));have hm2:Mod O.S W (W1.drew.setCell ⟨O.pb,4,none⟩ (.int .i64 (max V (fver m.D f):Nat))):=(hm1.out.drew).setCell (fun _=>.inl rfl) _;have hb2:=hb1.out.drew.setCell_other (fun e=>hBS (e ▸ .inl rfl)) (a:=⟨O.pb,4,none⟩) (.int .i64 (max V (fver m.D f):Nat));generalize W1.drew.setCell ⟨O.pb,4,none⟩ (.int .i64 (max V (fver m.D f):Nat)) = W2 at hI2 hm2 hb2 ⊢;clear hI1 hm1 hb1
    gi_wp2
    have z0:=hI2.c4;have z1:=hI2.p6;have z2:W2.cell? ⟨Bx,0,none⟩ = some (.int .i64 (fpage m.D f)):=hb2.cell 0;have z3:=hI2.ca (i:=fpage m.D f) (by rw [hinv.al];exact hpC);have hAp':=hinv.lt hpC;obtain ⟨ap,hap⟩:∃ ap,A.getD (fpage m.D f) 0 = ap:=⟨_,rfl⟩;rw [hap] at z3 hAp';refine hid4 ?_ hap hI2 hm2 hb2;clear hap hI2 hm2 hb2;intro hap hI2 hm2 hb2;have hpi:(fpage m.D f:Int) < C:=by omega
    have hpi0:(0:Int)≤fpage m.D f:=by omega
    refine wpIn_region_reads (fun i=>([ptr O.pb,ptr O.pb,.pointer (some ⟨O.pb,6,none⟩),.slice (some ⟨O.ab,0,none⟩) C C,.pointer (some ⟨Bx,0,none⟩),.int .i64 (fpage m.D f),.pointer (some ⟨O.ab,fpage m.D f,none⟩),.int .i64 ap,.int .i64 ap]:List Value).getD i undef) ?A8 (by kernel_rfl) (by kernel_rfl) (by kernel_rfl) ?hA8 ?hstep8 ?hend8
    case hA8 =>
     simp [putAll,List.range,List.range.loop,Act.put]
     rfl
    case hstep8 =>
     refine ⟨?_,?_,?_,?_,?_,?_,?_,?_,?_,trivial⟩
     all_goals go_simp
    clear z0 z1 z2 z3;have hI3:=hI2.out.drew;have hm3:=hm2.out.drew;have hb3:=hb2.out.drew;generalize W2.drew = W3 at hI3 hm3 hb3 ⊢;clear hI2 hm2 hb2;have hvl2:=hinv.vset hf (x:=fver m.D f) (by rw [if_neg hv]);rcases hAp' with rfl | ⟨old,rfl,hold⟩
    ·gi_wp2
     have q4:=hI3.c4;have q6:=hI3.p6;refine hid3 ?_ hI3 hm3 hb3;clear hI3 hm3 hb3;intro hI3 hm3 hb3;clear q4 q6
     refine wpIn_region_round (fun i=>([ptr O.pb,ptr O.pb,.pointer (some ⟨O.pb,6,none⟩),.slice (some ⟨O.ab,0,none⟩) C C,.pointer (some ⟨Bx,0,none⟩),.int .i64 (fpage m.D f),ptr O.pb,ptr O.pb,.pointer (some ⟨O.pb,7,none⟩),.slice (some ⟨O.hb,0,none⟩) N N,.int .i64 f,.int .i64 f,.pointer (some ⟨Bx,0,none⟩),.int .i64 (fpage m.D f),.pointer (some ⟨O.ab,fpage m.D f,none⟩),undef,.pointer (some ⟨O.hb,f,none⟩),undef]:List Value).getD i undef) ?Aa
      (fun mk W'=>(OIw M m C N O (L.set f (fver m.D f)) (if mk 15 then A.set (fpage m.D f) f else A) (if mk 17 then (H).set f (fpage m.D f) else (H)) (max V (fver m.D f)) W'∧Mod O.S W W')∧Blk W' Bx [.int .i64 (fpage m.D f),.int .i64 (fver m.D f),.bool false] 252)
      (by kernel_rfl) (by kernel_rfl) (by kernel_rfl) ?hAa ?h0a ?hstepa ?henda
     case hAa =>
      simp [putAll,List.range,List.range.loop,Act.put]
      rfl
     case h0a=>exact ⟨⟨hI3.out.drew,hm3.out.drew⟩,hb3.out.drew⟩
     case hstepa =>
      have hpl:fpage m.D f < A.length:=by rw [hinv.al];exact hpC
      have hfl:f < (H).length:=by rw [hinv.hl];exact hf
      have hA2:∀ (b:Bool),fpage m.D f < (if b = true then A.set (fpage m.D f) f else A).length:=fun b=>by split <;> simp [hpl]
      have hfl0:f < H.length:=by rw [hinv.hl];exact hf
      have hH2:∀ (b:Bool),f < (if b = true then (H).set f (fpage m.D f) else (H)).length:=fun b=>by split <;> simp [hfl0]
      have hfi:(f:Int) < N:=by omega
      have hfi0:(0:Int)≤f:=by omega
      refine ⟨?_,?_,?_,?_,?_,?_,?_,?_,?_,?_,?_,?_,?_,?_,?_,?_,?_,?_,trivial⟩
      all_goals
       rintro mk W' - hmk - ⟨⟨hIm,hmm⟩,hbm⟩;have q4:=hIm.c4;have q6:=hIm.p6;have q7:=hIm.p7;have qb:W'.cell? ⟨Bx,0,none⟩ = some (.int .i64 (fpage m.D f)):=hbm.cell 0;have qa:=hIm.ca (hA2 (mk 15));have qh:=hIm.ch (hH2 (mk 17));have qza:=hIm.ba.frozen;have qzh:=hIm.bh.frozen;have qla:=hIm.ba.lt;have qlh:=hIm.bh.lt;generalize (if mk 15 = true then A.set (fpage m.D f) f else A).getD (fpage m.D f) 0 = xa at qa;generalize (if mk 17 = true then (H).set f (fpage m.D f) else (H)).getD f 0 = xh at qh;refine hid3 ?_ hIm hmm hbm;clear hIm hmm hbm;intro hIm hmm hbm
      all_goals first
       | (refine ⟨W', .inl ?_, ?_⟩; · (go_simp; done)
          exact ⟨⟨hIm.out,hmm.out⟩,hbm.out⟩)
       | (refine ⟨W'.setCell ⟨O.ab, fpage m.D f, none⟩ (.int .i64 f), .inr ⟨?_, rfl⟩, ?_⟩; · (go_simp; done)
          have g1:=hIm.out.setA hOk (fpage m.D f) (f:Int);simp only [hmk,Bool.false_eq_true,if_false] at g1
          exact ⟨⟨g1,hmm.out.setCell (fun _=>.inr (.inl rfl)) _⟩,hbm.out.setCell_other (fun e=>hBS (e ▸ .inr (.inl rfl))) _⟩)
       | (refine ⟨W'.setCell ⟨O.hb, f, none⟩ (.int .i64 (fpage m.D f)), .inr ⟨?_, rfl⟩, ?_⟩; · (go_simp; done)
          have g1:=hIm.out.setH hOk f (fpage m.D f:Int);simp only [hmk,Bool.false_eq_true,if_false] at g1
          exact ⟨⟨g1,hmm.out.setCell (fun _=>.inr (.inr (.inl rfl))) _⟩,hbm.out.setCell_other (fun e=>hBS (e ▸ .inr (.inr (.inl rfl)))) _⟩)
     case henda =>
      rintro mk W' hall ⟨⟨hIm,hmm⟩,-⟩;have m1:=hall 15 (by simp);have m2:=hall 17 (by simp);simp only [m1,m2,if_true] at hIm
      have hfin:Mod O.S W W'∧∃ L A H V,OInv m.D C N (fun g=>g ∈ pre ++ [f]) L A H V∧OIw M m C N O L A H V W':=by
       refine ⟨hmm,_,_,_,_,?_,hIm⟩;refine (hinv.newer hf hv rfl hpC (.inl hap.out) ?_).congr (fun g=>by simp [Plus]);rw [if_pos hap.out]
      replace hfin:=Lib.hid hfin;clear hIm hmm m1 m2 hall
      gi_wp2
      exact hfin.out
    ·have hlo:(L.set f (fver m.D f)).getD old 0 = if f = old then fver m.D f else L.getD old 0:=by
      rw [getD_setN];by_cases e:f = old
      ·rw [if_pos ⟨e,hvl⟩,if_pos e]
      ·rw [if_neg (fun q=>e q.1),if_neg e]
     have hneg:((old:Int) == -1) = false:=by
      have:¬ ((old:Int) = -1):=by omega
      simp only [beq_eq_false_iff_ne,ne_eq];exact this
     have z5:=hI3.c5;have z6:=hI3.cv (i:=old) (by rw [List.length_set,hinv.vl];exact hold);have z7:W3.cell? ⟨Bx,1,none⟩ = some (.int .i64 (fver m.D f)):=hb3.cell 1;obtain ⟨lo,hlo'⟩:∃ lo,(L.set f (fver m.D f)).getD old 0 = lo:=⟨_,rfl⟩;rw [hlo'] at z6 hlo;refine hid5 ?_ hlo' hlo hI3 hm3 hb3;clear hlo' hlo hI3 hm3 hb3;intro hlo' hlo hI3 hm3 hb3;have hoi:(old:Int) < N:=by omega
     have hoi0:(0:Int)≤old:=by omega
     have hSelf:L.getD f 0≤L.getD f 0:=Nat.le_refl _
     gi_wp2
     by_cases hgt:fver m.D f < lo
     ·have hd:decide ((fver m.D f:Int) < lo) = true:=by simpa using hgt
      refine wpIn_region_reads (fun i=>([.slice (some ⟨O.vb,0,none⟩) N N,.int .i64 old,.pointer (some ⟨O.vb,old,none⟩),.int .i64 lo,.pointer (some ⟨Bx,1,none⟩),.int .i64 (fver m.D f),.bool true]:List Value).getD i undef) ?A20 (by kernel_rfl) (by kernel_rfl) (by kernel_rfl) ?hA20 ?hstep20 ?hend20
      case hA20 =>
       simp [putAll,List.range,List.range.loop,Act.put]
       rfl
      case hstep20 =>
       refine ⟨?_,?_,?_,?_,?_,?_,?_,trivial⟩
       all_goals go_simp
      have hfin:Mod O.S W W3.drew∧∃ L A H V,OInv m.D C N (fun g=>g ∈ pre ++ [f]) L A H V∧OIw M m C N O L A H V W3.drew:=by
       refine ⟨hm3.out.drew,_,_,_,_,?_,hI3.out.drew⟩;have h1:=hlo.out;have hfo:¬ f = old:=fun e=>by rw [if_pos e] at h1;omega
       rw [if_neg hfo] at h1;exact (hinv.older hf hv hap.out hpC (by omega)).congr (fun g=>by simp [Plus])
      replace hfin:=Lib.hid hfin;clear z5 z6 z7
      gi_wp2
      exact hfin.out
     ·have hd:decide ((fver m.D f:Int) < lo) = false:=by simpa using hgt
      refine wpIn_region_reads (fun i=>([.slice (some ⟨O.vb,0,none⟩) N N,.int .i64 old,.pointer (some ⟨O.vb,old,none⟩),.int .i64 lo,.pointer (some ⟨Bx,1,none⟩),.int .i64 (fver m.D f),.bool false]:List Value).getD i undef) ?A21 (by kernel_rfl) (by kernel_rfl) (by kernel_rfl) ?hA21 ?hstep21 ?hend21
      case hA21 =>
       simp [putAll,List.range,List.range.loop,Act.put]
       rfl
      case hstep21 =>
       refine ⟨?_,?_,?_,?_,?_,?_,?_,trivial⟩
       all_goals go_simp
      have hle:L.getD old 0≤fver m.D f:=by
       have h1:=hlo.out;by_cases hfo:f = old
       ·subst hfo;rcases hinv.at_ _ hpC with ⟨e,_⟩ | ⟨g,hg,e,vg,_⟩
        ·have:=hap.out;omega
        ·have e2:g = f:=by have:=hap.out;omega
         subst e2;have:=hinv.v g hg;rw [if_neg hv] at this;omega
       ·rw [if_neg hfo] at h1;omega
      clear z5 z6 z7;have hI3':=hI3.out.drew;have hm3':=hm3.out.drew;have hb3':=hb3.out.drew;generalize W3.drew = W3' at hI3' hm3' hb3' ⊢;have z0:=hI3'.c4;have z1:=hI3'.p7;have z2:=hI3'.ch (i:=old) (by rw [hinv.hl];exact hold);have z3:=hI3'.bh.frozen;have z4:=hI3'.bh.lt;generalize H.getD old 0 = hox at z2;refine hid3 ?_ hI3' hm3' hb3';clear hI3' hm3' hb3';intro hI3' hm3' hb3'
      gi_wp2
      clear z0 z1 z2 z3 z4;have hI4:=hI3'.out.setH hOk old (-1);have hm4':Mod O.S W (W3'.setCell ⟨O.hb,old,none⟩ (.int .i64 (-1))):=hm3'.out.setCell (fun _=>.inr (.inr (.inl rfl))) _;have hb4':=hb3'.out.setCell_other (fun e=>hBS (e ▸ .inr (.inr (.inl rfl)))) (a:=⟨O.hb,old,none⟩) (.int .i64 (-1));generalize W3'.setCell ⟨O.hb,old,none⟩ (.int .i64 (-1)) = W4' at hI4 hm4' hb4' ⊢;have q4:=hI4.c4;have q6:=hI4.p6;refine hid3 ?_ hI4 hm4' hb4';clear hI4 hm4' hb4';intro hI4 hm4' hb4';clear q4 q6
      refine wpIn_region_round (fun i=>([ptr O.pb,ptr O.pb,.pointer (some ⟨O.pb,6,none⟩),.slice (some ⟨O.ab,0,none⟩) C C,.pointer (some ⟨Bx,0,none⟩),.int .i64 (fpage m.D f),ptr O.pb,ptr O.pb,.pointer (some ⟨O.pb,7,none⟩),.slice (some ⟨O.hb,0,none⟩) N N,.int .i64 f,.int .i64 f,.pointer (some ⟨Bx,0,none⟩),.int .i64 (fpage m.D f),.pointer (some ⟨O.ab,fpage m.D f,none⟩),undef,.pointer (some ⟨O.hb,f,none⟩),undef]:List Value).getD i undef) ?Ab
       (fun mk W'=>(OIw M m C N O (L.set f (fver m.D f)) (if mk 15 then A.set (fpage m.D f) f else A) (if mk 17 then (H.set old (-1)).set f (fpage m.D f) else (H.set old (-1))) (max V (fver m.D f)) W'∧Mod O.S W W')∧Blk W' Bx [.int .i64 (fpage m.D f),.int .i64 (fver m.D f),.bool false] 252)
       (by kernel_rfl) (by kernel_rfl) (by kernel_rfl) ?hAb ?h0b ?hstepb ?hendb
      case hAb =>
       simp [putAll,List.range,List.range.loop,Act.put]
       rfl
      case h0b=>exact ⟨⟨hI4.out.drew,hm4'.out.drew⟩,hb4'.out.drew⟩
      case hstepb =>
       have hpl:fpage m.D f < A.length:=by rw [hinv.al];exact hpC
       have hfl:f < (H.set old (-1)).length:=by rw [List.length_set,hinv.hl];exact hf
       have hA2:∀ (b:Bool),fpage m.D f < (if b = true then A.set (fpage m.D f) f else A).length:=fun b=>by split <;> simp [hpl]
       have hfl0:f < H.length:=by rw [hinv.hl];exact hf
       have hH2:∀ (b:Bool),f < (if b = true then (H.set old (-1)).set f (fpage m.D f) else (H.set old (-1))).length:=fun b=>by split <;> simp [hfl0]
       have hfi:(f:Int) < N:=by omega
       have hfi0:(0:Int)≤f:=by omega
       refine ⟨?_,?_,?_,?_,?_,?_,?_,?_,?_,?_,?_,?_,?_,?_,?_,?_,?_,?_,trivial⟩
       all_goals
        rintro mk W' - hmk - ⟨⟨hIm,hmm⟩,hbm⟩;have q4:=hIm.c4;have q6:=hIm.p6;have q7:=hIm.p7;have qb:W'.cell? ⟨Bx,0,none⟩ = some (.int .i64 (fpage m.D f)):=hbm.cell 0;have qa:=hIm.ca (hA2 (mk 15));have qh:=hIm.ch (hH2 (mk 17));have qza:=hIm.ba.frozen;have qzh:=hIm.bh.frozen;have qla:=hIm.ba.lt;have qlh:=hIm.bh.lt;generalize (if mk 15 = true then A.set (fpage m.D f) f else A).getD (fpage m.D f) 0 = xa at qa;generalize (if mk 17 = true then (H.set old (-1)).set f (fpage m.D f) else (H.set old (-1))).getD f 0 = xh at qh;refine hid3 ?_ hIm hmm hbm;clear hIm hmm hbm;intro hIm hmm hbm
       all_goals first
        | (refine ⟨W', .inl ?_, ?_⟩; · (go_simp; done)
           exact ⟨⟨hIm.out,hmm.out⟩,hbm.out⟩)
        | (refine ⟨W'.setCell ⟨O.ab, fpage m.D f, none⟩ (.int .i64 f), .inr ⟨?_, rfl⟩, ?_⟩; · (go_simp; done)
           have g1:=hIm.out.setA hOk (fpage m.D f) (f:Int);simp only [hmk,Bool.false_eq_true,if_false] at g1
           exact ⟨⟨g1,hmm.out.setCell (fun _=>.inr (.inl rfl)) _⟩,hbm.out.setCell_other (fun e=>hBS (e ▸ .inr (.inl rfl))) _⟩)
        | (refine ⟨W'.setCell ⟨O.hb, f, none⟩ (.int .i64 (fpage m.D f)), .inr ⟨?_, rfl⟩, ?_⟩; · (go_simp; done)
           have g1:=hIm.out.setH hOk f (fpage m.D f:Int);simp only [hmk,Bool.false_eq_true,if_false] at g1
           exact ⟨⟨g1,hmm.out.setCell (fun _=>.inr (.inr (.inl rfl))) _⟩,hbm.out.setCell_other (fun e=>hBS (e ▸ .inr (.inr (.inl rfl)))) _⟩)
      case hendb =>
       rintro mk W' hall ⟨⟨hIm,hmm⟩,-⟩;have m1:=hall 15 (by simp);have m2:=hall 17 (by simp);simp only [m1,m2,if_true] at hIm
       have hfin:Mod O.S W W'∧∃ L A H V,OInv m.D C N (fun g=>g ∈ pre ++ [f]) L A H V∧OIw M m C N O L A H V W':=by
        refine ⟨hmm,_,_,_,_,?_,hIm⟩;refine (hinv.newer hf hv rfl hpC (.inr ⟨old,hap.out,by omega⟩) ?_).congr (fun g=>by simp [Plus]);rw [if_neg (by rw [hap.out];omega),hap.out];rfl
       replace hfin:=Lib.hid hfin;clear hIm hmm m1 m2 hall
       gi_wp2
       exact hfin.out
  case hit =>
   intro W1 R XX hm1 hs1 hRst hXX hY hR1;have hXno:∀ W,XX W→False:=fun W h=>(hXX W h).elim fun _ h=>h;have hI1:=hI0.mod hm1 (fun _ _=>id);have hN1':0 < N:=by omega
   have hst:SeqStopsK Fence.wide 7 Tryz.prog 230 #[.pointer (some ⟨O.bn,0,none⟩)] (encH m.D N) (KpH M O.P O.bn) (fun xs=>xs = List.range N) (fun _=>True) N W1 :=
    headers_stops 7 (by omega) ⟨⟨newPages m C N 0 (List.replicate C (-1)) (List.replicate N (-1)),rfl,rfl,⟨hI1.mem,⟨0,hI1.bp⟩,fun h=>hOk.nM _ (.inl rfl) h,hoff.out,hgood⟩⟩,hI1.xn.cell 0⟩ hcl hN16 hC16 (by have:=hN.out;omega) hH.ok
   have hB0:Below W1.heap.size W1 W1:=Below.refl _ _
   have hmain:=hst (W0.heap.size + 1) (fun pre W=>R W∧W0.heap.size≤W.heap.size∧∃ L A H V,OInv m.D C N (fun f=>f ∈ pre.map (· % N)) L A H V∧OIw M m C N O L A H V W) (fun _ _=>False) W1 hB0
    (by
     rintro pre W W' row ⟨hr,hsz,L,A,H,V,h1,h2⟩ hg hrow;have hmg:Mod (fun k=>row = some k) W W':=(Mod.refl _ W).grown hg (fun k e _=>e);refine ⟨hRst _ W W' hr hmg ?_ ?_,Nat.le_trans hsz hg.size,L,A,H,V,h1,?_⟩
     ·intro e;have:=(hrow _ e).1;omega
     ·intro e;have:=(hrow _ e).1;omega
     ·exact h2.mod' hmg (fun k e=>by obtain ⟨_,o,ho,hw⟩:=hrow k e;exact ⟨o,ho,Obj.not_cells_of_walk hw⟩) (fun k e=>by have:=(hrow k e).1;have:=hI1.md.size;omega))
    (fun _ _ _ _ h _ _=>h)
    (by
     rintro pre x W ⟨hr,hsz,L,A,H,V,h1,h2⟩ hlen
     refine (hY (pre.map (· % N),x) (encH m.D N x) W ⟨rfl,by simpa using hlen,hsz,L,A,H,V,h1,h2⟩ hr).mono ?_
     rintro e W' (⟨rfl,⟨L',A',H',V',h1',h2'⟩,hmm,hr'⟩ | ⟨_,hx⟩)
     ·refine .inl ⟨rfl,⟨hr',Nat.le_trans hsz hmm.size,L',A',H',V',by simpa using h1',h2'⟩,?_⟩;refine ⟨hmm.size,fun k hk=>?_,fun p hp=>⟨V',?_⟩⟩
      ·rcases hk with hk | rfl
       ·exact hmm.block k (h2.mem.lt k hk) (fun e=>hOk.nM k e hk)
       ·exact hmm.block _ h2.xn.lt hOk.nn
      ·obtain ⟨fx,hp⟩:=hp;obtain ⟨e1,_⟩:=Blk.inj hp h2.bp;refine ⟨fx,h2'.bp.conv ?_⟩;simp only [pCells,newPages,List.cons.injEq,Value.int.injEq,true_and,and_true] at e1 ⊢
       simp_all
     ·exact (hXno _ hx).elim)
    ⟨hR1,by omega,_,_,_,_,OInv.start m.D C N (fun f h=>by simp at h),hI1⟩
   refine hmain.mono ?_;rintro e W2 ⟨hv,(⟨xs,rfl,hr,_,L,A,H,V,h1,h2⟩ | ⟨_,_,h⟩)⟩
   ·refine ⟨hv,.inl ⟨⟨L,A,H,V,h1.congr (fun g=>?_),h2⟩,hr⟩⟩
    constructor
    ·intro hg;obtain ⟨y,hy,rfl⟩:=List.mem_map.1 hg;rw [Nat.mod_eq_of_lt (List.mem_range.1 hy)];exact hy
    ·intro hg;exact List.mem_map.2 ⟨g,hg,Nat.mod_eq_of_lt (List.mem_range.1 hg)⟩
   ·exact h.elim
  case hdone =>
   rintro W ⟨L,A,H,V,hinv,hI⟩ hD;have hCN:C < N:=by have:=hC.out;have:=hN.out;omega
   have hOrd:=order_ok (N:=N) (P:=O.P) (p:=newPages m C N V A H) hI.mem ⟨0,hI.bp⟩ rfl hI.bh hI.bv rfl hinv.hl hinv.vl (by omega) hN16 (by have:=hN.out;omega) (hinv.free_ne hCN) hOk.ph hOk.pv (hOk.nM _ (.inl rfl));have y4:=hI.c4;have y5:=hI.c5;have hl2:=hI.x2.lt;have hl3:=hI.x3.lt;have hl4:=hI.x4.lt;have hp2:O.b2 ≠ O.pb:=fun e=>hOk.n2 (e ▸ .inl rfl);have hp3:O.b3 ≠ O.pb:=fun e=>hOk.n3 (e ▸ .inl rfl);have hp4:O.b4 ≠ O.pb:=fun e=>hOk.n4 (e ▸ .inl rfl);refine hid3 ?_ hOrd hI hD;clear hOrd hI hD;intro hOrd hI hD;go_wp2_with fail;refine hOrd.out.mono ?_;rintro e w1 ⟨g,cap,l,t,rfl,hg,hperm,ht,hb1,hsl,hmo⟩;have k2:=hI.out.x2.mod hmo hp2
   have k3:=hI.out.x3.mod hmo hp3;have k4:=hI.out.x4.mod hmo hp4;have k20:=k2.cell 0;have k30:=k3.cell 0;have k40:=k4.cell 0;have k2z:=k2.frozen;have k3z:=k3.frozen;have k2l:=k2.lt;have k3l:=k3.lt;simp at k20 k30 k40;refine hid6 ?_ k2 k3 k4 hb1 hsl hmo;clear k2 k3 k4 hb1 hsl hmo;intro k2 k3 k4 hb1 hsl hmo
   have h23:¬ O.b2 = O.b3:=by
    rw [hO.out]
    show ¬ w.heap.size = w.heap.size + 1
    omega
   go_wp2;have hmS:Mod (fun k=>k = O.b2 ∨ k = O.b3) w1 ((w1.setCell ⟨O.b2,0,none⟩ (ptr O.pb)).setCell ⟨O.b3,0,none⟩ (.int .i64 0)):=((Mod.refl _ w1).setCell (fun _=>.inl rfl) _).setCell (fun _=>.inr rfl) _;have hf2:Blk ((w1.setCell ⟨O.b2,0,none⟩ (ptr O.pb)).setCell ⟨O.b3,0,none⟩ (.int .i64 0)) O.b2 [ptr O.pb] 173:=(k2.out.setCell 0 _).setCell_other h23 _;have hf3:Blk ((w1.setCell ⟨O.b2,0,none⟩ (ptr O.pb)).setCell ⟨O.b3,0,none⟩ (.int .i64 0)) O.b3 [.int .i64 0] 27:=(k3.out.setCell_other (Ne.symm h23) _).setCell 0 _;generalize (w1.setCell ⟨O.b2,0,none⟩ (ptr O.pb)).setCell ⟨O.b3,0,none⟩ (.int .i64 0) = w2 at hmS hf2 hf3 ⊢;have hI1:=hI.out
   have hDlt:=(Array.getElem?_eq_some_iff.1 hD.out).1;have hDne:∀ b cs T,Blk W b cs T→b ≠ W0.heap.size:=fun b cs T hb=>hb.ne_put hD.out rfl;have hD1:w1.heap[W0.heap.size]? = some (.deferred (some [])):=(hmo.out.block _ hDlt (fun e=>hDne _ _ _ hI1.bp (show O.pb = W0.heap.size from (show W0.heap.size = O.pb from e).symm))).trans hD.out
   have hD2:w2.heap[W0.heap.size]? = some (.deferred (some [])):=(hmS.block _ (Array.getElem?_eq_some_iff.1 hD1).1 (fun e=>by
    rcases e with e | e
    ·exact hDne _ _ _ hI1.x2 e.symm
    ·exact hDne _ _ _ hI1.x3 e.symm)).trans hD1
   refine ⟨by simp,.inl ⟨_,_,rfl,run_takeDeferred hD2,?_⟩⟩;have hpo:∀ {b cs T},Blk w2 b cs T→Blk (w2.putObj W0.heap.size (.deferred none)) b cs T:=fun hb=>hb.put hD2 rfl;have r2:=(hpo hf2).cell 0;have r3:=(hpo hf3).cell 0;simp at r2 r3;refine ⟨.tuple #[ptr O.pb,errno 0],by simp [results,Tryz.results106,go_sem,r2,r3],{ O.P with fv:=.slice (some ⟨g,0,none⟩) l.length cap },{ newPages m C N V A H with turn:=t,freed:=l },rfl,?_,rfl,rfl,?_,?_,?_,?_⟩
   ·have hb2w:w.heap.size≤O.b2:=by rw [hO.out];exact Nat.le_refl _
    have hb3w:w.heap.size≤O.b3:=by rw [hO.out];exact Nat.le_succ _
    have n2p:¬ O.P.pb = O.b2:=Ne.symm hp2;have n3p:¬ O.P.pb = O.b3:=Ne.symm hp3
    have hne2:∀ k,O.S k→¬ (k = O.b2 ∨ k = O.b3):=fun k hk e=>by
     rcases e with e | e
     ·exact hOk.n2 (e ▸ hk)
     ·exact hOk.n3 (e ▸ hk)
    have hmem:MemRep (w2.putObj W0.heap.size (.deferred none)) M m:=(((hI1.mem.mod hmo.out (fun k hk e=>hOk.nM k (.inl e) hk)).mod hmS (fun k hk e=>by
     have:=hMlt k hk
     rcases e with e | e <;> omega)).put hD2 rfl)
    have hblk:PBlk (w2.putObj W0.heap.size (.deferred none)) M { O.P with fv:=.slice (some ⟨g,0,none⟩) l.length cap } { newPages m C N V A H with turn:=t,freed:=l }:=by
     obtain ⟨fx,h⟩:=hb1.out;exact ⟨fx,hpo (h.mod hmS (hne2 _ (.inl rfl)))⟩
    have hgS:∀ k,O.S k→k < g:=fun k hk=>by have:=hI1.lt k hk;omega
    refine ⟨⟨hmem,hblk,hOk.nM _ (.inl rfl),hoff.out,hgood⟩,⟨hblk,hpo ((hI1.ba.mod hmo.out (fun e=>hOk.pa (show O.ab = O.pb from e).symm)).mod hmS (hne2 _ (.inr (.inl rfl)))),hpo ((hI1.bh.mod hmo.out (fun e=>hOk.ph (show O.hb = O.pb from e).symm)).mod hmS (hne2 _ (.inr (.inr (.inl rfl))))),?_,hOk.pa,hOk.ph,hOk.ah,?_,?_,hinv.al,hinv.hl,hC16,hN16⟩,hinv.pinv (fun f hf=>List.mem_range.2 hf) hH rfl rfl rfl rfl rfl ht hCN hperm,by have:=hN.out;show N * 20≤m.size;omega,rfl⟩
    ·exact (hsl.out.mod hmS (fun k hk e=>by
      simp only [Value.ownBlock,Option.some.injEq] at hk
      rcases e with e | e <;> omega)).put hD2 rfl
    ·rintro k (e | e | e)
     ·exact hOk.nM k (.inl e)
     ·exact hOk.nM k (.inr (.inl e))
     ·exact hOk.nM k (.inr (.inr (.inl e)))
    ·intro k hk e;simp only [Value.ownBlock,Option.some.injEq] at hk;rcases e with (e | e | e) | e
     ·have:=hgS k (.inl e);omega
     ·have:=hgS k (.inr (.inl e));omega
     ·have:=hgS k (.inr (.inr (.inl e)));omega
     ·have:=hI1.mem.lt k e;omega
   ·have hw0:O.w0 = w:=by rw [hO.out]
    have md1:Mod Nowhere O.w0 w1:=hI1.md.step hmo.out (fun i hi e=>by
     have h1:O.w0.heap.size≤O.pb:=hOk.new _ (.inl rfl);have h2:i = O.pb:=e
     omega)
    rw [hw0] at md1;refine (md1.step hmS (fun i hi e=>?_)).put ?_
    ·have hb2w:w.heap.size≤O.b2:=by rw [hO.out];exact Nat.le_refl _
     have hb3w:w.heap.size≤O.b3:=by rw [hO.out];exact Nat.le_succ _
     rcases e with e | e <;> omega
    ·have:=hI0.md.size;rw [hw0] at this;exact this
   ·have:=hOk.new O.pb (.inl rfl);rw [hO.out] at this;rw [hO.out];exact this
   ·have:=hOk.new O.ab (.inr (.inl rfl));rw [hO.out] at this;rw [hO.out];exact this
   ·have:=hOk.new O.hb (.inr (.inr (.inl rfl)));rw [hO.out] at this;rw [hO.out];exact this
  case hstop=>exact fun _ _ h _=>h.elim
end Go.Proofs.YtanioleniadhoaaGreat
