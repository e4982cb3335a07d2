/-
  Keys: any action of the law, on the keys and in the reference.
-/
import Derived.Test.YtoehlaeaafalmaaGreatCK15
import Derived.Test.YtoehlaeaafalmaaGreatCK8
set_option linter.unusedVariables false
set_option linter.unusedSimpArgs false
set_option maxRecDepth 100000
namespace Go.Proofs.YtoehlaeaafalmaaGreat
open Go.RowKit
open Jn Vn Rg Ky
attribute [local go_sem] Oper.semAt_some
namespace Ky
theorem ZhQ {s:VSt} (hl:s.l = []) (ha:s.act = false) (x:RK):(kPut s x).1.l = []∧(kPut s x).1.act = false:=by
 unfold kPut xApp;rw [ha]
 split
 ·exact ⟨hl,rfl⟩
 ·exact ⟨hl,ha⟩
theorem ZhR {s:VSt} (h:KySt s) (hl:s.l = []) (ha:s.act = false) (act:Int) (x:RK) (bv:Bytes x.val) :
  KySt (kDo s act x).1∧(kDo s act x).1.l = []∧(kDo s act x).1.act = false∧kl (view (kDo s act x).1) = (rDo (kl (view s)) act x).1∧(kDo s act x).2 = (rDo (kl (view s)) act x).2:=by
 unfold kDo rDo;by_cases q0:act = 0
 ·rw [if_pos q0,if_pos q0];obtain ⟨h1,h2⟩:=ZhK h x bv;obtain ⟨h3,h4⟩:=ZhQ hl ha x;exact ⟨(X3 h bv).1,h3,h4,h1,by show (0,_) = (0,_);rw [h2]⟩
 rw [if_neg q0,if_neg q0];by_cases q1:act = 1
 ·rw [if_pos q1,if_pos q1];obtain ⟨h1,h2,h3,h4⟩:=ZhL h hl ha x.set;exact ⟨Zcg h x.set,h1,h2,h3,by show (0,_) = (0,_);rw [h4]⟩
 rw [if_neg q1,if_neg q1];by_cases q2:act = 2
 ·rw [if_pos q2,if_pos q2];obtain ⟨h1,h2,h3,h4,h5⟩:=ZhI h hl x.set x.kind;exact ⟨(X4 h x.set x.kind).1,h1,h2.trans ha,h3,Prod.ext h4 h5⟩
 rw [if_neg q2,if_neg q2];obtain ⟨h1,h2,h3,h4⟩:=ZhJ h hl x.set x.kind;exact ⟨(X5 h x.set x.kind).1,h1,h2.trans ha,h3,by show (0,_) = (0,_);rw [h4]⟩
theorem ZhS (f:Items):(kl f).length≤72:=by
 unfold kl;have:=List.length_filterMap_le (kAt f) (List.range 72)
 rwa [List.length_range] at this
def rRunK (l:List OpK):List KEn:=l.foldl (fun L o=>(rDo L o.act o.k.x).1) []
theorem ZcC (l:List OpK) {k:Nat} (hk:k < l.length):rRunK (l.take (k + 1)) = (rDo (rRunK (l.take k)) l[k].act l[k].k.x).1:=by
 unfold rRunK;rw [List.take_add_one,List.getElem?_eq_getElem hk,List.foldl_append]
 rfl
end Ky
theorem OpK.ceq (o:OpK):o.cells.toArray = #[.int .i64 o.act,.int .i64 o.k.x.set,.int .i64 o.k.x.kind,o.k.v,.int .i64 o.k.x.lim]:=rfl
section
variable {w w' : World} {kb mb n : Nat} {A : VAt} {m : Mem} {s : VSt}
theorem ZhT (h:KyL w A m s kb mb (n + 4091136)) (hl:s.l = []) (ha:s.act = false) {o:OpK} (hi:OpKAt w o) :
  Calls Tryz.prog 12 #[ptr kb,.agg o.cells.toArray] w (KCall w kb mb A m s (kDo s o.act o.k.x).1 4091136 (.tuple #[.int .i64 ((kDo s o.act o.k.x).2.1:Nat),errno ((kDo s o.act o.k.x).2.2:Nat)]) (.tuple #[.int .i64 0,errno 7])):=by
 have hi:KeyAt w o.k:=hi;have hc:=h.co;have r8:Room m (8 * vcost A):=h.room (by omega);have r1:Room m (vcost A):=h.room1 (by omega);have l1:s.l.length≤899999:=by rw [hl];exact Nat.zero_le _
 rw [OpK.ceq];unfold kDo;by_cases q0:o.act = 0
 ·rw [q0,if_pos rfl];exact (ZhA h.ky h.st h.xb hi.src hi.by_ l1 r1).mono fun e w' hp=>hp.mono (by omega)
 rw [if_neg q0];by_cases q1:o.act = 1
 ·rw [q1,if_pos rfl];exact (ZhB h.ky h.st h.xb hi.src hi.by_ ha hi.n1 r8).mono fun e w' hp=>hp.mono (by omega)
 rw [if_neg q1];by_cases q2:o.act = 2
 ·rw [q2,if_pos rfl];exact (ZhC h.ky h.st h.xb hi.src hi.by_ hi.n1 hi.n2 r1).mono fun e w' hp=>hp.mono (by omega)
 rw [if_neg q2];exact (ZhD h.ky h.st h.xb hi.src hi.by_ o.act hi.n1 hi.n2 r1 q0 q1 q2).mono fun e w' hp=>hp.mono (by omega)
theorem ZhU {va:Option Addr} {vc:Nat} {L:List KEn} (h:RL w va vc L) (hK:KL L) (hlen:L.length≤1000) {o:OpK} (hi:OpKAt w o) :
  Calls Tryz.prog 13 #[.agg #[.slice va L.length vc],.agg o.cells.toArray] w (SPost2 w (rDo L o.act o.k.x).1 (rDo L o.act o.k.x).2.1 (rDo L o.act o.k.x).2.2):=by
 have hi:KeyAt w o.k:=hi;rw [OpK.ceq];unfold rDo;by_cases q0:o.act = 0
 ·rw [q0,if_pos rfl];exact ZhE h hK hlen hi.src hi.by_
 rw [if_neg q0];by_cases q1:o.act = 1
 ·rw [q1,if_pos rfl];exact ZhF h hK hlen hi.src hi.by_
 rw [if_neg q1];by_cases q2:o.act = 2
 ·rw [q2,if_pos rfl];exact ZhG h hK hlen hi.src hi.by_
 rw [if_neg q2];exact ZhH h hK hlen hi.src hi.by_ o.act q0 q1 q2
end
end Go.Proofs.YtoehlaeaafalmaaGreat
namespace Go.Proofs.YtoehlaeaafalmaaGreat
open Go.RowKit
open Jn Vn Rg Ky
attribute [local go_sem] Oper.semAt_some
theorem Mod.own22 {w W W':World} {B:Nat} (h:Mod Nowhere w W) (hm:Mod (fun j=>j = B) W W') (hB:w.heap.size≤B):Mod Nowhere w W':=h.step hm fun i hi e=>by have e:i = B:=e;omega
structure Left22 (W:World) (A:VAt) (m:Mem) (L1 L2:List KEn):Prop where
 rep:MemRep W A.M m
 ex:∃ f,VMem m A.count A.frames f∧KIt f∧(kl f = L1 ∨ kl f = L2)
 clean:m.Clean
 good:m.Good
 c240:240≤m.size
 cC:m.size / 24 = A.count
 cN:m.size / 20 = A.frames
 c33:33≤A.count
 room:m.writes + 62580≤m.endu
 cu:m.cuts≤1
structure KC (W0 W:World) (A:VAt) (kb mb k:Nat) (pd:Bool) (L:List KEn):Prop where
 ex:∃ m s,KyL W A m s kb mb (1000000000 - k * 4091136)∧s.l = []∧s.act = false∧kl (view s) = L∧(m.pending = true→pd = true)
 nw:∀ i,A.S i→W0.heap.size≤i
 nk:W0.heap.size≤kb∧W0.heap.size≤mb
 md:Mod Nowhere W0 W
 cu:A.cuts = 0
structure KGone (W0 W:World) (A:VAt) (kb mb:Nat) (L1 L2:List KEn):Prop where
 ex:∃ m,Left22 W A m L1 L2∧m.off = true∧∃ P p,VStub W A m P p∧alive m p = false
 bv:∃ cs,Blk W A.vb cs 104
 at_:KAt W kb A.vb mb
 nw:∀ i,A.S i→W0.heap.size≤i
 md:Mod Nowhere W0 W
section
variable {W0 W W' : World} {A : VAt} {kb mb k : Nat} {pd : Bool} {L L1 L2 : List KEn}
theorem KC.fresh (h:KC W0 W A kb mb k pd L) (hm:Mod Nowhere W W'):KC W0 W' A kb mb k pd L:=by
 obtain ⟨⟨m,s,h1,h2⟩,h3,h4,h5,h6⟩:=h;exact ⟨⟨m,s,h1.fresh hm,h2⟩,h3,h4,h5.trans hm,h6⟩
theorem KC.new {e:Ending} (h:Opened22 W0 e W):∃ A kb mb,e = .returned (.tuple #[ptr A.M.mb,ptr A.vb,ptr kb,.bool true])∧KC W0 W A kb mb 0 false []:=by
 obtain ⟨A,m,kb,mb,rfl,h1,h2,h3,h4,h5,h6,h7⟩:=h;refine ⟨A,kb,mb,rfl,⟨m,_,h1,rfl,rfl,?_,fun e=>by rw [h5] at e;cases e⟩,h4,⟨h2,h3⟩,h6,h7⟩
 show kl none_ = []
 unfold kl;rw [List.filterMap_eq_nil_iff];intro a _
 rfl
theorem KC.kl (h:KC W0 W A kb mb k pd L):KL L:=by
 obtain ⟨⟨m,s,h1,-,-,rfl,-⟩,-⟩:=h;exact kl_KL h1.st.v
theorem KC.len (h:KC W0 W A kb mb k pd L):L.length≤1000:=by
 obtain ⟨⟨m,s,h1,-,-,rfl,-⟩,-⟩:=h;exact Nat.le_trans (ZhS _) (by decide)
theorem KC.mapIs (h:KC W0 W A kb mb k pd L):MapIs W mb:=by
 obtain ⟨⟨m,s,h1,-⟩,-⟩:=h;exact h1.ky.map
theorem KC.shun (h:KC W0 W A kb mb k pd L) {T:TypeId} (hT:T ≠ 146∧T ≠ 3∧T ≠ 119∧T ≠ 198) (hV:T ≠ 104):Shun (KS A mb) W T:=fun b e cs hb=>by
 obtain ⟨⟨m,s,h1,-⟩,-⟩:=h;obtain ⟨n',f,hf⟩:=h1.ky.map;rcases e with e | e
 ·rw [e] at hb;exact Ze hf.map hb
 ·exact h1.ky.rep.noS hb hT hV e
theorem KC.off (h:KC W0 W A kb mb k pd L) {b:Nat} {cs:List Value} {T:TypeId} (hb:Blk W b cs T) (hT:T ≠ 146∧T ≠ 3∧T ≠ 119∧T ≠ 198) (hV:T ≠ 104) (hm:Mod (KS A mb) W W'):Blk W' b cs T:=hb.mod hm fun e=>h.shun hT hV b e cs hb
theorem KC.keepL (h:KC W0 W A kb mb k pd L) (hm:Mod (KS A mb) W W') {va:Option Addr} {vc:Nat} {L':List KEn} (hr:RL W va vc L'):RL W' va vc L':=hr.mod hm (h.shun (by decide) (by decide)) (h.shun (by decide) (by decide))
theorem KC.step (h:KC W0 W A kb mb k pd L) (hm:Mod (KS A mb) W W'):Mod Nowhere W0 W':=h.md.step hm fun i hi e=>by
 rcases e with rfl | e
 ·have:=h.nk;omega
 ·have:=h.nw i e;omega
theorem KC.own (h:KC W0 W A kb mb k pd L) {N:Nat} {cs:List Value} (hb:Blk W N cs 32) (hm:Mod (fun j=>j = N) W W') (hN:W0.heap.size≤N):KC W0 W' A kb mb k pd L:=by
 obtain ⟨⟨m,s,h1,h2⟩,h3,h4,h5,h6⟩:=h;obtain ⟨n,f,hf⟩:=h1.ky.map;have hk:KyR W' kb mb A m s:=⟨Blk.mod h1.ky.at_ hm (fun e=>by have e:kb = N:=e;have hr:=h1.ky.at_;rw [e] at hr;exact absurd (Blk.inj hr hb).2 (by decide)),h1.ky.rep.keepB hm hb (by decide),h1.ky.x,⟨n,f,hf.mod hm (fun e=>by have e:mb = N:=e;rw [← e] at hb;exact Ze hf.map hb)⟩,h1.ky.len,h1.ky.it⟩;exact ⟨⟨m,s,h1.only hk,h2⟩,h3,h4,h5.own22 hm hN,h6⟩
def KOut (W0:World) (A:VAt) (kb mb k:Nat) (pd:Bool) (L L':List KEn) (n er n' er':Nat) (w':World):Prop :=
 (n' = n∧er' = er∧KC W0 w' A kb mb (k + 1) pd L') ∨ (n' = 0∧er' = 7∧pd = true∧KGone W0 w' A kb mb L L')
section
variable {n er n' er' : Nat} {L' : List KEn}
end
theorem KC.do_ (h:KC W0 W A kb mb k pd L) (hk:k < 240) {o:OpK} (hi:OpKAt W o) :
  Calls Tryz.prog 12 #[ptr kb,.agg o.cells.toArray] W fun e w'=>∃ n' er':Nat,e = .returned (.tuple #[.int .i64 (n':Nat),errno (er':Nat)])∧KOut W0 A kb mb k pd L (rDo L o.act o.k.x).1 (rDo L o.act o.k.x).2.1 (rDo L o.act o.k.x).2.2 n' er' w'∧Mod (KS A mb) W w':=by
 have hst:=fun {w'}=>h.step (W':=w');obtain ⟨⟨m,s,h1,h2,h3,rfl,hpd⟩,h4,h5,h6,h7⟩:=h;have hn:1000000000 - k * 4091136 = (1000000000 - (k + 1) * 4091136) + 4091136:=by omega
 rw [hn] at h1;have hi':KeyAt W o.k:=hi;obtain ⟨e1,e2,e3,e4,e5⟩:=ZhR h1.st h2 h3 o.act o.k.x hi'.by_;refine (ZhT h1 h2 h3 hi).mono fun e w' hc=>?_;have hmd:=hc.md;rcases hc.alive h1 e1 (by rw [e2];exact Nat.zero_le _) with ⟨rfl,m',a,b,-,-,c⟩ | ⟨rfl,m',f,hf,hd,hs,hat,hmp,hm⟩
 ·refine ⟨_,_,rfl,.inl ⟨by rw [e5],by rw [e5],⟨m',_,a,e2,e3,e4,fun e=>hpd (b.symm.trans e)⟩,h4,h5,hst hmd,h7⟩,hmd⟩
 ·obtain ⟨P,p,hsb,hal⟩:=hd.stub;have hmc:=h1.vl.rep.mem.2.2.2;have hrm:=h1.vl.room.endu;refine ⟨0,7,rfl,.inr ⟨rfl,rfl,hpd hs.pend,⟨m',⟨hd.mem,?_,hs.clean h1.vl.clean,hs.good,by rw [hs.size];exact h1.vl.c240,by rw [hs.size];exact h1.vl.cC,by rw [hs.size];exact h1.vl.cN,h1.vl.c33,?_,by rw [hs.cuts,hmc,h7];omega⟩,hs.off,P,p,hsb,hal⟩,?_,hat,h4,hst hmd⟩,hmd⟩
  ·refine ⟨f,hd.vmem,?_⟩;rcases hf with rfl | rfl
   ·refine ⟨h1.st.f,.inl ?_⟩;unfold view;rw [h2];rfl
   ·refine ⟨e1.f,.inr ?_⟩;rw [← e4];unfold view;rw [e2];rfl
  ·rw [hs.endu];have hk1:(k + 1) * 4091136≤240 * 4091136:=Nat.mul_le_mul_right _ hk;have hk2:62580≤1000000000 - (k + 1) * 4091136:=Nat.le_sub_of_add_le (Nat.le_trans (Nat.add_le_add_left hk1 _) (by decide));refine Nat.le_trans ?_ hrm;rw [Nat.add_comm (1000000000 - (k + 1) * 4091136) 4091136,← Nat.add_assoc];exact Nat.add_le_add hs.hi hk2
  ·obtain ⟨b1,b2,b3,b4,b5,b6⟩:=hd.bv;exact ⟨_,b6⟩
end
section
variable {W0 W W' : World} {A : VAt} {kb mb k : Nat} {m : Mem} {L1 L2 L : List KEn}
structure Shown22 (W0 W:World) (kb mb:Nat) (L:List KEn):Prop where
 ex:∃ A m s,KyR W kb mb A m s∧kl (view s) = L
 nk:W0.heap.size≤mb
 md:Mod Nowhere W0 W
theorem Shown22.keepL (h:Shown22 W0 W kb mb L) (hm:Mod (OneB mb) W W') {va:Option Addr} {vc:Nat} {L':List KEn} (hr:RL W va vc L'):RL W' va vc L':=by
 obtain ⟨⟨A2,m,s,h1,h2⟩,h3,h4⟩:=h;obtain ⟨n,f,hf⟩:=h1.map
 have hsh:∀ U,Shun (OneB mb) W U:=fun U k e cs hb=>by
  have e:k = mb:=e;rw [e] at hb;exact Ze hf.map hb
 exact hr.mod hm (hsh _) (hsh _)
theorem Shown22.keepB (h:Shown22 W0 W kb mb L) (hm:Mod (OneB mb) W W') {x:Nat} {cs:List Value} {T:TypeId} (hb:Blk W x cs T):Blk W' x cs T:=by
 obtain ⟨⟨A2,m,s,h1,h2⟩,h3,h4⟩:=h;exact hb.only h1.map hm
theorem KC.opens {pd:Bool} (h:KC W0 W A kb mb k pd L):Calls Tryz.prog 14 #[ptr A.vb] W fun e w'=>∃ k2 m2,e = .returned (.tuple #[ptr k2,errno 0])∧Shown22 W0 w' k2 m2 L∧Shown22 W0 w' kb mb L∧m2 ≠ mb∧(∀ w2,Mod (OneB mb) w' w2→(∃ n f,KMap w2 mb n f)→Shown22 W0 w2 k2 m2 L)∧Mod Nowhere W w':=by
 have hlt:mb < W.heap.size:=by
  obtain ⟨n,f,hf⟩:=h.mapIs;exact hf.lt
 obtain ⟨⟨m,s,h1,h2,h3,h4,-⟩,-,h5,h6,-⟩:=h;refine (Zci h1.ky.rep (by rw [h2];exact Nat.zero_le _) h1.ky.it).mono fun e w' hp=>?_;obtain ⟨k2,m2,rfl,hk,hkb,hmb,hm⟩:=hp;have hne:m2 ≠ mb:=by omega
 have hX:(A.bar m2).X mb:=.inl h1.ky.x;have hmap:=(h1.ky.fresh hm).map;refine ⟨k2,m2,rfl,⟨⟨A.bar m2,m,s,hk,h4⟩,Nat.le_trans h6.size hmb,h6.trans hm⟩,⟨⟨A.bar m2,m,s,⟨(h1.ky.fresh hm).at_,hk.rep,hX,hmap,hk.len,hk.it⟩,h4⟩,h5.2,h6.trans hm⟩,hne,fun w2 hm2 hmp=>?_,hm⟩;obtain ⟨n,f,hf⟩:=hmap;obtain ⟨n2,f2,hf2⟩:=hk.map;refine ⟨⟨A.bar m2,m,s,⟨hk.at_.only ⟨n,f,hf⟩ hm2,hk.rep.keepX hm2 hX hf.map,hk.x,⟨n2,f2,hf2.mod hm2 (fun e=>hne e)⟩,hk.len,hk.it⟩,h4⟩,Nat.le_trans h6.size hmb,(h6.trans hm).step hm2 fun i hi e=>by have e:i = mb:=e;have:=h5.2;omega⟩
end
end Go.Proofs.YtoehlaeaafalmaaGreat
namespace Go.Proofs.YtoehlaeaafalmaaGreat
open Go.RowKit Go.ChangeShapes Go.WideShapes Go.ChangeAt
open Jn Vn Rg Ky
theorem ZhV {H:Type} {enc:TypeId × Value→H} {W:World} {fuel:Nat} {a:Addr} {i:Nat} {y:DataW H × List MemPlace} (h:(W.cells? 0 (a.add (i * 5)) 5).bind (DataW.trod enc Tryz.prog W 0 (fun _=>true) true fuel 41) = some y) :
  (i = 0→a.spot = none)∧∃ x,OpKIn W a.block (a.off + i * 5) x:=by
 obtain ⟨cs,hcs,ht⟩:=Option.bind_eq_some_iff.1 h;obtain ⟨x,e,hx⟩:=ZhP ht
 have hcell:∀ j,j < 5→W.cell? ((a.add (i * 5)).add j) = cs[j]?:=fun j hj=>by
  unfold World.cells? at hcs;rw [if_pos (Nat.zero_le _)] at hcs;have:=mapM_some_get hcs j j (by simp [hj]);rw [← this]
 have k0:=hcell 0 (by omega);rw [e] at k0 hcell;have k0':W.cell? ((a.add (i * 5)).add 0) = some (.int .i64 x.act):=k0;obtain ⟨ha,hz'⟩:=ZgZ (Zcl k0');rw [ha] at hcell
 have hc:∀ j,j < 5→W.cell? ⟨a.block,a.off + i * 5 + j,none⟩ = x.cells[j]?:=fun j hj=>by
  rw [← hcell j hj,Zck]
 have c0:W.cell? ⟨a.block,a.off + i * 5,none⟩ = some (.int .i64 x.act):=hc 0 (by omega);exact ⟨fun e=>hz' (by omega),x,⟨ZV c0,hc,hx⟩⟩
theorem ZhW {H:Type} {enc:TypeId × Value→H} {W:World} {v:Value} {d:DataW H} {p:List MemPlace} (hv:Value.okWide Tryz.prog W .any 0 22 v) (h:DataW.Trod enc Tryz.prog W 0 (fun _=>true) true 22 v d p):∃ l,InKOps W v l:=by
 obtain ⟨a,len,cap,rfl⟩:=okWide_slice Tryz.underlying22 hv;obtain ⟨fuel,hf⟩:=h;rcases DataW.trod_slice Tryz.underlying22 hf with ⟨hcs,_⟩ | ⟨x,l,c,elems,rest,n,_,hcs,_,_,hl,hm,hlen,hel,_,_⟩
 ·simp [Value.cells] at hcs;obtain ⟨rfl,rfl,rfl⟩:=hcs;exact ⟨[],none,0,rfl,by simp,by decide,fun h=>by simp at h⟩
 ·simp [Value.cells] at hcs;obtain ⟨rfl,rfl,rfl⟩:=hcs;have e3:Tryz.prog.cellsOf 41 = 5:=by kernel_rfl
  rw [e3] at hel
  obtain ⟨ops,ho,hp⟩:=Zcj (p:=fun i x'=>(i = 0→x.spot = none)∧OpKIn W x.block (x.off + i * 5) x') len fun i hi=>by
   have:=hel i hi;rw [List.getElem?_eq_getElem (by omega)] at this;obtain ⟨q1,y,q2⟩:=ZhV this;exact ⟨y,q1,q2⟩
  refine ⟨ops,some x,cap,by rw [ho],by omega,hm,fun h0=>?_⟩;obtain ⟨b,off,spot⟩:=x;have hs:spot = none:=(hp 0 h0).1 rfl;subst hs;exact ⟨b,off,rfl,fun i hi=>(hp i hi).2⟩
end Go.Proofs.YtoehlaeaafalmaaGreat
