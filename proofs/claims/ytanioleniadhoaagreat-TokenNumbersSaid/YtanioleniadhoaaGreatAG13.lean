/-
  The journal: what is due is made.
-/
import Derived.Test.YtanioleniadhoaaGreatAG12
set_option linter.unusedVariables false
set_option linter.unusedSimpArgs false
set_option maxHeartbeats 4000000
set_option maxRecDepth 100000
namespace Go.Proofs.YtanioleniadhoaaGreat
open Go.RowKit Go.Shelf
open Jn
attribute [local go_sem] Oper.semAt_some
theorem jChanged_ok {w:World} (j1 j3:Nat) (a:Option Addr) (n c:Nat) :
  Calls Tryz.prog 281 #[ptr j1,.slice a n c,ptr j3] w fun e w'=>e = .returned (.func (.func 305) #[] #[.pointer (some ⟨w.heap.size + 1,0,none⟩),.pointer (some ⟨w.heap.size,0,none⟩),.pointer (some ⟨w.heap.size + 2,0,none⟩)]) ∧
   Blk w' w.heap.size [ptr j1] 158∧Blk w' (w.heap.size + 1) [.slice a n c] 293∧Blk w' (w.heap.size + 2) [ptr j3] 329∧Mod Nowhere w w'∧w'.heap.size = w.heap.size + 3:=by
 go_enter Tryz.func281,Tryz.ntmps281;go_wp2;go_ret;refine ⟨rfl,?_,?_,?_,?_,?_⟩
 ·exact ((Blk.new w [ptr j1] 158).alloc _).alloc _
 ·have:=((Blk.new (w.alloc (.cells #[ptr j1] 158)) [.slice a n c] 293).alloc (.cells #[ptr j3] 329));simpa using this
 ·have:=(Blk.new ((w.alloc (.cells #[ptr j1] 158)).alloc (.cells #[.slice a n c] 293)) [ptr j3] 329);simpa using this
 ·exact (((Mod.refl _ w).alloc _).alloc _).alloc _
 ·simp
theorem puts_lt256:∀ (l:List Ch) (J:Nat→Nat) (o:Nat),J o < 256→(∀ c ∈ l,Bytes c.2)→puts J l o < 256
 | [],_,_,h,_=>h
 | c :: l,J,o,h,hb=>by
  rw [puts_cons];refine puts_lt256 l _ o ?_ (fun c' hc'=>hb c' (List.mem_cons_of_mem _ hc'));unfold put1
  split
  ·exact hb c (List.mem_cons_self ..) _
  ·exact h
def ChDone (w0 W:World) (jb_ eb:Nat) (M:MemAt) (m:Mem) (P:PAt) (p:PSt) (n:Nat) (Q:PC→Prop):Prop :=
 ∃ m1 P1 p1 pc1 j,Jr W jb_ M m1 P1 p1 pc1∧P1.pb = P.pb∧P1.ab = P.ab∧P1.hb = P.hb∧p1.count = p.count∧p1.frames = p.frames∧p1.cuts = p.cuts∧j≤n∧Runs m m1 j∧Q pc1∧Mod (fun k=>k = eb ∨ P.S k ∨ M.S k) w0 W∧Blk W eb [.int .i64 0] 27
theorem jMake1_ok {w0 W:World} {jb_ eb b2 n:Nat} {M:MemAt} {m:Mem} {P:PAt} {p:PSt} {Q Q':PC→Prop} (h:ChDone w0 W jb_ eb M m P p n Q) (hx:Blk W b2 [ptr jb_] 158) (hrm:Room m (n + 42)) (hne:¬ (P.S eb ∨ M.S eb)) (hQ:∀ pc,Q pc→Q' (setPage pc 0 (headPage 0))) (u:FrameMode) :
  CallsDIn Fence.wide 7 Tryz.prog 279 #[.pointer (some ⟨eb,0,none⟩),.pointer (some ⟨b2,0,none⟩)] u W fun e u' W'=>u' = u∧(∃ v,e = .returned v)∧(ChDone w0 W' jb_ eb M m P p (n + 42) Q' ∨ ChCut w0 W' eb M m P p (n + 42) Q 7):=by
 obtain ⟨m1,P1,p1,pc1,j,hj,a1,a2,a3,a4,a5,a6,a7,a8,hq,hmd,hb⟩:=h;have hS:=S_eq a1 a2 a3;have hH:=jHead_ok hj 0 (by omega) (hrm.runs a8 (by omega));have c0:=hb.cell 0;have c1:=hx.cell 0;simp only [List.length_cons,List.length_nil,Nat.zero_add,Nat.lt_irrefl,gz0] at c0 c1;refine hid2 ?_ hH hrm;clear hH hrm;intro hH hrm;refine callsDIn_of_wp Tryz.func279 rfl trivial (wpIn_wide.2 ?_) rfl;simp only [Tryz.ntmps279,List.size_toArray,List.length_cons,List.length_nil,Nat.reduceAdd,Nat.reduceSub,Array.replicate_succ,Array.replicate_zero,List.push_toArray,List.append_toArray,List.nil_append,List.cons_append]
 go_wp2_with fail;refine hH.out.mono ?_;rintro e w1 hpost;have hmono:∀ {w1},Mod (fun k=>P1.S k ∨ M.S k) W w1→Mod (fun k=>k = eb ∨ P.S k ∨ M.S k) W w1:=fun hm=>hS ▸ hm.mono fun i _ e=>.inr e;have hnb:¬ (P1.S eb ∨ M.S eb):=by rw [hS];exact hne
 rcases hpost.jpost hj with ⟨m2,P2,p2,kk,pc2,rfl,b1,b2,b3,b4,b5,b6,b7,b8,b9,rfl,b11⟩ | ⟨m2,P2,p2,pc2,rfl,b1,b2,b3,b4,b5,b6,b7,b8,b9,b10,rfl,b11⟩
 ·have hb1:=hb.mod b11 hnb;have d0:=hb1.cell 0;have df:=hb1.frozen 0
  have hfin:ChDone w0 (w1.setCell ⟨eb,0,none⟩ (errno 0)) jb_ eb M m P p (n + 42) Q' :=
   ⟨m2,P2,p2,_,j + kk,b1.setErr hb1 _,b2.trans a1,b3.trans a2,b4.trans a3,b5.trans a4,b6.trans a5,b7.trans a6,by omega,a8.trans b9,hQ _ hq,(hmd.trans (hmono b11)).setCell (fun _=>.inl rfl) _,(hb1.setCell 0 _).conv rfl⟩
  replace hfin:=Lib.hid hfin;simp only [List.length_cons,List.length_nil,Nat.zero_add,Nat.lt_irrefl,gz0] at d0;clear hb1 b11 hpost;go_wp2
  go_end0
  exact ⟨⟨_,rfl⟩,.inl hfin.out⟩
 ·have hb1:=hb.mod b11 hnb;have d0:=hb1.cell 0;have df:=hb1.frozen 0
  have hfin:ChCut w0 (w1.setCell ⟨eb,0,none⟩ (errno 7)) eb M m P p (n + 42) Q 7 :=
   ChCut.setErr (er:=0) ⟨m2,P2,p2,_,b1,b2,b3.trans a1,b4.trans a2,b5.trans a3,b6.trans a4,b7.trans a5,b8.trans a6,a8.stopped b9 (by omega),by rw [← a4,← a5];exact b10,hq,hmd.trans (hmono b11),hb1⟩ 7
  replace hfin:=Lib.hid hfin;simp only [List.length_cons,List.length_nil,Nat.zero_add,Nat.lt_irrefl,gz0] at d0;clear hb1 b11 hpost;go_wp2
  go_end0
  exact ⟨⟨_,rfl⟩,.inr hfin.out⟩
theorem jMake1_cut {w0 W:World} {eb b2 n:Nat} {M:MemAt} {m:Mem} {P:PAt} {p:PSt} {Q:PC→Prop} (h:ChCut w0 W eb M m P p n Q 7) (u:FrameMode) :
  CallsDIn Fence.wide 7 Tryz.prog 279 #[.pointer (some ⟨eb,0,none⟩),.pointer (some ⟨b2,0,none⟩)] u W fun e u' W'=>u' = u∧(∃ v,e = .returned v)∧ChCut w0 W' eb M m P p n Q 7:=by
 have c0:W.cell? ⟨eb,0,none⟩ = some (.int .i64 7):=by
  obtain ⟨m',P',p',pc2,_,_,_,_,_,_,_,_,_,_,_,_,hb⟩:=h;exact hb.cell 0
 replace h:=Lib.hid h;refine callsDIn_of_wp Tryz.func279 rfl trivial (wpIn_wide.2 ?_) rfl;simp only [Tryz.ntmps279,List.size_toArray,List.length_cons,List.length_nil,Nat.reduceAdd,Nat.reduceSub,Array.replicate_succ,Array.replicate_zero,List.push_toArray,List.append_toArray,List.nil_append,List.cons_append];go_wp2
 go_end0
 exact ⟨⟨_,rfl⟩,h.out⟩
theorem jMake_ok {w:World} {jb_:Nat} {M:MemAt} {m:Mem} {P:PAt} {p:PSt} {pc:PC} {J:Nat→Nat} {vx:Value} {xs:List Cx} (h:Jr w jb_ M m P p pc) (hch:ChSl w vx xs) (ho1:Off (fun k=>P.S k ∨ M.S k) vx) (ho2:∀ x ∈ xs,Off (fun k=>P.S k ∨ M.S k) x.1)
  (hD:Due p.count pc J (chs xs)) (hl:wsum (chs xs)≤1488) (hrm:Room m 62580) :
  Calls Tryz.prog 243 #[ptr jb_,vx] w (JPost w jb_ M m P p 62580 (fun x=>Still p.count x J) (fun x=>Due p.count x J (chs xs))):=by
 obtain ⟨va,vc,rfl,hv1,hv2,_⟩:=hch.sl.gen;have hCh:=fun W j1 j3=>jChanged_ok (w:=W) j1 j3 va xs.length vc;refine hid3 ?_ hCh hch h;clear hCh hch h;intro hCh hch h;refine (callsIn_wide (n:=8)).1 ?_;refine callsIn_of_wp_marks Tryz.func243 rfl trivial (wpIn_wide.2 ?_) rfl;simp only [Tryz.ntmps243,List.size_toArray,List.length_cons,List.length_nil,Nat.reduceAdd,Nat.reduceSub,Array.replicate_succ,Array.replicate_zero,List.push_toArray,List.append_toArray,List.nil_append,List.cons_append]
 go_wp2_with (go_at_call 281;refine (hCh.out _ _ _).mono ?_;rintro e w1 ⟨rfl,hx2,hx1,hx3,hm1,hs1⟩)
 have hbz:Blk w1 (w.heap.size + 1) [.int .i64 0] 27:=by
  have h0:=(Blk.new (w.alloc (.cells #[ptr jb_] 158)) [.int .i64 0] 27).mod hm1 id;simpa using h0
 have hb2:Blk w1 w.heap.size [ptr jb_] 158:=((Blk.new w [ptr jb_] 158).alloc _).mod hm1 id;have hw1:Mod Nowhere w w1:=(((Mod.refl _ w).alloc _).alloc _).trans hm1;simp only [World.size_alloc] at hx1 hx2 hx3 hs1 ⊢;obtain ⟨eb,heb⟩:∃ eb,w.heap.size + 1 = eb:=⟨_,rfl⟩;obtain ⟨bj,hbj⟩:∃ bj,w.heap.size = bj:=⟨_,rfl⟩;obtain ⟨b1,hb1⟩:∃ b1,w.heap.size + 1 + 1 + 1 = b1:=⟨_,rfl⟩;obtain ⟨b2,hb2'⟩:∃ b2,w.heap.size + 1 + 1 = b2:=⟨_,rfl⟩;obtain ⟨b3,hb3⟩:∃ b3,w.heap.size + 1 + 1 + 2 = b3:=⟨_,rfl⟩;rw [hb1] at hx1 ⊢;rw [hb3] at hx3 ⊢;rw [hb2'] at hx2 ⊢;rw [heb] at hbz hx3 ⊢;rw [hbj] at hb2 ⊢
 have hJ:=h.out.fresh hw1 (fun _ _=>id);have hch1:=hch.out.fresh hw1;have hlt:∀ k,(k = jb_ ∨ P.S k ∨ M.S k)→k < w.heap.size:=h.out.lt;have hfv:=h.out.pg.rep.bf.lt
 have hn:∀ b,w.heap.size≤b→b ≠ eb→¬ (b = eb ∨ P.S b ∨ M.S b):=fun b hb hbe e=>by
  rcases e with e | e
  ·exact hbe e
  ·have:=hlt b (.inr e);omega
 have hIt:∀ W,Mod Nowhere w1 W→ChIt W jb_ eb b1 b2 b3 M m P p pc (.slice va xs.length vc) xs:=fun W hW =>
  { jr:=hJ.fresh hW (fun _ _=>id),ch:=hch1.fresh hW,x1:=hx1.mod hW id,x2:=hx2.mod hW id,x3:=hx3.mod hW id,bz:=hbz.mod hW id
    n1:=hn _ (by omega) (by omega),n2:=hn _ (by omega) (by omega),n3:=hn _ (by omega) (by omega)
    nj:=fun e=>by
      rcases e with e | e
      · have:=hlt jb_ (.inl rfl);omega
      · exact h.out.jn e
    ne:=fun e=>by have:=hlt eb (.inr e);omega
    nf:=fun k hk e=>by have:=hfv k hk;have e:k = eb:=e;omega
    ov:=fun k hk e=>by
      rcases e with e | e
      · have:=hch.out.sl.lt k hk;omega
      · exact ho1 k hk e
    od:=fun x hx k hk e=>by
      rcases e with e | e
      · have:=(hch.out.data x hx).lt k hk;omega
      · exact ho2 x hx k hk e
    fit:=fun x hx=>hD.ok _ (List.mem_map.2 ⟨x,hx,rfl⟩) }
 have hc16:=h.out.pg.rep.c16;have hby:∀ o,o < (p.count - 32) * 48→jb pc o < 256:=fun o ho=>h.out.pg.inv.h.bytes _ (by omega) _;have hneS:¬ (P.S eb ∨ M.S eb):=fun e=>by have:=hlt eb (.inr e);omega
 have hcy0:∀ o,o < (p.count - 32) * 48→puts (jb pc) (chs xs) o < 256:=fun o ho=>puts_lt256 _ _ _ (hby o ho) (fun c hc=>(hD.ok c hc).bytes);clear hm1 hbz hx1 hx2 hx3 hCh;have hsA:w1.heap.size = w.heap.size + 5:=by omega
 obtain ⟨B,hB⟩:∃ B,w1.heap.size + 2 = B:=⟨_,rfl⟩
 have hltB:∀ k,(k = eb ∨ P.S k ∨ M.S k)→k < w1.heap.size:=fun k hk=>by
  rcases hk with e | e
  ·omega
  ·have:=hlt k (.inr e);omega
 refine hid5 ?_ hIt hby hcy0 hJ hD;clear hIt hby hcy0 hJ hD;intro hIt hby hcy0 hJ hD
 have hfinD:∀ W3,ChDone w1 W3 jb_ eb M m P p (62538 + 42) (fun x=>Still p.count x J)→∀ (tmps:Array Value),tmps[4]?.getD undef = .pointer (some ⟨eb,0,none⟩)→LeavesInM Fence.wide 8 Tryz.prog Tryz.f243 tmps (JPost w jb_ M m P p 62580 (fun x=>Still p.count x J) (fun x=>Due p.count x J (chs xs))) [] .returning W3:=by
  rintro W3 ⟨m1,P1,p1,pc1,j,a1,a2,a3,a4,a5,a6,a7,a8,a9,a10,a11,a12⟩ tmps ht;have c0:=a12.cell 0;simp only [List.length_cons,List.length_nil,Nat.zero_add,Nat.lt_irrefl,gz0] at c0;refine ⟨errno 0,by simp [results,Tryz.results243,go_sem,ht,c0],?_⟩;exact .inl ⟨m1,P1,p1,j,pc1,rfl,a1,a2,a3,a4,a5,a6,a7,a8,a9,a10,(hw1.nowhere (S:=fun k=>P.S k ∨ M.S k)).step a11 (fun i hi e=>e.elim (fun e=>by omega) id)⟩
 have hfinC:∀ W3,ChCut w1 W3 eb M m P p (62538 + 42) (fun x=>Due p.count x J (chs xs)) 7→∀ (tmps:Array Value),tmps[4]?.getD undef = .pointer (some ⟨eb,0,none⟩)→LeavesInM Fence.wide 8 Tryz.prog Tryz.f243 tmps (JPost w jb_ M m P p 62580 (fun x=>Still p.count x J) (fun x=>Due p.count x J (chs xs))) [] .returning W3:=by
  rintro W3 ⟨m',P',p',pc2,a1,a2,a3,a4,a5,a6,a7,a8,a9,a10,a11,a12,a13⟩ tmps ht;have c0:=a13.cell 0;simp only [List.length_cons,List.length_nil,Nat.zero_add,Nat.lt_irrefl,gz0] at c0;refine ⟨errno 7,by simp [results,Tryz.results243,go_sem,ht,c0],?_⟩;exact .inr ⟨m',P',p',pc2,rfl,a1,a2,a3,a4,a5,a6,a7,a8,a9,a10,a11,(hw1.nowhere (S:=fun k=>P.S k ∨ M.S k)).step a12 (fun i hi e=>e.elim (fun e=>by omega) id)⟩
 refine (wpIn_wide (n:=8)).1 ?_
 refine wpIn_range (F:=Fence.wide) (n:=8) (σ:=List Ent × Nat) rfl (by omega) (gf:=305) (lb:=#[.pointer (some ⟨b1,0,none⟩),.pointer (some ⟨b2,0,none⟩),.pointer (some ⟨b3,0,none⟩)]) rfl trivial (enters_of Tryz.func305 (by kernel_rfl) rfl)
  (fun k=>k = eb ∨ P.S k ∨ M.S k) ?hSD ?hSl
  (fun s args W=>∃ hk:s.2 < s.1.length,args = #[.int .i64 (s.1[s.2]).i,(s.1[s.2]).v]∧s.1.length≤1488∧ChY w1 W jb_ eb M m P p p.count B B pc (puts (jb pc) (chs xs)) s.1 s.2)
  (fun s W=>ChY w1 W jb_ eb M m P p p.count B B pc (puts (jb pc) (chs xs)) s.1 (s.2 + 1))
  (fun c W=>c = .ret∧ChCut w1 W eb M m P p 62538 (fun x=>Due p.count x J (chs xs)) 7)
  (fun W=>∃ es:List Ent,es.length≤1488∧ChY w1 W jb_ eb M m P p p.count B B pc (puts (jb pc) (chs xs)) es es.length∧∀ o,(∀ e ∈ es,e.i ≠ 32 + o / 48)→puts (jb pc) (chs xs) o = jb pc o)
  ?hZ ?hX ?hT ?hps
  (fun s a' W=>∃ hk:s.2 < s.1.length,(s.1.length≤1488∧ChY w1 W jb_ eb M m P p p.count B B pc (puts (jb pc) (chs xs)) s.1 s.2) ∧
   a' = { tmps:=#[ptr jb_,.slice va xs.length vc,.pointer (some ⟨bj,0,none⟩),undef,.pointer (some ⟨eb,0,none⟩),.int .i64 (s.1[s.2]).i,(s.1[s.2]).v,.func (.func 279) #[] #[.pointer (some ⟨eb,0,none⟩),.pointer (some ⟨bj,0,none⟩)],ptr jb_,.slice va xs.length vc,
    .func (.func 305) #[] #[.pointer (some ⟨b1,0,none⟩),.pointer (some ⟨b2,0,none⟩),.pointer (some ⟨b3,0,none⟩)],.int .i64 (s.1[s.2]).i,(s.1[s.2]).v,undef,undef,undef,undef,undef,undef,undef,undef,undef,undef,undef,undef,undef,undef],defers:=[] })
  ?hAx ?hassign ?hbody ?hit ?hdone ?hstop
 case hSD=>exact fun e=>by have:=hltB _ e;omega
 case hSl=>exact fun e=>by have:=hltB _ e;omega
 case hZ=>exact fun s W r o o' h hB hr ho=>h.put hB hr ho
 case hX=>exact fun c W r o o' h hB hr ho=>⟨h.1,h.2.put hB hr ho⟩
 case hT=>rintro W r o o' ⟨es,h1,h2,h3⟩ hB hr ho;exact ⟨es,h1,h2.put hB hr ho,h3⟩
 case hps=>rintro s args W ⟨hk,rfl,_⟩;rfl
 case hAx=>rintro s a' W r o o' ⟨hk,⟨h1,h2⟩,h3⟩ hB hr ho;exact ⟨hk,⟨h1,h2.put hB hr ho⟩,h3⟩
 case hassign =>
  rintro l s args W ⟨hk,rfl,hes,hcy⟩;replace hcy:=Lib.hid hcy
  gi_wp2
  exact ⟨Mod.refl _ _,hk,⟨hes,hcy.out⟩,by first | rfl | trivial⟩
 case hbody =>
  rintro l ⟨es,k⟩ a' W ⟨hk,⟨hes,hcy⟩,rfl⟩;dsimp only at *;have hWr:=hcy.write hk hes rfl hD.out (fun k hk=>by have:=hltB k hk;omega) hneS hcy0.out (hrm.mono (by omega));have c0:=hcy.bz.cell 0
  have c2:=(hb2.mod hcy.md (fun e=>by
   rcases e with e | e
   ·omega
   ·have:=hlt bj (.inr e);omega)).cell 0
  have cj:W.cell? ⟨jb_,0,none⟩ = some (ptr P.pb):=by
   obtain ⟨m1,P1,p1,j,a1,a2,_⟩:=hcy.st;rw [← a2];exact a1.cell
  have hmE:∀ W3 er,Mod (fun k=>k = eb ∨ P.S k ∨ M.S k) W W3→Mod (fun k=>k = eb ∨ P.S k ∨ M.S k) W (W3.setCell ⟨eb,0,none⟩ er):=fun W3 er hm=>hm.setCell (fun _=>.inl rfl) _;simp only [List.length_cons,List.length_nil,Nat.zero_add,Nat.lt_irrefl,gz0] at c0 c2;replace hWr:=Lib.hid hWr;generalize es[k] = e0 at *
  gi_wp2_with fail
  refine ⟨trivial,(((callsIn_wide (n:=5)).2 hWr.out).inRound l).mono ?_⟩;rintro e W3 ⟨hm3,(⟨rfl,hcy3⟩ | ⟨rfl,hcut3⟩)⟩
  ·have d0:=hcy3.bz.cell 0;have df:=hcy3.bz.frozen 0
   have hfin:Mod (fun k=>k = eb ∨ P.S k ∨ M.S k) W (W3.setCell ⟨eb,0,none⟩ (errno 0))∧ChY w1 (W3.setCell ⟨eb,0,none⟩ (errno 0)) jb_ eb M m P p p.count B B pc (puts (jb pc) (chs xs)) es (k + 1) :=
    ⟨hmE _ _ hm3,hcy3.setErr (by have:=hltB eb (.inl rfl);omega)⟩
   have dc:=(hcy3.setErr (by have:=hltB eb (.inl rfl);omega)).bz.cell 0;simp only [List.length_cons,List.length_nil,Nat.zero_add,Nat.lt_irrefl,gz0] at d0 dc;replace hfin:=Lib.hid hfin;clear hcy hcy3 c0 c2 cj
   gi_wp2
   exact hfin.out
  ·have hb3:Blk W3 eb [.int .i64 0] 27:=by
    obtain ⟨m',P',p',pc2,_,_,_,_,_,_,_,_,_,_,_,_,hb⟩:=hcut3;exact hb
   have d0:=hb3.cell 0;have df:=hb3.frozen 0;have hb4:Blk (W3.setCell ⟨eb,0,none⟩ (errno 7)) eb [.int .i64 7] 27:=(hb3.setCell 0 _).conv rfl;have dc:=hb4.cell 0;have dcf:=hb4.frozen 0
   have hfin:Mod (fun k=>k = eb ∨ P.S k ∨ M.S k) W ((W3.setCell ⟨eb,0,none⟩ (errno 7)).setCell ⟨eb,0,none⟩ (errno 7))∧ChCut w1 ((W3.setCell ⟨eb,0,none⟩ (errno 7)).setCell ⟨eb,0,none⟩ (errno 7)) eb M m P p 62538 (fun x=>Due p.count x J (chs xs)) 7 :=
    ⟨hmE _ _ (hmE _ _ hm3),(hcut3.setErr 7).setErr 7⟩
   simp only [List.length_cons,List.length_nil,Nat.zero_add,Nat.lt_irrefl,gz0] at d0 dc;replace hfin:=Lib.hid hfin;clear hcy hb3 hb4 c0 c2 cj
   gi_wp2
   exact ⟨hfin.out.1,rfl,hfin.out.2⟩
 case hit =>
  intro W1 R XX hm1 hsz hRs hXX hYd hR1
  have hit:=jChanged_it (w0:=w1) (D:=w1.heap.size) (l:=w1.heap.size + 1) (hIt.out W1 hm1) hl hc16 (hm1.mono fun _ _ h=>h.elim) R XX ⟨by omega,by omega⟩ (fun k hk=>by have:=hltB k hk;omega) hRs (fun es k hk W hes hok hcy hR=>by
   rw [hsz,hB] at hcy ⊢
   exact hYd (es,k) _ W ⟨hk,rfl,hes,hcy⟩ hR) hR1
  refine hit.mono ?_;rintro e W' ⟨hv,(⟨⟨es,hes,hcy,hrest⟩,hR⟩ | hX)⟩
  ·rw [hsz,hB] at hcy;exact ⟨hv,.inl ⟨⟨es,hes,hcy,hrest⟩,hR⟩⟩
  ·exact ⟨hv,.inr hX⟩
 case hdone =>
  rintro W ⟨es,hes,hcy,hrest⟩ hDf;have c0:=hcy.bz.cell 0;have cf:=hcy.bz.frozen 0;have hcy2:=hcy.setErr (by have:=hltB eb (.inl rfl);omega);have hDne:eb ≠ w1.heap.size:=by have:=hltB eb (.inl rfl);omega
  have hD2:(W.setCell ⟨eb,0,none⟩ (.int .i64 0)).heap[w1.heap.size]? = some (.deferred (some [])):=(heap_setCell_other W _ _ _ (fun e=>hDne e.symm)).trans hDf;simp only [List.length_cons,List.length_nil,Nat.zero_add,Nat.lt_irrefl,gz0] at c0;refine hid2 ?_ hcy2 hD2;clear hcy2 hD2;intro hcy2 hD2;clear hcy hDf;go_wp2;have hcy3:=hcy2.out.put (r:=w1.heap.size) (o':=.deferred none) (Nat.le_refl _) hD2.out rfl;refine ⟨by simp,.inl ⟨_,_,rfl,run_takeDeferred hD2.out,?_⟩⟩;generalize (W.setCell ⟨eb,0,none⟩ (.int .i64 0)).putObj w1.heap.size (.deferred none) = W9 at hcy3 ⊢;have hmd9:=hcy3.md
  have hbj3:Blk W9 bj [ptr jb_] 158:=hb2.mod hmd9 (fun e=>by
   rcases e with e | e
   ·omega
   ·have:=hlt bj (.inr e);omega)
  have hdn:ChDone w1 W9 jb_ eb M m P p 62538 (fun x=>Due p.count x J (chs xs)∧Still p.count (setPage x 0 (headPage 0)) J):=by
   obtain ⟨⟨m1,P1,p1,j,a1,a2,a3,a4,a5,a6,a7,a8,a9⟩,hok,hbz,hmd⟩:=hcy3;rw [List.take_length] at a1;have hlo:∀ e ∈ es,32≤e.i:=fun e he=>(hok e he).lo;exact ⟨m1,P1,p1,_,j,a1,a2,a3,a4,a5,a6,a7,by omega,a9,⟨(wrPc_due es pc hD.out (fun _=>rfl) hlo).1,wrPc_still hD.out hlo hrest⟩,hmd,hbz⟩
  refine ⟨by simp,.inr ⟨fun h=>by simp [Fence.wide] at h,_,_,279,#[.pointer (some ⟨eb,0,none⟩),.pointer (some ⟨bj,0,none⟩)],rfl,by simp [invoke,go_sem,enters_of Tryz.func279 (by kernel_rfl) rfl],fun g _=>trivial,?_⟩⟩;refine (jMake1_ok (Q':=fun x=>Still p.count x J) hdn hbj3 hrm hneS (fun _ h=>h.2) .returning).mono ?_;rintro e u' W3 ⟨rfl,⟨v,rfl⟩,(hd | hc)⟩
  ·exact hfinD W3 hd _ rfl
  ·exact hfinC W3 (hc.mono' (by omega) (fun _ h=>h.1)) _ rfl
 case hstop =>
  rintro c W ⟨rfl,hcut⟩ hDf
  gi_wp2
  have hcut3:=hcut.put (r:=w1.heap.size) (o':=.deferred none) (Nat.le_refl _) hDf rfl;refine ⟨by simp,.inl ⟨_,_,rfl,run_takeDeferred hDf,?_⟩⟩;refine ⟨by simp,.inr ⟨fun h=>by simp [Fence.wide] at h,_,_,279,#[.pointer (some ⟨eb,0,none⟩),.pointer (some ⟨bj,0,none⟩)],rfl,by simp [invoke,go_sem,enters_of Tryz.func279 (by kernel_rfl) rfl],fun g _=>trivial,?_⟩⟩;refine (jMake1_cut (b2:=bj) hcut3 .returning).mono ?_;rintro e u' W3 ⟨rfl,⟨v,rfl⟩,hc⟩;exact hfinC W3 (hc.mono' (by omega) (fun _ h=>h)) _ rfl
end Go.Proofs.YtanioleniadhoaaGreat
/-
 The journal: what the log says is made again; opening; applying.
-/
namespace Go.Proofs.YtanioleniadhoaaGreat
open Go.RowKit Go.Shelf
open Jn
attribute [local go_sem] Oper.semAt_some
theorem fits_ok {C:Nat} {c:Ch} (h:ChOk ((C - 32) * 48) c):fits C c = true:=by
 have:=h.fit;unfold fits
 simp;omega
theorem any_fits {C:Nat} {xs:List Cx} (h:∀ c ∈ chs xs,ChOk ((C - 32) * 48) c):xs.any (fun x=>!fits C x.2) = false:=by
 rw [List.any_eq_false];intro x hx;simp [fits_ok (h x.2 (List.mem_map.2 ⟨x,hx,rfl⟩))]
theorem jRepeat_ok {w:World} {jb_:Nat} {M:MemAt} {m:Mem} {P:PAt} {p:PSt} {pc:PC} {J:Nat→Nat} {l:List Ch} (h:Jr w jb_ M m P p pc) (hD:Due p.count pc J l) (hrm:Room m 62580) :
  Calls Tryz.prog 176 #[ptr jb_,.int .i64 ((enc l).length:Nat)] w (JPost w jb_ M m P p 62580 (fun x=>Still p.count x J) (fun x=>Due p.count x J l)):=by
 have hm0:Mod Nowhere w (w.alloc (.cells #[ptr jb_] 158)):=(Mod.refl _ w).alloc _;have hJ0:=h.fresh hm0 (fun _ _=>id);have hb0:=Blk.new w [ptr jb_] 158;have hlt:∀ k,(k = jb_ ∨ P.S k ∨ M.S k)→k < w.heap.size:=h.lt;have hc16:=h.pg.rep.c16;have hc33:=h.c33;have hPg:=jPages_ok hJ0 1 0 (enc l).length (by have:=hD.le;omega);rw [rd_logged hD.logged] at hPg;have hle:=hD.le;have hpos:=hD.pos;have hn:¬ ((1488:Int) < ((enc l).length:Nat)):=by omega
 have hbytes:∀ c ∈ l,Bytes c.2:=fun c hc=>(hD.ok c hc).bytes;have hof:∀ c ∈ l,c.1 < 281474976710656:=fun c hc=>by have:=(hD.ok c hc).fit;omega
 have hnl:w.heap.size ≠ P.pb:=fun e=>by have:=hlt P.pb (.inr (.inl (.inl rfl)));omega
 refine hid6 ?_ hPg hD hbytes hof hb0 hm0;clear hPg hD hbytes hof hb0 hm0;intro hPg hD hbytes hof hb0 hm0;clear h hJ0;obtain ⟨nl,hnl2⟩:∃ nl,(enc l).length = nl:=⟨_,rfl⟩;rw [hnl2] at hPg hle hpos hn ⊢;replace hnl2:=Lib.hid hnl2;go_enter Tryz.func176,Tryz.ntmps176;go_wp2_with fail;refine hPg.out.mono ?_;rintro e w1 ⟨v,rfl,hown,hJ1,hm1⟩;have hb1:=hb0.out.mod hm1 (fun e=>hnl e);have hmw1:Mod (Only P.pb) w w1:=(hm0.out.mono fun _ _ h=>h.elim).trans hm1;have hvs:∀ k,v.ownBlock = some k→w.heap.size≤k:=fun k hk=>by have:=owns_fresh hown k hk;simp at this;omega
 have hsl:Sl w1 v 5 1 (enc l).length (u8s (enc l)):=by rw [hnl2.out];exact Sl.of_owns hown
 have hDc:=jDecode_ok hsl hbytes.out (by rw [hnl2.out];exact hpos) (by rw [hnl2.out];exact hle) hof.out;have hs1:=hmw1.size;refine hid3 ?_ hDc hb1 hJ1;clear hDc hb1 hJ1;intro hDc hb1 hJ1;clear hown hm1 hsl hPg;go_wp2_with fail;refine hDc.out.mono ?_;rintro e w2 ⟨v2,xs,rfl,rfl,hch,hv2,hx2,hm2⟩;have hb2:=hb1.out.mod hm2 id;have hJ2:=hJ1.out.fresh hm2 (fun _ _=>id);have hbc:=hb2.cell 0;simp only [List.length_cons,List.length_nil,Nat.zero_add,Nat.lt_irrefl,gz0] at hbc
 have hws:wsum (chs xs)≤1488:=by
  have h1:=hnl2.out;rw [enc_len] at h1;omega
 have hxl:=len_le_wsum (chs xs);have hxl2:(chs xs).length = xs.length:=by simp [chs]
 have hox:∀ x ∈ xs,x.2.1≤1099511627776∧x.2.2.length≤1099511627776:=fun x hx=>by
  have:=(hD.out.ok _ (List.mem_map.2 ⟨x,hx,rfl⟩)).fit;omega
 have hCF:=ContainsFunc_chg (w:=w2) hch (by omega) 241 #[.pointer (some ⟨w.heap.size,0,none⟩)] (enters_of Tryz.func241 (by kernel_rfl) rfl) (fun x=>!fits p.count x.2)
  (fun x hx wr hmr=>by
   obtain ⟨a,c,e3,_⟩:=(hch.data x hx).len
   exact jNotWithinR_ok (hJ2.jblk.fresh hmr) ((hmr.cell (p:=⟨w.heap.size,0,none⟩) (by have:=hm2.size;have:=hmw1.size;have:=hb2.lt;exact this) id).trans hbc) (by omega) hc16 x e3 (hox x hx).1 (hox x hx).2)
 rw [any_fits hD.out.ok] at hCF;have hS2:=hm2.size;refine hid4 ?_ hCF hJ2 hb2 hch;clear hCF hJ2 hb2 hch;intro hCF hJ2 hb2 hch;clear hbc;go_wp2_with fail;refine hCF.out.mono ?_;rintro e w3 ⟨rfl,hm3⟩;have hb3:=hb2.out.mod hm3 id;have hJ3:=hJ2.out.fresh hm3 (fun _ _=>id);have hbc:=hb3.cell 0;simp only [List.length_cons,List.length_nil,Nat.zero_add,Nat.lt_irrefl,gz0] at hbc;have hMk:=jMake_ok hJ3 (hch.out.fresh hm3) (fun k hk e=>by have:=hv2 k hk;have:=hlt k (.inr e);omega) (fun x hx k hk e=>by have:=hvs k (hx2 x hx k hk);have:=hlt k (.inr e);omega) hD.out hws hrm;replace hMk:=Lib.hid hMk
 clear hCF;go_wp2_with fail;refine hMk.out.mono ?_;rintro e w4 hpost;have hfin:=hpost.from hJ1.out.runs ((hmw1.mono fun k _ e=>.inl (.inl e)).trans ((hm2.trans hm3).mono fun _ _ h=>h.elim));obtain ⟨ne,rfl⟩:=hfin.errno;replace hfin:=Lib.hid hfin;clear hpost;go_wp2;go_ret;exact hfin.out
theorem encC_bytes {c:Ch} (h:Bytes c.2):Bytes (encC c):=by unfold encC;exact bytes_append (be_bytes _ _) (bytes_append (be_bytes _ _) h)
theorem JPost.md {w w':World} {jb:Nat} {M:MemAt} {m:Mem} {P:PAt} {p:PSt} {n:Nat} {Qok Qd:PC→Prop} {e:Ending} (h:JPost w jb M m P p n Qok Qd e w'):Mod (fun k=>P.S k ∨ M.S k) w w':=by
 rcases h with ⟨_,_,_,_,_,_,_,_,_,_,_,_,_,_,_,_,h⟩ | ⟨_,_,_,_,_,_,_,_,_,_,_,_,_,_,_,_,h⟩ <;> exact h
theorem enc_bytes':∀ (l:List Ch),(∀ c ∈ l,Bytes c.2)→Bytes (enc l)
 | [],_=>fun k=>by simp [enc]
 | c :: l,h=>by
  rw [enc_cons];exact bytes_append (encC_bytes (h c (List.mem_cons_self ..))) (enc_bytes' l (fun c' hc'=>h c' (List.mem_cons_of_mem _ hc')))
theorem Jn.Still.due_log {C K:Nat} {pc:PC} {J:Nat→Nat} {l:List Ch} (h:Still C pc J) (hK:K≤31) (hpos:0 < (enc l).length) (hle:(enc l).length≤K * 48) (hok:∀ c ∈ l,ChOk ((C - 32) * 48) c) :
  Due C (setPage (logPc pc (enc l) K) 0 (headPage (enc l).length)) (puts J l) l :=
 (logPc_still (enc l) h K hK).decide hpos (by omega) (fun i hi=>logPc_logged pc (enc l) K i (by omega)) hok
theorem puts_none {l:List Ch} (J:Nat→Nat) (h:∀ c ∈ l,c.2.length = 0) (o:Nat):puts J l o = J o :=
 puts_miss l J o (fun ⟨c,hc,h1,h2⟩=>by have:=h c hc;omega)
theorem jApply_ok {w:World} {jb_:Nat} {M:MemAt} {m:Mem} {P:PAt} {p:PSt} {pc:PC} {J:Nat→Nat} {vx:Value} {xs:List Cx} (h:Jr w jb_ M m P p pc) (hS:Still p.count pc J) (hch:ChSl w vx xs) (ho1:Off (fun k=>P.S k ∨ M.S k) vx) (ho2:∀ x ∈ xs,Off (fun k=>P.S k ∨ M.S k) x.1)
  (hok:∀ c ∈ chs xs,ChOk ((p.count - 32) * 48) c) (hws:wsum (chs xs)≤1024) (hrm:Room m 63924) :
  Calls Tryz.prog 228 #[ptr jb_,vx] w (JPost w jb_ M m P p 63924 (fun x=>Still p.count x (puts J (chs xs))) (fun x=>Still p.count x J ∨ Due p.count x (puts J (chs xs)) (chs xs))):=by
 obtain ⟨va,vc,rfl,hv1,hv2,_⟩:=hch.sl.gen;have hm0:Mod Nowhere w (w.alloc (.cells #[ptr jb_] 158)):=(Mod.refl _ w).alloc _;have hJ0:=h.fresh hm0 (fun _ _=>id);have hb0:=Blk.new w [ptr jb_] 158;have hlt:∀ k,(k = jb_ ∨ P.S k ∨ M.S k)→k < w.heap.size:=h.lt;have hc16:=h.pg.rep.c16;have hc33:=h.c33;have hMd:=jMade_ok hJ0.cell;have hA:=pAlive_ok hJ0.pg.ctx.mem hJ0.pg.rep.bp;rw [h.pg.alive_true] at hA;have hcj:=hJ0.cell;have hb0c:=hb0.cell 0;simp only [List.length_cons,List.length_nil,Nat.zero_add,Nat.lt_irrefl,gz0] at hb0c;have hxl:=len_le_wsum (chs xs);have hxl2:(chs xs).length = xs.length:=by simp [chs]
 have hox:∀ x ∈ xs,x.2.1≤1099511627776∧x.2.2.length≤1099511627776:=fun x hx=>by
  have:=(hok _ (List.mem_map.2 ⟨x,hx,rfl⟩)).fit;omega
 have hch0:=hch.fresh hm0;refine hid8 ?_ hMd hA hb0 hm0 hJ0 hch0 hok hox;clear hMd hA hb0 hm0 hJ0 hch0 hok hox;intro hMd hA hb0 hm0 hJ0 hch0 hok hox;have hr0:=h.runs;clear h hch;go_enter Tryz.func228,Tryz.ntmps228;go_wp2_with fail;refine hMd.out.mono ?_;rintro e w1 ⟨rfl,rfl⟩;go_wp2_with fail;refine hA.out.mono ?_;rintro e w1 ⟨rfl,nd,rfl⟩;have hm1:Mod Nowhere w ((w.alloc (.cells #[ptr jb_] 158)).drewN nd):=hm0.out.drewN nd;have hJ1:=hJ0.out.drewN nd;have hb1:=hb0.out.drewN nd;have hch1:=hch0.out.fresh ((Mod.refl Nowhere _).drewN nd);generalize (w.alloc (.cells #[ptr jb_] 158)).drewN nd = w1 at hm1 hJ1 hb1 hch1 ⊢
 clear hJ0 hb0 hch0 hMd hA hcj hb0c hm0;have hbc:=hb1.cell 0;simp only [List.length_cons,List.length_nil,Nat.zero_add,Nat.lt_irrefl,gz0] at hbc
 have hCF:=ContainsFunc_chg (w:=w1) hch1 (by omega) 266 #[.pointer (some ⟨w.heap.size,0,none⟩)] (enters_of Tryz.func266 (by kernel_rfl) rfl) (fun x=>!fits p.count x.2)
  (fun x hx wr hmr=>by
   obtain ⟨a,c,e3,_⟩:=(hch1.data x hx).len
   exact jNotWithinA_ok (hJ1.jblk.fresh hmr) ((hmr.cell (p:=⟨w.heap.size,0,none⟩) hb1.lt id).trans hbc) (by omega) hc16 x e3 (hox.out x hx).1 (hox.out x hx).2)
 rw [any_fits hok.out] at hCF;refine hid4 ?_ hCF hJ1 hb1 hch1;clear hCF hJ1 hb1 hch1;intro hCF hJ1 hb1 hch1;go_wp2_with fail;refine hCF.out.mono ?_;rintro e w2 ⟨rfl,hm2⟩;have hW:=jWeight_ok (hch1.out.fresh hm2) (by omega) (by omega);have hlw:¬ ((1024:Int) < (wsum (chs xs):Nat)):=by omega
 replace hW:=Lib.hid hW;clear hCF hbc;go_wp2_with fail;refine hW.out.mono ?_;rintro e w3 ⟨rfl,hm3⟩;have hm03:=(hm1.trans hm2).trans hm3;have hch3:=(hch1.out.fresh hm2).fresh hm3
 have hCF:=ContainsFunc_chg (w:=w3) hch3 (by omega) 268 #[] (enters_of Tryz.func268 (by kernel_rfl) rfl) (fun x=>decide (0 < x.2.2.length))
  (fun x hx wr hmr=>by
   obtain ⟨a,c,e3,_⟩:=(hch3.data x hx).len
   exact jSome_ok x e3)
 replace hCF:=Lib.hid hCF;clear hW;go_wp2_with fail;refine hCF.out.mono ?_;rintro e w4 ⟨rfl,hm4⟩;have hb4:=((hb1.out.mod hm2 id).mod hm3 id).mod hm4 id;have hJ4:=((hJ1.out.fresh hm2 (fun _ _=>id)).fresh hm3 (fun _ _=>id)).fresh hm4 (fun _ _=>id);have hm04:=hm03.trans hm4;have hch4:=hch3.fresh hm4;clear hCF hch3
 cases hany:xs.any (fun x=>decide (0 < x.2.2.length))
 ·have hno:∀ c ∈ chs xs,c.2.length = 0:=fun c hc=>by
   obtain ⟨x,hx,rfl⟩:=List.mem_map.1 hc;have:=(List.any_eq_false.1 hany) x hx;simpa using this
  have hfin:JPost w jb_ M m P p 63924 (fun x=>Still p.count x (puts J (chs xs))) (fun x=>Still p.count x J ∨ Due p.count x (puts J (chs xs)) (chs xs)) (.returned (errno 0)) w4 :=
   .inl ⟨m,P,p,0,pc,rfl,hJ4,rfl,rfl,rfl,rfl,rfl,rfl,by omega,hr0,hS.congr (fun o _=>(puts_none J hno o).symm),hm04.mono fun _ _ h=>h.elim⟩
  replace hfin:=Lib.hid hfin;go_wp2;go_ret;exact hfin.out
 ·have hpos:0 < (enc (chs xs)).length:=by
   obtain ⟨x,hx,h1⟩:=List.any_eq_true.1 hany;rw [enc_len];have:0 < xs.length:=List.length_pos_of_mem hx;omega
  have hle:(enc (chs xs)).length≤1488:=by rw [enc_len];omega
  have hbs:Bytes (enc (chs xs)):=enc_bytes' _ (fun c hc=>(hok.out c hc).bytes);have hE:=jEncode_ok (w:=w4.drew) (hch4.fresh ((Mod.refl Nowhere w4).drew)) (by omega) (by omega) (fun x hx=>(hox.out x hx).1);have hdw:=(Mod.refl Nowhere w4).drew;have hbc:=hb4.cell 0;simp only [List.length_cons,List.length_nil,Nat.zero_add,Nat.lt_irrefl,gz0] at hbc;have hbl:=hb4.lt;have hbn:¬ (P.S w.heap.size ∨ M.S w.heap.size):=fun e=>by have:=hlt _ (.inr e);omega
  refine hid4 ?_ hE hJ4 hch4 hany;clear hE hJ4 hch4 hany;intro hE hJ4 hch4 hany;go_wp2
  go_region_held3 (fun w'=>w'.cell? ⟨w.heap.size,0,none⟩ = some (ptr jb_)) (simp [*,World.cell?_alloc_some,World.cell?_setCell_far,World.cell?_setCell_other])
   (first | (go_at_call 270;(with_reducible refine hE.out.mono ?_);rintro e w5 ⟨v5,rfl,hown5,hm5⟩;have hm45:=hdw.trans hm5;have hJ5:=hJ4.out.fresh hm45 (fun _ _=>id);have hb5:=hb4.mod hm45 id;have kb:=hb5.cell 0;(simp only [List.length_cons,List.length_nil,Nat.zero_add,Nat.lt_irrefl,gz0] at kb);have hLog:=jLog_ok hJ5 (Sl.of_owns hown5) hbs (fun k hk e=>by have:=owns_fresh hown5 k hk;have h1:=hlt k (.inr e);have h2:=hm04.size;(simp at this);omega) hpos hle (hrm.mono (by omega));replace hLog:=Lib.hid hLog;replace hJ5:=Lib.hid hJ5;replace hb5:=Lib.hid hb5;replace hm45:=Lib.hid hm45;clear hown5 hm5) | (go_at_call 269;(with_reducible refine hLog.out.mono ?_);rintro e w6 hpost;obtain ⟨ne,rfl⟩:=hpost.errno;have hb6:=hb5.out.mod hpost.md hbn;have kb6:=hb6.cell 0;(simp only [List.length_cons,List.length_nil,Nat.zero_add,Nat.lt_irrefl,gz0] at kb6);replace hpost:=Lib.hid hpost;replace hb6:=Lib.hid hb6))
  have hch6:=(hch4.out.fresh hm45.out).mod hpost.out.md ho1 ho2;have hm05:Mod (fun k=>P.S k ∨ M.S k) w w5:=(hm04.trans hm45.out).mono fun _ _ h=>h.elim;have hm06:=hm05.trans hpost.out.md;have hb6c:=hb6.out.cell 0;rcases hpost.out with ⟨m',P',p',k',pc',e1,a1,a2,a3,a4,a5,a6,a7,a8,a9,⟨K,hK,hlK,rfl⟩,a11⟩ | ⟨m',P',p',pc2,e1,b1,b2,b3,b4,b5,b6,b7,b8,b9,b10,⟨jj,hjj,rfl⟩,b12⟩
  ·obtain rfl:ne = 0:=by simpa [errno] using e1
   have hSe:=S_eq a2 a3 a4;have hMk:=jMake_ok a1 hch6 (by rw [hSe];exact ho1) (by rw [hSe];exact ho2) (J:=puts J (chs xs)) (by rw [a5];exact hS.due_log hK hpos hlK hok.out) (by omega) (hrm.runs a9 (by omega));rw [a5] at hMk;replace hMk:=Lib.hid hMk;clear hch6 hb6c;replace hm06:=Lib.hid hm06;go_wp2_with fail;refine hMk.out.mono ?_;rintro e w7 hp7
   have hfin:JPost w jb_ M m P p 63924 (fun x=>Still p.count x (puts J (chs xs))) (fun x=>Still p.count x J ∨ Due p.count x (puts J (chs xs)) (chs xs)) e w7 :=
    (hp7.mono (Nat.le_refl _) (fun _ h=>h) (fun _ h=>.inr h)).after a2 a3 a4 a5 a6 a7 a9 (by omega) hm06.out
   obtain ⟨n7,rfl⟩:=hfin.errno;replace hfin:=Lib.hid hfin;clear hp7;go_wp2;go_ret;exact hfin.out
  ·obtain rfl:ne = 7:=by simpa [errno] using e1
   have hfin:JPost w jb_ M m P p 63924 (fun x=>Still p.count x (puts J (chs xs))) (fun x=>Still p.count x J ∨ Due p.count x (puts J (chs xs)) (chs xs)) (.returned (errno 7)) w6 :=
    (JPost.mono (.inr ⟨m',P',p',_,rfl,b1,b2,b3,b4,b5,b6,b7,b8,b9,b10,rfl,b12⟩:JPost w5 jb_ M m P p 1344 (fun _=>False) (fun x=>x = logPc pc (enc (chs xs)) jj) _ w6) (Nat.le_refl _) (fun _ h=>h.elim) (fun x hx=>.inl (hx ▸ logPc_still _ hS jj hjj))).after rfl rfl rfl rfl rfl rfl hr0 (by omega) hm05
   replace hfin:=Lib.hid hfin;clear hch6 hb6c;go_wp2;go_ret;exact hfin.out
def JOpened (w:World) (M:MemAt) (m:Mem) (P:PAt) (p:PSt) (J:Nat→Nat) (e:Ending) (w':World):Prop :=
 (∃ jb m' P' p' k pc',e = .returned (.tuple #[ptr jb,errno 0])∧w.heap.size≤jb∧Jr w' jb M m' P' p' pc'∧P'.pb = P.pb∧P'.ab = P.ab∧P'.hb = P.hb∧p'.count = p.count∧p'.frames = p.frames∧p'.cuts = p.cuts∧k≤62580∧Runs m m' k∧Still p.count pc' J∧Mod (fun k=>P.S k ∨ M.S k) w w') ∨
 (∃ m' P' p' pc2,e = .returned (.tuple #[.pointer none,errno 7])∧MemRep w' M m'∧PRep w' M P' p'∧P'.pb = P.pb∧P'.ab = P.ab∧P'.hb = P.hb∧p'.count = p.count∧p'.frames = p.frames∧p'.cuts = p.cuts∧Stopped m m' 62580∧Holds m'.D p.count p.frames m'.writes pc2∧Holdsj p.count pc2 J∧Mod (fun k=>P.S k ∨ M.S k) w w')
theorem jOpen_ok {w:World} {M:MemAt} {m:Mem} {P:PAt} {p:PSt} {pc:PC} {J:Nat→Nat} (h:Pg w M m P p pc) (h33:33≤p.count) (hJ:Holdsj p.count pc J) (hrm:Room m 62580) :
  Calls Tryz.prog 107 #[ptr P.pb] w (JOpened w M m P p J):=by
 have hc16:=h.rep.c16;have hCo:=pCount_ok h.rep.bp;have hA:=pAlive_ok h.ctx.mem h.rep.bp;rw [h.alive_true] at hA;have hlt:∀ k,(P.S k ∨ M.S k)→k < w.heap.size:=h.lt
 have hne0:((p.count:Int) == 0) = false:=by
  have:¬ ((p.count:Int) = 0):=by omega
  simpa using this
 have hn32:¬ ((p.count:Int)≤32):=by omega
 have hr0:Runs m m 0:=⟨h.ctx.off,rfl,rfl,rfl,rfl,rfl,h.ctx.good,id⟩;refine hid3 ?_ hCo hA h;clear hCo hA h;intro hCo hA h;go_enter Tryz.func107,Tryz.ntmps107;go_wp2_with fail;refine hCo.out.mono ?_;rintro e w1 ⟨rfl,rfl⟩;go_wp2_with fail;refine hA.out.mono ?_;rintro e w1 ⟨rfl,nd,rfl⟩;have hP1:=h.out.drewN nd;have hm1:Mod Nowhere w (w.drewN nd):=(Mod.refl _ w).drewN nd;have hs1:w.heap.size≤(w.drewN nd).heap.size:=Nat.le_refl _;generalize w.drewN nd = w1 at hP1 hm1 hs1 ⊢;have hm2:Mod Nowhere w1 (w1.alloc (.cells #[ptr P.pb] 255)):=(Mod.refl _ w1).alloc _;have hP2:=hP1.fresh hm2 (fun _ _=>id);have hb2:=Blk.new w1 [ptr P.pb] 255
 have hCo2:=pCount_ok hP2.rep.bp;have hRd:=pRead_ok hP2 (i:=0) (by omega);rw [show ((0:Nat):Int) = 0 from rfl] at hRd;refine hid3 ?_ hCo2 hRd hb2;clear hCo2 hRd hb2;intro hCo2 hRd hb2;clear hP1 hA hCo;go_wp2_with fail;refine hCo2.out.mono ?_;rintro e w2 ⟨rfl,rfl⟩;go_wp2_with fail;refine hRd.out.mono ?_;rintro e w2 ⟨v,rfl,hown,hP3,hm3⟩;obtain ⟨g,gcap,gcs,rfl,hg,hgb,hg1,hg2,hgl,hgt⟩:=owns_open hown (by omega);have hsl:Sl w2 (.slice (some ⟨g,0,none⟩) 48 gcap) 5 1 48 (u8s (pc 0)):=Sl.of_owns hown;have hs8:=hsl.upto 8 gcap (by omega) (by omega) (Nat.le_refl _);rw [u8s_take] at hs8;have hby:Bytes ((pc 0).take 8):=bytes_take (hP3.inv.h.bytes 0 (by omega)) 8
 have hl8:((pc 0).take 8).length = 8:=by
  rw [List.length_take,hP3.inv.h.len 0 (by omega)];rfl
 have hpn:w1.heap.size ≠ P.pb:=fun e=>by have:=hlt P.pb (.inl (.inl rfl));omega
 have hJ3:Jr w2 w1.heap.size M m P p pc:=⟨hP3,hb2.out.mod hm3 (fun e=>hpn e),fun e=>by have:=hlt _ e;omega,h33⟩;have hm03:Mod (fun k=>P.S k ∨ M.S k) w w2:=(hm1.mono fun _ _ h=>h.elim).trans ((hm2.mono fun _ _ h=>h.elim).trans (hm3.mono fun k _ e=>.inl (.inl e)));have hnum:num ((pc 0).take 8) = hdn pc:=rfl
 have hhd:hdn pc≤1488:=by
  rcases hJ with hs | ⟨l,hd⟩
  ·rw [hs.head];omega
  ·rw [hd.head];exact hd.le
 have hN:=number_ok (w:=w2) (v:=.slice (some ⟨g,0,none⟩) 8 gcap) (l:=(pc 0).take 8) (by rw [hl8];exact hs8) hby (by omega) (by rw [hnum];omega);rw [hnum] at hN;have hg8:(8:Int)≤(gcap:Int):=by omega
 refine hid3 ?_ hN hJ3 hm03;clear hN hJ3 hm03;intro hN hJ3 hm03;clear hown hP3 hm3 hsl hs8 hgb hRd hCo2 hP2 hb2;go_wp2_with fail;refine hN.out.mono ?_;rintro e w3 ⟨rfl,rfl⟩;clear hN;rcases hJ with hs | ⟨l,hd⟩
 ·have hh:=hs.head;rw [hh];go_wp2
  go_ret2
  exact .inl ⟨_,m,P,p,0,pc,rfl,by omega,hJ3.out,rfl,rfl,rfl,rfl,rfl,rfl,by omega,hr0,hs,hm03.out⟩
 ·have hh:=hd.head;have hpos:=hd.pos;rw [hh];have hRp:=jRepeat_ok hJ3.out hd hrm;have hp0:(0:Int) < ((enc l).length:Nat):=by omega
  replace hRp:=Lib.hid hRp;generalize (enc l).length = nl at *;go_wp2_with fail;refine hRp.out.mono ?_;rintro e w4 hpost;have hp:=hpost.from hr0 hm03.out;rcases hp with ⟨m',P',p',k',pc',rfl,a1,a2,a3,a4,a5,a6,a7,a8,a9,a10,a11⟩ | ⟨m',P',p',pc2,rfl,b1,b2,b3,b4,b5,b6,b7,b8,b9,b10,b11,b12⟩
  ·have hfin:JOpened w M m P p J (.returned (.tuple #[ptr w1.heap.size,errno 0])) w4:=.inl ⟨_,m',P',p',k',pc',rfl,by omega,a1,a2,a3,a4,a5,a6,a7,a8,a9,a10,a11⟩;replace hfin:=Lib.hid hfin;clear hpost;go_wp2
   go_ret2
   exact hfin.out
  ·have hfin:JOpened w M m P p J (.returned (.tuple #[.pointer none,errno 7])) w4:=.inr ⟨m',P',p',pc2,rfl,b1,b2,b3,b4,b5,b6,b7,b8,b9,b10,.inr ⟨l,b11⟩,b12⟩;replace hfin:=Lib.hid hfin;clear hpost;go_wp2
   go_ret2
   exact hfin.out
end Go.Proofs.YtanioleniadhoaaGreat
