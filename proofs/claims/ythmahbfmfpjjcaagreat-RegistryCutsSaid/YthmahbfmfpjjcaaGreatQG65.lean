/-
  The registry: an entry out of its item.
-/
import Derived.Test.YthmahbfmfpjjcaaGreatQH9
import Derived.Test.YthmahbfmfpjjcaaGreatQH10
import Derived.Test.YthmahbfmfpjjcaaGreatQLaysE
import Derived.Shelf.SlSortCmp.NoneTotal
set_option linter.unusedVariables false
set_option linter.unusedSimpArgs false
set_option maxHeartbeats 4000000
set_option maxRecDepth 100000
namespace Go.Proofs.YthmahbfmfpjjcaaGreat
open Go.RowKit
open Jn Rg
attribute [local go_sem] Oper.semAt_some
theorem Zie (e:En):∀ i,i < 8→(enB e).getD i 0 = [e.kind,e.st,e.bf,e.pr,e.pk,e.ob / 256,e.ob % 256,e.aid.length].getD i 0:=fun i hi=>by
 unfold enB;rw [gd0,List.getElem?_append_left (by simpa using hi),← gd0]
def EnPost (w:World) (e:REn) (r:Ending) (w':World):Prop:=∃ u v,r = .returned (.agg (eCells u v e).toArray)∧DSl w' u e.aid∧DSl w' v e.dom∧Mod Nowhere w w'
theorem or_sh (a b:Nat) (hb:b < 256) (ha:a≤2):bits .or .i64 ((a:Int) * 256) (b:Int) = ((a * 256 + b:Nat):Int):=by
 have e:(BitVec.ofInt 64 ((a:Int) * 256) ||| BitVec.ofInt 64 (b:Int)).toNat = a * 256 + b:=by
  rw [BitVec.toNat_or,BitVec.toNat_ofInt,BitVec.toNat_ofInt];have h1:((a:Int) * 256 % (2 ^ 64:Nat)).toNat = a * 2 ^ 8:=by omega
  have h2:((b:Int) % (2 ^ 64:Nat)).toNat = b:=by omega
  rw [h1,h2,← Nat.shiftLeft_eq,← Nat.shiftLeft_add_eq_or_of_lt (by omega:b < 2 ^ 8),Nat.shiftLeft_eq]
 show IntKind.i64.wrap ((BitVec.ofInt 64 ((a:Int) * 256) ||| BitVec.ofInt 64 (b:Int)).toNat:Int) = _
 rw [e,IntKind.wrap_i64];omega
theorem Zif {w:World} {v:Value} {e:En} (he:EOk e) (hv:DSl w v (enB e)):Calls Tryz.prog 95 #[v] w (EnPost w e.raw):=by
 have hlen:=ZaM e;have h16:=he.len;have ha5:=he.a5;have hd5:=he.d5;have hd16:=he.d16;have ha16:=he.a16;have hv0:Sl w v 5 1 (enB e).length (u8s (enB e)):=hv;obtain ⟨b,off,cap,rfl,hb,hc1,hc2,hcell,-⟩:=hv0.open (by omega);obtain ⟨o1,hr1,hs1⟩:=hv0.from_ Tryz.underlying22 Yw 8 (by omega);obtain ⟨o2,hr2,hs2⟩:=hs1.from_ Tryz.underlying22 Yw e.aid.length (by omega);have hr1':∀ W,(Instr.slice 22 (.slice (some ⟨b,off,none⟩) (enB e).length cap) (some (.int .i64 8)) none none).run Tryz.prog W = .ok (.slice (some ⟨b,o1,none⟩) ((enB e).length - 8) (cap - 8)) W:=hr1
 clear hr1;have hs3:=hs1.upto e.aid.length (cap - 8) (by omega) (by omega) (Nat.le_refl _);have hr3:=Zfg (P:=Tryz.prog) Tryz.underlying22 Yw b o1 ((enB e).length - 8) (cap - 8) e.aid.length (by omega)
 have hkW:∀ W,Mod Nowhere w W→W.cell? ⟨b,off,none⟩ = some (.int .u8 e.kind)∧W.cell? ⟨b,off + 1,none⟩ = some (.int .u8 e.st)∧W.cell? ⟨b,off + 2,none⟩ = some (.int .u8 e.bf)∧W.cell? ⟨b,off + 3,none⟩ = some (.int .u8 e.pr)∧W.cell? ⟨b,off + 4,none⟩ = some (.int .u8 e.pk)∧W.cell? ⟨b,off + 5,none⟩ = some (.int .u8 (e.ob / 256:Nat))∧W.cell? ⟨b,off + 6,none⟩ = some (.int .u8 (e.ob % 256:Nat))∧W.cell? ⟨b,off + 7,none⟩ = some (.int .u8 e.aid.length):=by
  intro W hm
  have g:∀ i,i < 8→W.cell? ⟨b,off + i,none⟩ = some (.int .u8 ([e.kind,e.st,e.bf,e.pr,e.pk,e.ob / 256,e.ob % 256,e.aid.length].getD i 0:Nat)):=fun i hi=>by
   rw [hm.cell (p:=⟨b,off + i,none⟩) hb id,hcell i (by omega),Yf _ _ (by omega),Zie e i hi]
  exact ⟨g 0 (by omega),g 1 (by omega),g 2 (by omega),g 3 (by omega),g 4 (by omega),g 5 (by omega),g 6 (by omega),g 7 (by omega)⟩
 obtain ⟨k0,k1,k2,k3,k4,k5,k6,k7⟩:=hkW w (Mod.refl _ _)
 have d2:DSl w (.slice (some ⟨b,o2,none⟩) ((enB e).length - 8 - e.aid.length) (cap - 8 - e.aid.length)) e.dom:=by
  have e1:((u8s (enB e)).drop 8).drop e.aid.length = u8s e.dom:=by rw [Zl,Zl];congr 1;simp [enB]
  rw [e1] at hs2;have e2:(enB e).length - 8 - e.aid.length = e.dom.length:=by omega
  rw [e2] at hs2 ⊢;exact hs2
 have d1:DSl w (.slice (some ⟨b,o1,none⟩) e.aid.length (cap - 8)) e.aid:=by
  have e1:((u8s (enB e)).drop 8).take e.aid.length = u8s e.aid:=by rw [Zl,Zp];congr 1;simp [enB]
  rw [e1] at hs3;exact hs3
 have hA:∀ W,Mod Nowhere w W→Calls Tryz.prog 99 #[.slice (some ⟨b,o1,none⟩) e.aid.length (cap - 8)] W fun r w'=>∃ va vc,r = .returned (.slice va e.aid.length vc)∧DSl w' (.slice va e.aid.length vc) e.aid∧Mod Nowhere W w':=fun W hm=>(XM (d1.fresh hm).src (by omega)).mono fun r w' ⟨va,vc,h1,h2,h3⟩=>⟨va,vc,h1,Sl.of_owns h2,h3⟩
 have hB:∀ W,Mod Nowhere w W→Calls Tryz.prog 99 #[.slice (some ⟨b,o2,none⟩) ((enB e).length - 8 - e.aid.length) (cap - 8 - e.aid.length)] W fun r w'=>∃ va vc,r = .returned (.slice va e.dom.length vc)∧DSl w' (.slice va e.dom.length vc) e.dom∧Mod Nowhere W w':=fun W hm=>by
  have e2:(enB e).length - 8 - e.aid.length = e.dom.length:=by omega
  rw [e2] at d2 ⊢;exact (XM (d2.fresh hm).src (by omega)).mono fun r w' ⟨va,vc,h1,h2,h3⟩=>⟨va,vc,h1,Sl.of_owns h2,h3⟩
 have q1:=he.k3;have q2:=he.st5;have q3:=he.bf4;have q4:=he.p31;have q5:=he.pk16;have q6:=he.ob512;clear hs1 hs2 hs3 hv hv0 hcell he d1 d2;obtain ⟨n,hn⟩:∃ n,(enB e).length = n:=⟨_,rfl⟩;rw [hn] at hr1' hr2 hr3 hc1 hlen h16 hB ⊢;have hob:((e.ob / 256 * 256 + e.ob % 256:Nat):Int) = e.ob:=by omega
 have hor:=or_sh (e.ob / 256) (e.ob % 256) (by omega) (by omega);rw [hob] at hor;have hr4:e.ob / 256≤2:=by omega
 have hr5:e.ob % 256 < 256:=by omega
 obtain ⟨k,st,bf,pr,pk,ob,aid,dom⟩:=e;unfold EnPost En.raw eCells;dsimp only at *;obtain ⟨al,hal⟩:∃ n,aid.length = n:=⟨_,rfl⟩;obtain ⟨dl,hdl⟩:∃ n,dom.length = n:=⟨_,rfl⟩;rw [hal] at hr2 hr3 hA hB k7 hlen ha5 ha16 hkW;rw [hdl] at hlen hd5 hd16 hB;generalize ob / 256 = oh at *;generalize ob % 256 = ol at *;have hm0:Mod Nowhere w (w.alloc (.cells zero8.toArray 24)):=(Mod.refl _ w).alloc _;have hT0:=Blk.new w zero8 24;unfold zero8 at hm0 hT0;have hdr:=hm0.drew;have hT:∀ W,Mod Nowhere (w.alloc (.cells #[.slice none 0 0,.int .i64 0,.int .i64 0,.int .i64 0,.int .i64 0,.slice none 0 0,.int .i64 0,.int .i64 0] 24)).drew W→Blk W w.heap.size [.slice none 0 0,.int .i64 0,.int .i64 0,.int .i64 0,.int .i64 0,.slice none 0 0,.int .i64 0,.int .i64 0] 24:=fun W hm=>hT0.drew.mod hm id;have i0:(0:Int) < (n:Int):=by omega
 have i1:(1:Int) < (n:Int):=by omega
 have i2:(2:Int) < (n:Int):=by omega
 have i3:(3:Int) < (n:Int):=by omega
 have i4:(4:Int) < (n:Int):=by omega
 have i5:(5:Int) < (n:Int):=by omega
 have i6:(6:Int) < (n:Int):=by omega
 have i7:(7:Int) < (n:Int):=by omega
 have j0:0 < n:=by omega
 have j8:¬ (n:Int) < 8:=by omega
 have j9:¬ (n:Int) < 8 + (al:Int):=by omega
 have w1:IntKind.i64.wrap (k:Int) = k:=by rw [IntKind.wrap_i64];omega
 have w2:IntKind.i64.wrap (st:Int) = st:=by rw [IntKind.wrap_i64];omega
 have w3:IntKind.i64.wrap (bf:Int) = bf:=by rw [IntKind.wrap_i64];omega
 have w4:IntKind.i64.wrap (pr:Int) = pr:=by rw [IntKind.wrap_i64];omega
 have w5:IntKind.i64.wrap (pk:Int) = pk:=by rw [IntKind.wrap_i64];omega
 have w6:IntKind.i64.wrap (oh:Int) = oh:=by rw [IntKind.wrap_i64];omega
 have w7:IntKind.i64.wrap (ol:Int) = ol:=by rw [IntKind.wrap_i64];omega
 have w8:IntKind.i64.wrap (al:Int) = al:=by rw [IntKind.wrap_i64];omega
 have w10:IntKind.i64.wrap ((oh:Int) * 256) = (oh:Int) * 256:=by rw [IntKind.wrap_i64];omega
 have hor2:bits .or .i64 (IntKind.i64.wrap ((oh:Int) * 256)) (ol:Int) = ob:=by rw [w10];exact hor
 have w9:IntKind.i64.wrap (8 + (al:Int)) = 8 + (al:Int):=by rw [IntKind.wrap_i64];omega
 clear hT0;refine hid10 ?_ hn hal hdl hlen hA hB hkW hdr hT hm0;clear hn hal hdl hlen hA hB hkW hdr hT hm0;intro hn hal hdl hlen hA hB hkW hdr hT hm0;go_enter Tryz.func95,Tryz.ntmps95;go_wp2_with fail
 go_region_held3 (fun w'=>w'.cell? ⟨b,off,none⟩ = some (.int .u8 k)∧w'.cell? ⟨b,off + 1,none⟩ = some (.int .u8 st)∧w'.cell? ⟨b,off + 2,none⟩ = some (.int .u8 bf)∧w'.cell? ⟨b,off + 3,none⟩ = some (.int .u8 pr)∧w'.cell? ⟨b,off + 4,none⟩ = some (.int .u8 pk)∧w'.cell? ⟨b,off + 5,none⟩ = some (.int .u8 oh)∧w'.cell? ⟨b,off + 6,none⟩ = some (.int .u8 ol)) (simp [*,World.cell?_alloc_some,World.cell?_setCell_far,World.cell?_setCell_other])
  (first
   | (go_at_call 99;(with_reducible refine (hA.out _ hdr.out).mono ?_);rintro x u4 ⟨a4,c4,rfl,ds4,hm4'⟩;have hm4:=hdr.out.trans hm4';obtain ⟨x0,x1,x2,x3,x4,x5,x6,x7⟩:=hkW.out u4 hm4;replace hm4:=Lib.hid hm4;replace hm4':=Lib.hid hm4';replace ds4:=Lib.hid ds4)
   | (go_at_call 99;(with_reducible refine (hB.out _ hm4.out).mono ?_);rintro x u5 ⟨a5,c5,rfl,ds5,hm5'⟩;have hm5:=hm4.out.trans hm5';obtain ⟨z0,z1,z2,z3,z4,z5,z6,z7⟩:=hkW.out u5 hm5;have bT:=hT.out u5 (hm4'.out.trans hm5');have ds6:=ds4.out.fresh hm5';have yl:=bT.lt;have y0:=bT.cell 0;have y1:=bT.cell 1;have y2:=bT.cell 2;have y3:=bT.cell 3;have y4:=bT.cell 4;have y5:=bT.cell 5;have y6:=bT.cell 6;have y7:=bT.cell 7;have yf0:=bT.frozen 0;have yf1:=bT.frozen 1;have yf2:=bT.frozen 2;have yf3:=bT.frozen 3;have yf4:=bT.frozen 4;have yf5:=bT.frozen 5;have yf6:=bT.frozen 6;have yf7:=bT.frozen 7;simp only [gz0,gs0] at y0 y1 y2 y3 y4 y5 y6 y7;replace hm5:=Lib.hid hm5;replace hm5':=Lib.hid hm5';replace ds5:=Lib.hid ds5;replace ds6:=Lib.hid ds6;replace bT:=Lib.hid bT)
   | fail)
 have hb8:=blk8 bT.out (.slice a4 al c4) (.int .i64 k) (.int .i64 st) (.int .i64 bf) (.int .i64 pr) (.slice a5 dl c5) (.int .i64 pk) (.int .i64 ob);unfold put8 at hb8;generalize (((((((u5.setCell ⟨w.heap.size,0,none⟩ (.slice a4 al c4)).setCell ⟨w.heap.size,1,none⟩ (.int .i64 k)).setCell ⟨w.heap.size,2,none⟩ (.int .i64 st)).setCell ⟨w.heap.size,3,none⟩ (.int .i64 bf)).setCell ⟨w.heap.size,4,none⟩ (.int .i64 pr)).setCell ⟨w.heap.size,5,none⟩ (.slice a5 dl c5)).setCell ⟨w.heap.size,6,none⟩ (.int .i64 pk)).setCell ⟨w.heap.size,7,none⟩ (.int .i64 ob) = U at *;have hs1:=shun1 (U:=5) bT.out (by decide);have hfin:=DSl.mod ds6.out hb8.2 hs1
 have hfin2:=DSl.mod ds5.out hb8.2 hs1;have hmf:=hm5.out.own hb8.2 (Nat.le_refl _);have hbl:=hb8.1;clear hb8 hs1;refine hid4 ?_ hfin hfin2 hmf hbl;clear hfin hfin2 hmf hbl;intro hfin hfin2 hmf hbl;go_wp2;refine bodyPost_ret (XP rfl _ _ w.heap.size _ _ _ _ _ _ _ _ rfl hbl.out) rfl ?_;exact ⟨_,_,rfl,hfin.out,hfin2.out,hmf.out⟩
end Go.Proofs.YthmahbfmfpjjcaaGreat
/-
 The registry: the first entry with a property.
-/
namespace Go.Proofs.YthmahbfmfpjjcaaGreat
open Go.RowKit
open Jn Rg
attribute [local go_sem] Oper.semAt_some
namespace Rg
def FoundAt (l:List REn) (pd:REn→Bool) (r:Int):Prop:=(r = -1∧l.find? pd = none) ∨ ∃ (k:Nat) (e:REn),r = (k:Int)∧l[k]? = some e∧l.find? pd = some e
theorem Zig {l:List REn} {pd:REn→Bool} {k:Nat} {e:REn} (h1:∀ x ∈ l.take k,pd x = false) (h2:l[k]? = some e) (h3:pd e = true):l.find? pd = some e:=by
 have hk:=(List.getElem?_eq_some_iff.1 h2).1
 have he:l.drop k = e :: l.drop (k + 1):=by
  rw [List.drop_eq_getElem_cons hk]
  congr 1
  have:=(List.getElem?_eq_some_iff.1 h2).2;exact this
 have hn:(l.take k).find? pd = none:=List.find?_eq_none.2 fun x hx=>by rw [h1 x hx];decide
 rw [← List.take_append_drop k l,List.find?_append,hn,he,List.find?_cons,h3]
 rfl
theorem Zih {l:List REn} {pd:REn→Bool} (h1:∀ x ∈ l,pd x = false):l.find? pd = none:=List.find?_eq_none.2 fun x hx=>by rw [h1 x hx];decide
end Rg
theorem Zii {w:World} {v:Value} {xs:List Ex} (h:ESl w v xs) (hl:xs.length≤1099511627776) (g:FuncId) (cap:Array Value) (hent:∀ args w,(callFunc g args).run Tryz.prog w = .ok (.enter g args) w) (pd:REn→Bool)
  (hcall:∀ x ∈ xs,∀ wr,Mod Nowhere w wr→Calls Tryz.prog g (#[.agg (exCells x).toArray] ++ cap) wr fun e w'=>e = .returned (.bool (pd x.2))∧Mod Nowhere wr w') :
  Calls Tryz.prog 91 #[v,.func (.func g) #[] cap] w fun e w'=>∃ r:Int,e = .returned (.int .i64 r)∧FoundAt (exps xs) pd r∧Mod Nowhere w w':=by
 obtain ⟨a,vc,rfl,h1,h2,_⟩:=h.sl.gen;refine hid2 ?_ h hcall;clear h hcall;intro h hcall;go_enter Tryz.func91,Tryz.ntmps91;go_wp2
 go_loopw [8] (fun i wr=>∃ k:Nat,k≤xs.length∧i = .int .i64 k∧(∀ x ∈ (exps xs).take k,pd x = false)∧Mod Nowhere w wr) (fun i _=>xs.length - (intOf i).toNat)
 case atStart=>exact ⟨0,by omega,rfl,fun x hx=>by simp at hx,Mod.refl _ _⟩
 case round =>
  obtain ⟨k,hk,rfl,hno,hm⟩:=hrel;by_cases hlt:k < xs.length
  ·obtain ⟨b,off,cap',a1,c1,a2,c2,e0,hb,_,_,hc,e1,e2⟩:=(h.out.fresh hm).at_ hlt;obtain ⟨q0,q1,q2,q3,q4,q5,q6,q7⟩:=eight hc;have hC:=hcall.out xs[k] (List.getElem_mem hlt) wr hm;have hge:(exps xs)[k]? = some xs[k].2:=by unfold exps;rw [List.getElem?_map,List.getElem?_eq_getElem hlt];rfl
   have htk:∀ x ∈ (exps xs).take (k + 1),x ∈ (exps xs).take k ∨ x = xs[k].2:=fun x hx=>by
    have hk':k < (exps xs).length:=by rw [Zs];exact hlt
    rw [List.take_succ_eq_append_getElem hk',List.mem_append,List.mem_singleton] at hx;rcases hx with hx | hx
    ·exact .inl hx
    ·exact .inr (by rw [hx];simp [exps])
   obtain ⟨rfl,rfl⟩:a = some ⟨b,off,none⟩∧vc = cap':=by
    simp at e0;exact ⟨e0.1,e0.2⟩
   obtain ⟨x,hx⟩:∃ x,xs[k] = x:=⟨_,rfl⟩;rw [hx] at q0 q1 q2 q3 q4 q5 q6 q7 hC hge htk e1 e2;rw [e1] at q0;rw [e2] at q5;have hfx:=Zfh e1 e2;rw [show exsCells [x] = exCells x by simp [exsCells]] at hfx;rw [hfx] at hC;clear hc hfx e1 e2;replace hx:=Lib.hid hx
   cases hp:pd x.2
   ·rw [hp] at hC
    have hno':∀ y ∈ (exps xs).take (k + 1),pd y = false:=fun y hy=>by
     rcases htk y hy with q | q
     ·exact hno y q
     ·rw [q];exact hp
    clear htk hge hno;replace hp:=Lib.hid hp;generalize x.2.aid.length = n1 at *;generalize x.2.dom.length = n2 at *;generalize x.2.kind = f1 at *;generalize x.2.st = f2 at *;generalize x.2.bf = f3 at *;generalize x.2.pr = f4 at *;generalize x.2.pk = f5 at *;generalize x.2.ob = f6 at *;refine hid3 ?_ hC hm hno';clear hC hm hno';intro hC hm hno';go_wp2_with fail;refine (hC.out).mono ?_;rintro e w1 ⟨rfl,hm1⟩;go_wp2;go_roundw
    case rel=>exact ⟨k + 1,by omega,by go_num,hno'.out,hm.out.trans hm1⟩
    case measure=>simp [intOf];omega
   ·rw [hp] at hC;have hfin:FoundAt (exps xs) pd (k:Int):=.inr ⟨k,x.2,rfl,hge,Zig hno hge hp⟩;clear htk hge hno;replace hp:=Lib.hid hp;generalize x.2.aid.length = n1 at *;generalize x.2.dom.length = n2 at *;generalize x.2.kind = f1 at *;generalize x.2.st = f2 at *;generalize x.2.bf = f3 at *;generalize x.2.pr = f4 at *;generalize x.2.pk = f5 at *;generalize x.2.ob = f6 at *;refine hid3 ?_ hC hm hfin;clear hC hm hfin;intro hC hm hfin;go_wp2_with fail;refine (hC.out).mono ?_;rintro e w1 ⟨rfl,hm1⟩;go_wp2;go_ret;exact ⟨_,rfl,hfin.out,hm.out.trans hm1⟩
  ·obtain rfl:k = xs.length:=by omega
   have hfin:FoundAt (exps xs) pd (-1):=.inl ⟨rfl,Zih (by rw [← Zs,List.take_length] at hno;exact hno)⟩;clear hno;refine hid2 ?_ hm hfin;clear hm hfin;intro hm hfin;go_wp2;go_ret;exact ⟨_,rfl,hfin.out,hm.out⟩
end Go.Proofs.YthmahbfmfpjjcaaGreat
/-
 The registry: a row of entries in the worlds of a sort.
-/
namespace Go.Proofs.YthmahbfmfpjjcaaGreat
open Go.RowKit Go.Sort
open Jn Rg
attribute [local go_sem] Oper.semAt_some
theorem Y4 {enc:Nat→List Value} {k:Nat} {w:World} {blk off n:Nat} {d:Array Nat} {os:Array Obj}:Mod (fun j=>j = blk) w (sortWorldK enc k w blk off n d os):=by
 refine ⟨rfl,rfl,rfl,?_,fun i hi hn=>?_⟩
 ·show w.heap.size≤(grow (putRow id (Sort.ahead w n) blk off (flatK enc k d)) os).heap.size
  simp only [grow,Array.size_append,size_putRow]
  show w.heap.size≤w.heap.size + _
  omega
 ·show (grow (putRow id (Sort.ahead w n) blk off (flatK enc k d)) os).heap[i]? = _
  rw [heap_grow_old _ _ (by simpa using hi)];have:blk ≠ i:=fun e=>hn e.symm;simp [putRow,mapBlock,Sort.ahead,Array.getElem?_modify,this]
theorem Zij {enc:Nat→List Value} {k:Nat} {w:World} {g n:Nat} {d:Array Nat} {os:Array Obj} {cur:Array Value} {e:TypeId} {fr:Nat × Nat} (hb:w.heap[g]? = some (.cells cur e fr)) :
  (sortWorldK enc k w g 0 n d os).heap[g]? = some (.cells (putCells id 0 (flatK enc k d) cur) e fr):=by
 have hg:g < w.heap.size:=(Array.getElem?_eq_some_iff.1 hb).1
 show (grow (putRow id (Sort.ahead w n) g 0 (flatK enc k d)) os).heap[g]? = _
 rw [heap_grow_old _ _ (by simpa using hg)];simp [putRow,mapBlock,Sort.ahead,Array.getElem?_modify,hb,onCells]
theorem Zik (cur F:Array Value) (h:F.size≤cur.size):(putCells id 0 F cur).toList.take F.size = F.toList:=by
 apply List.ext_getElem?
 intro j;by_cases hj:j < F.size
 ·rw [List.getElem?_take_of_lt hj,Array.getElem?_toList,Array.getElem?_toList];have hc:j < cur.size:=by omega
  simp [putCells,hj,hc]
 ·rw [List.getElem?_take_eq_none (by omega),List.getElem?_eq_none (by simp;omega)]
theorem ZcJ {enc:Nat→List Value} (hk:∀ x,(enc x).length = 8):∀ (L:List Nat) (i:Nat),i < L.length * 8→(L.flatMap enc)[i]? = (enc (L.getD (i / 8) 0))[i % 8]?
 | [],i,h=>by simp at h
 | x :: L,i,h=>by
  rw [List.flatMap_cons];by_cases hi:i < 8
  ·rw [List.getElem?_append_left (by rw [hk];exact hi),show i / 8 = 0 by omega,show i % 8 = i by omega];rfl
  ·rw [List.getElem?_append_right (by rw [hk];omega),hk,ZcJ hk L (i - 8) (by simp at h;omega),show (i - 8) % 8 = i % 8 by omega,show i / 8 = (i - 8) / 8 + 1 by omega];rfl
theorem ZcK {enc:Nat→List Value} (hk:∀ x,(enc x).length = 8):∀ L:List Nat,(L.flatMap enc).length = L.length * 8
 | []=>rfl
 | x :: L=>by rw [List.flatMap_cons,List.length_append,hk,ZcK hk L,List.length_cons];omega
theorem flat8 {enc:Nat→List Value} (hk:∀ x,(enc x).length = 8) (d:Array Nat):(flatK enc 8 d).toList = d.toList.flatMap enc:=by
 apply List.ext_getElem?
 intro j;by_cases hj:j < d.size * 8
 ·rw [ZcJ hk _ _ (by simpa using hj),Array.getElem?_toList];have h1:(flatK enc 8 d)[j]? = some ((enc d[j / 8]!)[j % 8]!):=by simp [flatK,hj]
  have h2:d.toList.getD (j / 8) 0 = d[j / 8]!:=by
   have:j / 8 < d.size:=by omega
   rw [gd0,Array.getElem?_toList,getElem!_pos d _ this,Array.getElem?_eq_getElem this];rfl
  rw [h1,h2];have h3:j % 8 < (enc d[j / 8]!).length:=by rw [hk];omega
  rw [List.getElem?_eq_getElem h3,getElem!_pos (enc d[j / 8]!) (j % 8) h3]
 ·have e1:(flatK enc 8 d).toList[j]? = none:=List.getElem?_eq_none (by simpa using hj);have e2:(d.toList.flatMap enc)[j]? = none:=List.getElem?_eq_none (by rw [ZcK hk];simpa using hj);rw [e1,e2]
def zeroX:Ex:=((.slice none 0 0,.slice none 0 0),zeroR)
def encX (ys:List Ex) (i:Nat):List Value:=exCells (ys.getD i zeroX)
theorem Jk (ys:List Ex) (i:Nat):(encX ys i).length = 8:=rfl
theorem ZcL (ys:List Ex) (l:List Nat):l.flatMap (encX ys) = exsCells (l.map fun i=>ys.getD i zeroX):=by
 unfold exsCells;rw [List.flatMap_map]
 rfl
theorem ZcM (ys:List Ex):((List.range ys.length).map fun i=>ys.getD i zeroX) = ys:=by
 apply List.ext_getElem?
 intro j;by_cases hj:j < ys.length
 ·rw [List.getElem?_map,List.getElem?_range hj,List.getElem?_eq_getElem hj];simp [hj]
 ·rw [List.getElem?_eq_none (by simpa using hj),List.getElem?_eq_none (by simpa using hj)]
theorem EOwn.holds {w:World} {B g L vcap:Nat} {ys:List Ex} (h:EOwn w B (some ⟨g,0,none⟩) L vcap ys):HoldsK (encX ys) 8 w g 0 (List.range L).toArray∧g < w.heap.size∧B≤g∧L≤vcap∧vcap≤maxLen∧∃ cur,w.heap[g]? = some (.cells cur 24 (0,0))∧cur.size = vcap * 8:=by
 obtain ⟨hl,ho,-⟩:=h;rcases ho.2 with ⟨e,-⟩ | ⟨g',cap,cur,e,hB,hb,h1,h2,h3,h4⟩
 ·cases e
 ·simp at e;obtain ⟨rfl,rfl⟩:=e;refine ⟨?_,(Array.getElem?_eq_some_iff.1 hb).1,hB,h1,h2,cur,hb,h3⟩
  have hf:(flatK (encX ys) 8 (List.range L).toArray).toList = exsCells ys:=by
   rw [flat8 (Jk ys),ZcL,hl,ZcM]
  intro j hj;have hj':j < L * 8:=by simpa using hj
  refine ⟨?_,by simp [World.frozen?,hb]⟩;have h5:(cur.toList.take (L * 8))[j]? = (exsCells ys)[j]?:=by rw [h4]
  rw [List.getElem?_take_of_lt hj',← hf] at h5;simp only [World.cell?,hb,Nat.zero_add,Option.isSome_none,Bool.false_eq_true,if_false];rw [← Array.getElem?_toList,h5,Array.getElem?_toList,Array.getElem?_eq_getElem hj,getElem!_pos (flatK (encX ys) 8 (List.range L).toArray) j hj]
  rfl
theorem EOwn.sorted {w:World} {B g L vcap n:Nat} {ys:List Ex} {d':Array Nat} {os:Array Obj} (h:EOwn w B (some ⟨g,0,none⟩) L vcap ys) (hp:d'.toList.Perm (List.range L)) :
  EOwn (sortWorldK (encX ys) 8 w g 0 n d' os) B (some ⟨g,0,none⟩) L vcap (d'.toList.map fun i=>ys.getD i zeroX)∧(d'.toList.map fun i=>ys.getD i zeroX).Perm ys:=by
 obtain ⟨-,hg,hB,h1,h2,cur,hb,h3⟩:=h.holds;have hz:d'.size = L:=by have:=hp.length_eq;simpa using this
 have hpm:(d'.toList.map fun i=>ys.getD i zeroX).Perm ys:=by
  have:=hp.map fun i=>ys.getD i zeroX;rw [h.len,ZcM] at this;exact this
 have hf:(flatK (encX ys) 8 d').toList = exsCells (d'.toList.map fun i=>ys.getD i zeroX):=by rw [flat8 (Jk ys),ZcL]
 have hfs:(flatK (encX ys) 8 d').size = L * 8:=by simp [hz]
 have hsh:Shun (fun j=>j = g) w 5:=shun1 (B:=g) (T:=24) (cs:=cur.toList) (by unfold Blk;simpa using hb) (by decide);refine ⟨⟨by simp [hz],⟨?_,.inr ⟨g,vcap,_,rfl,hB,Zij hb,h1,h2,by simp [putCells,h3],?_⟩⟩,fun y hy=>(h.data y (hpm.mem_iff.1 hy)).mod Y4 hsh⟩,hpm⟩
 ·rw [← hf];simp [hz]
 ·rw [← hf,← hfs];exact Zik _ _ (by rw [hfs,h3];exact Nat.mul_le_mul_right _ h1)
theorem Zil {w:World} {x y:Ex} (hx:ExS w x) (hy:ExS w y):Calls Tryz.prog 68 #[.agg (exCells x).toArray,.agg (exCells y).toArray] w fun e w'=>e = .returned (.int .i64 (cmpB x.2.aid y.2.aid))∧∃ q os',w' = grow (w.drewN q) os':=by
 have hC:=fun W (hm:Mod Nowhere w W)=>Zbe (hx.sa.fresh hm) (hy.sa.fresh hm) hx.ba hy.ba;have hm2:∀ a b:List Value,Mod Nowhere w ((w.alloc (.cells a.toArray 24)).alloc (.cells b.toArray 24)):=fun a b=>((Mod.refl _ w).alloc _).alloc _;obtain ⟨a1,c1,e1,-⟩:=hx.sa;obtain ⟨a2,c2,e2,-⟩:=hx.sd;obtain ⟨a3,c3,e3,-⟩:=hy.sa;obtain ⟨a4,c4,e4,-⟩:=hy.sd;clear hx hy;obtain ⟨⟨u1,v1⟩,⟨k1,s1,f1,p1,n1,o1,i1,d1⟩⟩:=x;obtain ⟨⟨u2,v2⟩,⟨k2,s2,f2,p2,n2,o2,i2,d2⟩⟩:=y;unfold exCells;dsimp only at *;subst e1 e2 e3 e4;generalize cmpB i1 i2 = r at *;generalize i1.length = L1 at *
 generalize d1.length = L2 at *;generalize i2.length = L3 at *;generalize d2.length = L4 at *;refine hid2 ?_ hC hm2;clear hC hm2;intro hC hm2;go_enter Tryz.func68,Tryz.ntmps68;go_wp2_with fail;refine (hC.out _ (hm2.out _ _)).mono ?_;rintro e w1 ⟨rfl,rfl⟩;go_wp2;go_ret;exact ⟨rfl,0,_,by rw [alloc_eq_grow,alloc_eq_grow,grow_grow];rfl⟩
end Go.Proofs.YthmahbfmfpjjcaaGreat
/-
 The registry: the sort of entries by their identifiers.
-/
namespace Go.Proofs.YthmahbfmfpjjcaaGreat
open Go.RowKit Go.Sort Go.Shelf
open Jn Rg
theorem Zim {w:World} {ys:List Ex} (h:∀ y ∈ ys,ExD w y) (i:Nat):∀ v ∈ encX ys i,v.oneCell' = true:=by
 have hx:ExD w (ys.getD i zeroX):=by
  by_cases hi:i < ys.length
  ·rw [gd0,List.getElem?_eq_getElem hi];exact h _ (List.getElem_mem hi)
  ·rw [gd0,List.getElem?_eq_none (by omega)];exact ⟨Sl.nil _ _ _,Sl.nil _ _ _⟩
 intro u hu;unfold encX exCells at hu;obtain ⟨a1,c1,e1,-⟩:=Sl.len hx.da;obtain ⟨a2,c2,e2,-⟩:=Sl.len hx.dd;rw [e1,e2] at hu;simp only [List.mem_cons,List.not_mem_nil,or_false] at hu;rcases hu with rfl | rfl | rfl | rfl | rfl | rfl | rfl | rfl <;> rfl
theorem bytes_nil:Bytes []:=fun k=>by simp
theorem Zin {w:World} {B:Nat} {va:Option Addr} {L vcap:Nat} {ys:List Ex} (ho:EOwn w B va L vcap ys) (hb:∀ y ∈ ys,Bytes y.2.aid∧Bytes y.2.dom) (hl:L≤1000) :
  Calls Tryz.prog 104 #[.slice va L vcap,.func (.func 68) #[] #[]] w fun e w'=>e = .returned (.tuple #[])∧∃ zs,zs.Perm ys∧zs.Pairwise (fun a b=>ltB b.2.aid a.2.aid = false)∧EOwn w' B va L vcap zs∧Mod (Above B) w w':=by
 by_cases h0:L = 0
 ·have hy:ys = []:=List.eq_nil_of_length_eq_zero (by rw [← ho.len];exact h0);subst h0;subst hy;exact (AnyF.slices_SortFunc_none Tryz.laysSE va vcap (.func (.func 68) #[] #[]) w).mono fun e w' ⟨he,hw⟩=>⟨he,[],.nil,.nil,by rw [hw];exact ho,by rw [hw];exact Mod.refl _ _⟩
 ·have hva:∃ g,va = some ⟨g,0,none⟩:=by
   rcases ho.own.2 with ⟨e,h1⟩ | ⟨g,cap,cur,e,-⟩
   ·exact absurd h1 h0
   ·simp at e;exact ⟨g,e.1⟩
  obtain ⟨g,rfl⟩:=hva;obtain ⟨hH,hg,hB,h1,h2,cur,hcur,h3⟩:=ho.holds;have hsh:Shun (fun j=>j = g) w 5:=shun1 (B:=g) (T:=24) (cs:=cur.toList) (by unfold Blk;simpa using hcur) (by decide)
  have hxs:∀ i W,Mod (fun j=>j = g) w W→ExS W (ys.getD i zeroX):=fun i W hm=>by
   by_cases hi:i < ys.length
   ·rw [gd0,List.getElem?_eq_getElem hi];have hm':=List.getElem_mem hi;exact ((ho.data _ hm').mod hm hsh).s (hb _ hm').1 (hb _ hm').2
   ·rw [gd0,List.getElem?_eq_none (by omega)];exact ExD.s (x:=zeroX) ⟨Sl.nil _ _ _,Sl.nil _ _ _⟩ bytes_nil bytes_nil
  have hcmp:CmpLays Tryz.prog 68 #[] (encX ys) 8 (fun i j=>cmpB (ys.getD i zeroX).2.aid (ys.getD j zeroX).2.aid) g 0 (List.range L).toArray.size w :=
   fun m os dk hs x y=>Zil (hxs x _ Y4) (hxs y _ Y4)
  have hsz:(List.range L).toArray.size = L:=by simp
  have hS:=AnyQ.slices_SortFunc Tryz.laysSE 8 Tryz.isAgg24 Tryz.sizeOf24 (encX ys) (Jk ys) (Zim ho.data) (fun i j=>cmpB (ys.getD i zeroX).2.aid (ys.getD j zeroX).2.aid) (ZgW fun i=>(ys.getD i zeroX).2.aid) 68 #[] g 0 vcap (List.range L).toArray w
   (enters_of Tryz.func68 (by kernel_rfl) rfl) hcmp hH hg (by rw [hsz];omega)
  rw [hsz] at hS;refine hS.mono ?_;rintro e w' ⟨rfl,d',n,os,hp,hs,rfl⟩
  have hp2:d'.toList.Perm (List.range L):=by
   have:=ZgX (d:=(List.range L).toArray) (by rw [hsz];exact hp);simpa using this
  obtain ⟨ho',hpm⟩:=ho.sorted (n:=n) (os:=os) hp2;have hz:d'.size = L:=by have:=hp2.length_eq;simpa using this
  refine ⟨rfl,_,hpm,?_,ho',Y4.mono fun i hi e=>by show B≤i;rw [e];exact hB⟩;have h4:=ZgY (lt:=ltOf fun i j=>cmpB (ys.getD i zeroX).2.aid (ys.getD j zeroX).2.aid) (d:=(List.range L).toArray) (d':=d') (by rw [hz,hsz]) (by rw [hsz];exact hs);rw [List.pairwise_map];exact h4.imp fun {a b} h=>h
end Go.Proofs.YthmahbfmfpjjcaaGreat
