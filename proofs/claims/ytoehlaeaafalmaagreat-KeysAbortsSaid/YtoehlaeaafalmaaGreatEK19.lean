/-
  Keys in plain numbers: a transaction in which keys are put in, and a key is spent.
-/
import Derived.Test.YtoehlaeaafalmaaGreatEK18
set_option linter.unusedVariables false
set_option linter.unusedSimpArgs false
set_option maxHeartbeats 16000000
set_option maxRecDepth 100000
namespace Go.Proofs.YtoehlaeaafalmaaGreat
open Go.RowKit
open Jn Vn Rg Ky
namespace Ky
theorem ZhZ {l:List KEn} (h:KL l) {e:KEn} (he:KOk e) (st kd:Int):kfind (rWith l e) st kd = if isK st kd e = true then some e else kfind l st kd:=by
 have hK:=Zfm h he;obtain ⟨-,hm⟩:=YX h he;by_cases q:isK st kd e = true
 ·rw [if_pos q];obtain ⟨rfl,rfl⟩:=Zp.1 q;exact hK.find ((hm e).2 (.inl rfl))
 rw [if_neg q]
 cases hf:kfind l st kd with
 | some x =>
  obtain ⟨h1,rfl,rfl⟩:=Zh hf;refine hK.find ((hm x).2 (.inr ⟨h1,fun hp=>q ?_⟩));obtain ⟨a,b⟩:=YU (h.ok x h1) he hp;exact Zp.2 ⟨by rw [a],by rw [b]⟩
 | none =>
  cases hg:kfind (rWith l e) st kd with
  | none=>rfl
  | some x =>
   obtain ⟨h1,rfl,rfl⟩:=Zh hg;rcases (hm x).1 h1 with rfl | ⟨h2,-⟩
   ·exact absurd (Zp.2 ⟨rfl,rfl⟩) q
   ·rw [h.find h2] at hf
    cases hf
structure TInv (F:Items) (st kd:Int) (ch:Bool) (s:VSt):Prop where
 f:s.f = F
 a:s.act = true
 ks:KySt s
 no:ch = false→kfind (kl (view s)) st kd = kfind (kl F) st kd∧∀ e,isK st kd e = true→KOk e→(s.l.any fun r=>decide (r.1 = 64 + pl e)) = false
 yes:ch = true→∃ e,kfind (kl (view s)) st kd = some e∧e.tries ≠ 0∧(s.l.any fun r=>decide (r.1 = 64 + pl e)) = true
theorem TInv.begin {s:VSt} (h:KySt s) (st kd:Int):TInv s.f st kd false ⟨s.f,true,[]⟩ :=
 ⟨rfl,rfl,⟨h.f,h.f,⟨h.x.f,fun r hr=>by simp at hr,fun _=>rfl⟩⟩,fun _=>⟨rfl,fun _ _ _=>rfl⟩,fun e=>by cases e⟩
def hitP (st kd:Int) (s:VSt) (x:RK):Bool:=decide ((kPut s x).2 = 0) && (decide (x.set = st) && decide (x.kind = kd))
theorem TInv.put {F:Items} {st kd:Int} {ch:Bool} {s:VSt} (h:TInv F st kd ch s) {x:RK} (bv:Bytes x.val):TInv F st kd (ch || hitP st kd s x) (kPut s x).1∧(kPut s x).1.l.length≤s.l.length + 1:=by
 obtain ⟨h1,h2,h3,h4,h5⟩:=h;unfold hitP;unfold kPut;by_cases hx:x.ok = true
 ·rw [if_pos hx];obtain ⟨ho,e1,e2,e3⟩:=RK.okk hx bv;obtain ⟨g1,g2⟩:=h3.app ho;have hK:=kl_KL h3.v;have hk:isK st kd x.en = (decide (x.set = st) && decide (x.kind = kd)):=by unfold isK;rw [e1,e2]
  have hv:∀ a b,kfind (kl (view (xApp s (64 + pl x.en,some (kB x.en))))) a b = if isK a b x.en = true then some x.en else kfind (kl (view s)) a b:=fun a b=>by
   rw [g2,Z1 h3.v ho,ZhZ hK ho]
  have hap:xApp s (64 + pl x.en,some (kB x.en)) = { s with l:=s.l ++ [(64 + pl x.en,some (kB x.en))] }:=by unfold xApp;rw [if_pos h2]
  have hany:∀ e,((xApp s (64 + pl x.en,some (kB x.en))).l.any fun r=>decide (r.1 = 64 + pl e)) = ((s.l.any fun r=>decide (r.1 = 64 + pl e)) || decide (pl x.en = pl e)):=fun e=>by
   rw [hap];simp only [List.any_append,List.any_cons,List.any_nil,Bool.or_false,Nat.add_left_cancel_iff]
  rw [← hk];refine ⟨⟨by rw [hap];exact h1,by rw [hap];exact h2,g1,fun hc=>?_,fun hc=>?_⟩,by rw [hap];simp⟩
  ·simp only [decide_true,Bool.true_and,Bool.or_eq_false_iff] at hc;obtain ⟨c1,c2⟩:=hc;obtain ⟨d1,d2⟩:=h4 c1;refine ⟨by rw [hv,if_neg (by rw [c2];decide),d1],fun e he hoe=>?_⟩;rw [hany,d2 e he hoe,Bool.false_or,decide_eq_false_iff_not];intro hp;obtain ⟨a,b⟩:=YU ho hoe hp;rw [Zp.2 ⟨by rw [a];exact (Zp.1 he).1,by rw [b];exact (Zp.1 he).2⟩] at c2
   cases c2
  ·by_cases c2:isK st kd x.en = true
   ·refine ⟨x.en,by rw [hv,if_pos c2],?_,by rw [hany,decide_eq_true rfl,Bool.or_true]⟩;have h6:=ho.l1
    show x.lim.toNat ≠ 0
    have h7:x.en.lim = x.lim.toNat:=rfl;omega
   ·have c1:ch = true:=by
     rw [Bool.eq_false_iff.2 c2] at hc;simpa using hc
    obtain ⟨e,d1,d2,d3⟩:=h5 c1;exact ⟨e,by rw [hv,if_neg c2,d1],d2,by rw [hany,d3,Bool.true_or]⟩
 ·rw [if_neg hx];have hc0:(ch || (decide ((s,(1:Nat)).2 = 0) && (decide (x.set = st) && decide (x.kind = kd)))) = ch:=by simp
  rw [hc0];exact ⟨⟨h1,h2,h3,h4,h5⟩,Nat.le_succ _⟩
theorem TInv.spent {F:Items} {st kd:Int} {s:VSt} (h:TInv F st kd true s):kSpend s st kd = (s,0,14):=by
 obtain ⟨e,d1,d2,d3⟩:=h.yes rfl;unfold kSpend;rw [d1];dsimp only;rw [if_neg d2]
 have:kNow s e.less = (s,14):=by
  unfold kNow;rw [if_pos (show (s.l.any fun r=>decide (r.1 = 64 + pl e.less)) = true from d3)]
 rw [this]
 rfl
theorem TInv.spend {F:Items} {st kd:Int} {s:VSt} (h:TInv F st kd false s):kl (kSpend s st kd).1.f = (rSpend (kl F) st kd).1∧(kSpend s st kd).2 = (rSpend (kl F) st kd).2∧(kSpend s st kd).1.act = true:=by
 obtain ⟨d1,d2⟩:=h.no rfl;unfold kSpend rSpend;rw [d1]
 cases hf:kfind (kl F) st kd with
 | none=>exact ⟨by rw [h.f],rfl,h.a⟩
 | some e =>
  dsimp only;by_cases ht:e.tries = 0
  ·rw [if_pos ht,if_pos ht];exact ⟨by rw [h.f],rfl,h.a⟩
  ·rw [if_neg ht,if_neg ht];have hF:KIt F:=by rw [← h.f];exact h.ks.f
   obtain ⟨m1,m2,m3⟩:=Zh hf;have he:=((Zv hF).1 m1).1
   have hn:kNow s e.less = ({ s with f:=set1 s.f (64 + pl e.less,some (kB e.less)) },0):=by
    unfold kNow;rw [if_neg (by rw [d2 e.less (Zp.2 ⟨m2,m3⟩) he.less];decide)]
   rw [hn];refine ⟨?_,rfl,h.a⟩
   show kl (set1 s.f (64 + pl e.less,some (kB e.less))) = _
   rw [h.f];exact Z1 hF he.less
end Ky
end Go.Proofs.YtoehlaeaafalmaaGreat
namespace Go.Proofs.YtoehlaeaafalmaaGreat
open Go.RowKit Go.ChangeShapes Go.WideShapes Go.ChangeAt
open Jn Vn Rg Ky
structure KeyIn (w:World) (b off:Nat) (o:KeyI):Prop where
 lt:b < w.heap.size
 cell:∀ j,j < 4→w.cell? ⟨b,off + j,none⟩ = o.cells[j]?
 at_:KeyAt w o
theorem KeyIn.fresh {w w':World} {b off:Nat} {o:KeyI} (h:KeyIn w b off o) (hm:Mod Nowhere w w'):KeyIn w' b off o :=
 ⟨Nat.lt_of_lt_of_le h.lt hm.size,fun j hj=>(hm.cell (p:=⟨b,off + j,none⟩) h.lt (fun e=>e)).trans (h.cell j hj),KeyAt.fresh h.at_ hm⟩
def InKeys (w:World) (v:Value) (l:List KeyI):Prop :=
 ∃ a cap,v = .slice a l.length cap∧l.length≤cap∧cap≤maxLen∧(0 < l.length→∃ b off,a = some ⟨b,off,none⟩∧∀ i (hi:i < l.length),KeyIn w b (off + i * 4) l[i])
theorem InKeys.fresh {w w':World} {v:Value} {l:List KeyI} (h:InKeys w v l) (hm:Mod Nowhere w w'):InKeys w' v l:=by
 obtain ⟨a,cap,e,h1,h2,h3⟩:=h
 exact ⟨a,cap,e,h1,h2,fun h0=>by
  obtain ⟨b,off,e,h4⟩:=h3 h0
  exact ⟨b,off,e,fun i hi=>(h4 i hi).fresh hm⟩⟩
theorem InKeys.at_ {w:World} {v:Value} {l:List KeyI} (h:InKeys w v l) {i:Nat} (hi:i < l.length):∃ b off cap,v = .slice (some ⟨b,off,none⟩) l.length cap∧l.length≤cap∧cap≤maxLen∧KeyIn w b (off + i * 4) l[i]:=by
 obtain ⟨a,cap,e,h1,h2,h3⟩:=h;obtain ⟨b,off,e2,h4⟩:=h3 (by omega);subst e2;exact ⟨b,off,cap,e,h1,h2,h4 i hi⟩
theorem InKeys.ce {w:World} {va:Option Addr} {vc:Nat} {l:List KeyI} (h:InKeys w (.slice va l.length vc) l) {k:Nat} (hk:k < l.length):∃ b off a1 c1,va = some ⟨b,off,none⟩∧l.length≤vc∧vc≤maxLen∧l[k].v = .slice a1 l[k].x.val.length c1∧KeyAt w l[k]∧∀ X,Mod Nowhere w X→X.cell? ⟨b,off + k * 4,none⟩ = some (.int .i64 l[k].x.set)∧X.cell? ⟨b,off + k * 4 + 1,none⟩ = some (.int .i64 l[k].x.kind)∧X.cell? ⟨b,off + k * 4 + 2,none⟩ = some (.slice a1 l[k].x.val.length c1)∧X.cell? ⟨b,off + k * 4 + 3,none⟩ = some (.int .i64 l[k].x.lim)∧b < X.heap.size:=by
 obtain ⟨b,off,cap',e0,g1,g2,hx⟩:=h.at_ hk
 obtain ⟨rfl,rfl⟩:va = some ⟨b,off,none⟩∧vc = cap':=by
  simp at e0;exact ⟨e0.1,e0.2⟩
 obtain ⟨a1,c1,e1,-⟩:=hx.at_.src
 have hce:l[k].cells = [.int .i64 l[k].x.set,.int .i64 l[k].x.kind,.slice a1 l[k].x.val.length c1,.int .i64 l[k].x.lim]:=by
  rw [← e1];rfl
 refine ⟨b,off,a1,c1,rfl,g1,g2,e1,hx.at_,fun X hm=>?_⟩;have hX:=hx.fresh hm;have hc:∀ j,j < 4→X.cell? ⟨b,off + k * 4 + j,none⟩ = l[k].cells[j]?:=hX.cell;rw [hce] at hc;exact ⟨hc 0 (by omega),hc 1 (by omega),hc 2 (by omega),hc 3 (by omega),hX.lt⟩
theorem Zh0 {H:Type} {enc:TypeId × Value→H} {W:World} {fuel:Nat} {a:Addr} {i:Nat} {y:DataW H × List MemPlace} (h:(W.cells? 0 (a.add (i * 4)) 4).bind (DataW.trod enc Tryz.prog W 0 (fun _=>true) true fuel 39) = some y) :
  (i = 0→a.spot = none)∧∃ x,KeyIn W a.block (a.off + i * 4) x:=by
 obtain ⟨cs,hcs,ht⟩:=Option.bind_eq_some_iff.1 h;obtain ⟨x,e,hx⟩:=ZcE ht
 have hcell:∀ j,j < 4→W.cell? ((a.add (i * 4)).add j) = cs[j]?:=fun j hj=>by
  unfold World.cells? at hcs;rw [if_pos (Nat.zero_le _)] at hcs;have:=mapM_some_get hcs j j (by simp [hj]);rw [← this]
 have k0:=hcell 0 (by omega);rw [e] at k0 hcell;have k0':W.cell? ((a.add (i * 4)).add 0) = some (.int .i64 x.x.set):=k0;obtain ⟨ha,hz'⟩:=Zcm (X8 k0');rw [ha] at hcell
 have hc:∀ j,j < 4→W.cell? ⟨a.block,a.off + i * 4 + j,none⟩ = x.cells[j]?:=fun j hj=>by
  rw [← hcell j hj,X7]
 have c0:W.cell? ⟨a.block,a.off + i * 4,none⟩ = some (.int .i64 x.x.set):=hc 0 (by omega);exact ⟨fun e=>hz' (by omega),x,⟨ZI c0,hc,hx⟩⟩
theorem Zh1 {H:Type} {enc:TypeId × Value→H} {W:World} {v:Value} {d:DataW H} {p:List MemPlace} (hv:Value.okWide Tryz.prog W .any 0 47 v) (h:DataW.Trod enc Tryz.prog W 0 (fun _=>true) true 47 v d p):∃ l,InKeys W v l:=by
 obtain ⟨a,len,cap,rfl⟩:=okWide_slice Tryz.underlying47 hv;obtain ⟨fuel,hf⟩:=h;rcases DataW.trod_slice Tryz.underlying47 hf with ⟨hcs,_⟩ | ⟨x,l,c,elems,rest,n,_,hcs,_,_,hl,hm,hlen,hel,_,_⟩
 ·simp [Value.cells] at hcs;obtain ⟨rfl,rfl,rfl⟩:=hcs;exact ⟨[],none,0,rfl,by simp,by decide,fun h=>by simp at h⟩
 ·simp [Value.cells] at hcs;obtain ⟨rfl,rfl,rfl⟩:=hcs;have e3:Tryz.prog.cellsOf 39 = 4:=by kernel_rfl
  rw [e3] at hel
  obtain ⟨ops,ho,hp⟩:=X6 (p:=fun i x'=>(i = 0→x.spot = none)∧KeyIn W x.block (x.off + i * 4) x') len fun i hi=>by
   have:=hel i hi;rw [List.getElem?_eq_getElem (by omega)] at this;obtain ⟨q1,y,q2⟩:=Zh0 this;exact ⟨y,q1,q2⟩
  refine ⟨ops,some x,cap,by rw [ho],by omega,hm,fun h0=>?_⟩;obtain ⟨b,off,spot⟩:=x;have hs:spot = none:=(hp 0 h0).1 rfl;subst hs;exact ⟨b,off,rfl,fun i hi=>(hp i hi).2⟩
end Go.Proofs.YtoehlaeaafalmaaGreat
namespace Go.Proofs.YtoehlaeaafalmaaGreat
open Go.RowKit
open Jn Vn Rg Ky
attribute [local go_sem] Oper.semAt_some
structure KT (W0 W:World) (A:VAt) (kb mb j:Nat) (F:Items) (st kd:Int) (ch:Bool):Prop where
 ex:∃ s,KyQ W A s kb mb (600000000 - j * 511392)∧TInv F st kd ch s∧s.l.length≤j
 nw:∀ i,A.S i→W0.heap.size≤i
 nk:W0.heap.size≤kb∧W0.heap.size≤mb
 md:Mod Nowhere W0 W
structure KE (W0 W:World) (A:VAt) (kb mb:Nat) (L:List KEn):Prop where
 ex:∃ s,KyQ W A s kb mb 0∧s.act = true∧kl s.f = L
 nw:∀ i,A.S i→W0.heap.size≤i
 nk:W0.heap.size≤kb∧W0.heap.size≤mb
 md:Mod Nowhere W0 W
section
variable {W0 W W' : World} {A : VAt} {kb mb j k : Nat} {F : Items} {st kd : Int} {ch : Bool} {L : List KEn}
theorem ksStep (hn:∀ i,A.S i→W0.heap.size≤i) (hk:W0.heap.size≤kb∧W0.heap.size≤mb) (hd:Mod Nowhere W0 W) (hm:Mod (KS A mb) W W'):Mod Nowhere W0 W':=hd.step hm fun i hi e=>by
 rcases e with rfl | e
 ·have:=hk.2;omega
 ·have:=hn i e;omega
theorem KE.fresh (h:KE W0 W A kb mb L) (hm:Mod Nowhere W W'):KE W0 W' A kb mb L:=by
 obtain ⟨⟨s,h1,h2⟩,h3,h4,h5⟩:=h;exact ⟨⟨s,h1.fresh hm,h2⟩,h3,h4,h5.trans hm⟩
theorem KyQ.keepS {s:VSt} {n N:Nat} {va:Option Addr} {vc:Nat} (h:KyQ W A s kb mb n) (hm:Mod (KS A mb) W W') (hs:SB W N va vc L):SB W' N va vc L:=⟨h.off hs.1 (by decide) (by decide) hm,hs.2.mod hm (h.shun (by decide) (by decide)) (h.shun (by decide) (by decide))⟩
theorem KT.keepS {N:Nat} {va:Option Addr} {vc:Nat} (h:KT W0 W A kb mb j F st kd ch) (hm:Mod (KS A mb) W W') (hs:SB W N va vc L):SB W' N va vc L:=by
 obtain ⟨⟨s,h1,h2⟩,-⟩:=h;exact h1.keepS hm hs
theorem KE.keepS {N:Nat} {va:Option Addr} {vc:Nat} {L':List KEn} (h:KE W0 W A kb mb L) (hm:Mod (KS A mb) W W') (hs:SB W N va vc L'):SB W' N va vc L':=by
 obtain ⟨⟨s,h1,h2⟩,-⟩:=h;exact h1.keepS hm hs
theorem KE.own (h:KE W0 W A kb mb L) {N:Nat} {cs:List Value} (hb:Blk W N cs 32) (hm:Mod (fun j=>j = N) W W') (hN:W0.heap.size≤N):KE W0 W' A kb mb L:=by
 obtain ⟨⟨s,⟨m,h1,h2⟩,h3⟩,h4,h5,h6⟩:=h;obtain ⟨n,f,hf⟩:=h1.ky.map;have hk:KyR W' kb mb A m s:=⟨Blk.mod h1.ky.at_ hm (fun e=>by have e:kb = N:=e;have hr:=h1.ky.at_;rw [e] at hr;exact absurd (Blk.inj hr hb).2 (by decide)),h1.ky.rep.keepB hm hb (by decide),h1.ky.x,⟨n,f,hf.mod hm (fun e=>by have e:mb = N:=e;rw [← e] at hb;exact Ze hf.map hb)⟩,h1.ky.len,h1.ky.it⟩;exact ⟨⟨s,⟨m,h1.only hk,h2⟩,h3⟩,h4,h5,h6.own22 hm hN⟩
theorem KT.skip (h:KT W0 W A kb mb j F st kd ch):KT W0 W A kb mb (j + 1) F st kd ch:=by
 obtain ⟨⟨s,h1,h2,h3⟩,h4,h5,h6⟩:=h;exact ⟨⟨s,h1.less (by omega),h2,Nat.le_succ_of_le h3⟩,h4,h5,h6⟩
theorem KC.begin (h:KC W0 W A kb mb k false L) (hk:k≤60) (st kd:Int):Calls Tryz.prog 16 #[ptr A.vb] W fun e w'=>e = .returned (errno 0)∧(∃ F,Ky.kl F = L∧KT W0 w' A kb mb 0 F st kd false)∧Mod (KS A mb) W w':=by
 obtain ⟨⟨m,s,h1,h2,h3,h4,h5⟩,h6,h7,h8,h9⟩:=h
 have hp:m.pending = false:=by
  cases q:m.pending with
  | false=>rfl
  | true=>cases h5 q
 have hq:KyQ W A s kb mb (600000000 - 0 * 511392):=⟨m,h1.less (by omega),hp⟩;refine (hq.begin h3).mono fun e w' ⟨a,b,c⟩=>?_;refine ⟨a,⟨s.f,by rw [← h4,ZT h2],⟨⟨s.f,true,[]⟩,b,TInv.begin h1.st st kd,Nat.le_refl _⟩,h6,h7,ksStep h6 h7 h8 c⟩,c⟩
theorem KT.put (h:KT W0 W A kb mb j F st kd ch) (hj:j < 40) {x:RK} {v:Value} (hv:Src W v x.val) (bv:Bytes x.val) :
  Calls Tryz.prog 17 #[ptr kb,.agg #[.int .i64 x.set,.int .i64 x.kind,v,.int .i64 x.lim]] W fun e w'=>∃ er:Nat,e = .returned (errno (er:Nat))∧KT W0 w' A kb mb (j + 1) F st kd (ch || (decide (er = 0) && (decide (x.set = st) && decide (x.kind = kd))))∧Mod (KS A mb) W w':=by
 obtain ⟨⟨s,h1,h2,h3⟩,h4,h5,h6⟩:=h;have hn:600000000 - j * 511392 = (600000000 - (j + 1) * 511392) + 511392:=by omega
 rw [hn] at h1;refine (h1.put (by omega) hv bv).mono fun e w' ⟨a,b,c⟩=>?_;obtain ⟨g1,g2⟩:=h2.put bv;exact ⟨_,a,⟨⟨_,b,g1,by omega⟩,h4,h5,ksStep h4 h5 h6 c⟩,c⟩
theorem KT.spend (h:KT W0 W A kb mb j F st kd ch) (hj:j≤40) (hst:I64 st) (hkd:I64 kd) :
  Calls Tryz.prog 18 #[ptr kb,.int .i64 st,.int .i64 kd] W fun e w'=>∃ n' er':Nat,e = .returned (.tuple #[.int .i64 (n':Nat),errno (er':Nat)]) ∧
   ((ch = true∧er' = 14∧KE W0 w' A kb mb (kl F)) ∨ (ch = false∧n' = (rSpend (kl F) st kd).2.1∧er' = (rSpend (kl F) st kd).2.2∧KE W0 w' A kb mb (rSpend (kl F) st kd).1))∧Mod (KS A mb) W w':=by
 obtain ⟨⟨s,h1,h2,h3⟩,h4,h5,h6⟩:=h;have hn:0 + 511392≤600000000 - j * 511392:=by omega
 refine ((h1.less hn).spend (by omega) st kd hst hkd).mono fun e w' ⟨a,b,c⟩=>?_;refine ⟨_,_,a,?_,c⟩
 cases ch with
 | true =>
  have h7:=h2.spent;rw [h7] at b ⊢;exact .inl ⟨rfl,rfl,⟨s,b,h2.a,by rw [h2.f]⟩,h4,h5,ksStep h4 h5 h6 c⟩
 | false =>
  obtain ⟨g1,g2,g3⟩:=h2.spend;exact .inr ⟨rfl,by rw [g2],by rw [g2],⟨_,b,g3,g1⟩,h4,h5,ksStep h4 h5 h6 c⟩
theorem KE.kl (h:KE W0 W A kb mb L):KL L∧L.length≤1000:=by
 obtain ⟨⟨s,h1,-,rfl⟩,-⟩:=h;exact ⟨kl_KL h1.st.f,Nat.le_trans (ZcG _) (by decide)⟩
theorem KE.abort (h:KE W0 W A kb mb L):Calls Tryz.prog 20 #[ptr A.vb] W fun e w'=>e = .returned (errno 0)∧Shown22 W0 w' kb mb L∧Mod (KS A mb) W w':=by
 obtain ⟨⟨s,h1,h2,h3⟩,h4,h5,h6⟩:=h;refine (h1.abort h2).mono fun e w' ⟨a,b,c⟩=>?_;obtain ⟨m,b1,-⟩:=b;exact ⟨a,⟨⟨A,m,_,b1.ky,h3⟩,h5.2,ksStep h4 h5 h6 c⟩,c⟩
end
theorem Zh2 {w:World} {l:List OpK} {va:Option Addr} {vc:Nat} {wa:Option Addr} {wn wc:Nat} (st kd:Int) (i0:InKOps w (.slice va l.length vc) l) (hq:lightB l = false ∨ 40 < wn) :
  Calls Tryz.prog 4 #[.slice va l.length vc,.slice wa wn wc,.int .i64 st,.int .i64 kd] w fun e w'=>e = .returned (.bool true)∧Mod Nowhere w w':=by
 have hL:=ZcF i0;have hE:=fun W=>Zcu W;clear i0
 cases hlb:lightB l with
 | false =>
  rw [hlb] at hL;clear hq;refine hid2 ?_ hL hE;clear hL hE;intro hL hE;go_enter Tryz.func4,Tryz.ntmps4;go_wp2_with fail;refine (hL.out).mono ?_;rintro e w1 ⟨rfl,hm1⟩;replace hm1:=Lib.hid hm1;go_wp2_with fail;refine (hE.out w1).mono ?_;rintro e w2 ⟨rfl,hm2⟩;have hf:=hm1.out.trans hm2;refine hid2 ?_ hf hm2;clear hf hm2;intro hf hm2;go_wp2;go_ret;exact ⟨rfl,hf.out⟩
 | true =>
  rw [hlb] at hL hq
  have hc:(wn:Int) > 40:=by
   rcases hq with q | q
   ·cases q
   ·omega
  clear hq;refine hid2 ?_ hL hE;clear hL hE;intro hL hE;go_enter Tryz.func4,Tryz.ntmps4;go_wp2_with fail;refine (hL.out).mono ?_;rintro e w1 ⟨rfl,hm1⟩;replace hm1:=Lib.hid hm1;go_wp2_with fail;refine (hE.out w1).mono ?_;rintro e w2 ⟨rfl,hm2⟩;have hf:=hm1.out.trans hm2;refine hid2 ?_ hf hm2;clear hf hm2;intro hf hm2;go_wp2;go_ret;exact ⟨rfl,hf.out⟩
theorem Zh3 {w:World} {l:List OpK} {ks:List KeyI} {va:Option Addr} {vc:Nat} {ua:Option Addr} {uc:Nat} (st kd:Int) (hst:I64 st) (hkd:I64 kd) (i0:InKOps w (.slice va l.length vc) l) (j0:InKeys w (.slice ua ks.length uc) ks) (hq:lightB l = true) (h40:ks.length≤40) :
  Calls Tryz.prog 4 #[.slice va l.length vc,.slice ua ks.length uc,.int .i64 st,.int .i64 kd] w fun e w'=>e = .returned (.bool true)∧Mod Nowhere w w':=by
 have hL:=ZcF i0;rw [hq] at hL;have hE:=fun W=>Zcu W;have hO:=fun W=>Zcr W;have hF:=fun W=>Zhv W;have hl60:=ZhY hq;have hc0:decide ((ks.length:Int) > 40) = false:=decide_eq_false (by omega);refine hid8 ?_ i0 j0 hL hE hO hF hst hkd;clear i0 j0 hL hE hO hF hst hkd;intro i0 j0 hL hE hO hF hst hkd;go_enter Tryz.func4,Tryz.ntmps4;go_wp2_with fail;refine (hL.out).mono ?_;rintro e w1 ⟨rfl,hm1⟩;have i1:=i0.out.fresh hm1;have j1:=j0.out.fresh hm1;refine hid3 ?_ hm1 i1 j1;clear hm1 i1 j1;intro hm1 i1 j1
 go_upto_region 3 with (fail)
 go_wp2_with fail;refine (hO.out _).mono ?_;intro e w2 ho;obtain ⟨A,kb,mb,rfl,hd⟩:=KC.new ho;clear ho;replace hd:=Lib.hid hd
 go_upto_region 4 with (fail)
 go_wp2_with fail;refine (hF.out _).mono ?_;intro e w3 hs;obtain ⟨fa,fc,rfl,hsb,hm4,hsz⟩:=hs.box;have hd4:=hd.out.fresh hm4;clear hs;simp only [List.length_nil] at hsb hm4 hd4 ⊢;generalize hN:w3.heap.size = N at *
 have hNw:w1.heap.size≤N:=by
  have:=hd.out.md.size;omega
 refine hid3 ?_ hsb hm4 hd4;clear hsb hm4 hd4;intro hsb hm4 hd4
 go_upto_region 5 with (fail)
 generalize w3.alloc (.cells #[.slice fa 0 fc] 32) = w4 at *;clear hm4 hN hsz hd;go_wp2
 go_loopw [14] (fun i wr=>∃ (k:Nat) (sa:Option Addr) (sc:Nat),k≤l.length∧i = .int .i64 k∧KC w1 wr A kb mb k false (rRunK (l.take k))∧SB wr N sa sc (rRunK (l.take k))) (fun i _=>l.length - (intOf i).toNat)
 case atStart=>exact ⟨0,fa,fc,by omega,rfl,hd4.out,hsb.out⟩
 case round =>
  clear hsb hd4;obtain ⟨k,sa,sc,hk,rfl,hd,hsb⟩:=hrel;by_cases hlt:k < l.length
  ·have hki:(k:Int) < (l.length:Int):=by omega
   have hop:=i1.out.op hlt;have hD:=hd.do_ (by omega) (KeyAt.fresh hop hd.md);have hP:=fun Y va vc (h1:Mod Nowhere w1 Y) (h2:RL Y va vc (rRunK (l.take k)))=>ZhV h2 hd.kl hd.len (KeyAt.fresh hop h1);obtain ⟨b,off,x0,x1,x2,a1,n1,c1,x3,rfl,g1,g2,hce,hoc⟩:=i1.out.ce hlt;rw [hce,← ZcH l hlt] at hD;rw [hce,← ZcH l hlt] at hP;obtain ⟨L',hL'⟩:∃ L',rRunK (l.take (k + 1)) = L':=⟨_,rfl⟩;rw [hL'] at hD hP;generalize (rDo (rRunK (l.take k)) l[k].act l[k].k.x).2.1 = nn at *;generalize (rDo (rRunK (l.take k)) l[k].act l[k].k.x).2.2 = er at *;obtain ⟨L,hL⟩:∃ L,rRunK (l.take k) = L:=⟨_,rfl⟩;rw [hL] at hd hsb hD hP
   obtain ⟨o0,o1,o2,o3,o4,ol⟩:=hoc wr hd.md;clear hop;refine hid8 ?_ hd hsb hD hP hoc hce hL' hL;clear hd hsb hD hP hoc hce hL' hL;intro hd hsb hD hP hoc hce hL' hL;go_wp2_with fail;refine hD.out.mono ?_;rintro e v1 ⟨n',er',rfl,ho,hS⟩;rcases ho with ⟨rfl,rfl,hd2⟩ | ⟨-,-,hx,-⟩
   case inr=>cases hx
   have hs2:=hd.out.keepS hS hsb.out;clear o0 o1 o2 o3 o4 ol;obtain ⟨o0,o1,o2,o3,o4,ol⟩:=hoc.out v1 hd2.md;obtain ⟨z0,zf,zl⟩:=hs2.c;have hdv:=(Mod.refl Nowhere v1).drew;have hP1:=hP.out v1.drew _ _ (hd2.md.trans hdv) (hs2.2.fresh hdv);refine hid5 ?_ hd2 hs2 hS hdv hP1;clear hd2 hs2 hS hdv hP1;intro hd2 hs2 hS hdv hP1
   go_upto_region 11 with (fail)
   go_wp2_with fail
   go_region_law (first | (go_simp;go_at_call 13;(with_reducible refine hP1.out.mono ?_);rintro e v2 ⟨sa2,sc2,rfl,e1,hm2⟩;have hmv:=hdv.out.trans hm2;have hs3:=hs2.out.fresh hmv;obtain ⟨g1',g2'⟩:=SB.put hs3.1 e1;have hd9:=(hd2.out.fresh hmv).own hs3.1 g2' hNw;obtain ⟨t0,tf,tl⟩:=hs3.c;replace g1':=Lib.hid g1';replace g2':=Lib.hid g2';replace hd9:=Lib.hid hd9;replace hmv:=Lib.hid hmv;replace e1:=Lib.hid e1;replace hm2:=Lib.hid hm2;replace hs3:=Lib.hid hs3))
   all_goals
    clear z0 zf zl t0 tf tl o0 o1 o2 o3 o4 ol;go_wp2;go_roundw
    case rel=>exact ⟨k + 1,sa2,sc2,by omega,by go_num,by rw [hL'.out];exact hd9.out,by rw [hL'.out];exact g1'.out⟩
    case measure=>simp [intOf];omega
  ·obtain rfl:k = l.length:=by omega
   generalize rRunK (l.take l.length) = L at *;have hBg:=hd.begin hl60 st kd;have hKL:=hd.kl;have hlen:=hd.len;generalize l.length = n at *;refine hid3 ?_ hBg hKL hlen;clear hBg hKL hlen;intro hBg hKL hlen;go_wp2_with fail;refine hBg.out.mono ?_;rintro e w5 ⟨rfl,⟨F,rfl,hT⟩,hS5⟩;have hs5:=hd.keepS hS5 hsb;clear hd hsb;unfold Go.Proofs.YtoehlaeaafalmaaGreat.errno;obtain ⟨L,hLF⟩:∃ L,kl F = L:=⟨_,rfl⟩;rw [hLF] at hs5 hKL hlen;refine hid3 ?_ hT hS5 hs5;clear hT hS5 hs5;intro hT hS5 hs5;go_wp2
   go_loopw [15,16] (fun c i wr=>∃ (j:Nat) (ch:Bool),j≤ks.length∧c = .bool ch∧i = .int .i64 j∧KT w1 wr A kb mb j F st kd ch∧SB wr N sa sc L) (fun _ i _=>ks.length - (intOf i).toNat)
   case atStart=>exact ⟨0,false,by omega,rfl,rfl,hT.out,hs5.out⟩
   case round =>
    clear hT hs5;obtain ⟨j,ch,hj,rfl,rfl,hT,hs⟩:=hrel;by_cases hlt:j < ks.length
    ·have hji:(j:Int) < (ks.length:Int):=by omega
     obtain ⟨b,off,a1,c1,rfl,u1,u2,hv,hat,hcs⟩:=j1.out.ce hlt;have hPt:=hT.put (by omega) (hv ▸ hat.src.fresh hT.md) hat.by_;obtain ⟨g0,g1,g2,g3,gl⟩:=hcs wr hT.md;have hsk:=hT.skip;generalize ks[j].x.val.length = vn at *;generalize ks[j].x.set = xs at *;generalize ks[j].x.kind = xk at *;generalize ks[j].x.lim = xl at *;clear hv hat;by_cases hv1:100 < vn
     ·have hv2:(vn:Int) > 100:=by omega
      refine hid5 ?_ hPt hT hs hsk hcs;clear hPt hT hs hsk hcs;intro hPt hT hs hsk hcs;go_wp2;go_roundw
      case rel=>exact ⟨j + 1,ch,by omega,rfl,by go_num,hsk.out,hs.out⟩
      case measure=>simp [intOf];omega
     ·have hv2:¬ (vn:Int) > 100:=by omega
      clear hsk;refine hid4 ?_ hPt hT hs hcs;clear hPt hT hs hcs;intro hPt hT hs hcs;go_wp2_with fail;refine hPt.out.mono ?_;rintro e w6 ⟨er,rfl,hT6,hS6⟩;have hs6:=hT.out.keepS hS6 hs.out;clear g0 g1 g2 g3 gl;obtain ⟨g0,g1,g2,g3,gl⟩:=hcs.out w6 hT6.md;unfold Go.Proofs.YtoehlaeaafalmaaGreat.errno;by_cases he:er = 0
      ·subst he;simp only [decide_true,Bool.true_and] at hT6
       cases ch with
       | true =>
        simp only [Bool.true_or] at hT6;refine hid3 ?_ hT6 hS6 hs6;clear hT6 hS6 hs6;intro hT6 hS6 hs6;go_wp2;go_roundw
        case rel=>exact ⟨j + 1,true,by omega,rfl,by go_num,hT6.out,hs6.out⟩
        case measure=>simp [intOf];omega
       | false =>
        simp only [Bool.false_or] at hT6;by_cases h1:xs = st
        ·have h1b:decide (xs = st) = true:=decide_eq_true h1;by_cases h2:xk = kd
         ·have h2b:decide (xk = kd) = true:=decide_eq_true h2;rw [h1b,h2b,Bool.and_self] at hT6;clear h1b h2b;subst h1 h2;refine hid3 ?_ hT6 hS6 hs6;clear hT6 hS6 hs6;intro hT6 hS6 hs6;go_wp2;go_roundw
          case rel=>exact ⟨j + 1,true,by omega,rfl,by go_num,hT6.out,hs6.out⟩
          case measure=>simp [intOf];omega
         ·have h2b:decide (xk = kd) = false:=decide_eq_false h2;rw [h2b,Bool.and_false] at hT6;clear h1b h2b;subst h1;have h2c:(xk == kd) = false:=by simpa using h2
          refine hid3 ?_ hT6 hS6 hs6;clear hT6 hS6 hs6;intro hT6 hS6 hs6;go_wp2;go_roundw
          case rel=>exact ⟨j + 1,false,by omega,rfl,by go_num,hT6.out,hs6.out⟩
          case measure=>simp [intOf];omega
        ·have h1b:decide (xs = st) = false:=decide_eq_false h1;rw [h1b,Bool.false_and] at hT6;clear h1b;refine hid3 ?_ hT6 hS6 hs6;clear hT6 hS6 hs6;intro hT6 hS6 hs6;go_wp2;go_roundw
         case rel=>exact ⟨j + 1,false,by omega,rfl,by go_num,hT6.out,hs6.out⟩
         case measure=>simp [intOf];omega
      ·have he2:¬ (er:Int) = 0:=by omega
       have he3:decide (er = 0) = false:=decide_eq_false he;rw [he3,Bool.false_and,Bool.or_false] at hT6;clear he he3;refine hid3 ?_ hT6 hS6 hs6;clear hT6 hS6 hs6;intro hT6 hS6 hs6;go_wp2;go_roundw
       case rel=>exact ⟨j + 1,ch,by omega,rfl,by go_num,hT6.out,hs6.out⟩
       case measure=>simp [intOf];omega
    ·obtain rfl:j = ks.length:=by omega
     have hSp:=hT.spend h40 hst.out hkd.out;rw [hLF] at hSp;generalize ks.length = kn at *;refine hid3 ?_ hSp hT hs;clear hSp hT hs;intro hSp hT hs;go_wp2_with fail;refine hSp.out.mono ?_;rintro e w6 ⟨n',er',rfl,hpost,hS6⟩;have hs6:=hT.out.keepS hS6 hs.out;have hR6:=Zcz hs6.2 hKL.out hlen.out st kd;obtain ⟨z0,zf,zl⟩:=hs6.c;have hw6:=hT.out.md.size;have hsz6:=hS6.size;obtain ⟨L2,hL2⟩:∃ L2,(rSpend L st kd).1 = L2:=⟨_,rfl⟩;obtain ⟨n2,hn2⟩:∃ n2,(rSpend L st kd).2.1 = n2:=⟨_,rfl⟩;obtain ⟨e2,he2⟩:∃ e2,(rSpend L st kd).2.2 = e2:=⟨_,rfl⟩;rw [hL2,hn2,he2] at hpost hR6;refine hid4 ?_ hpost hS6 hs6 hR6;clear hpost hS6 hs6 hR6;intro hpost hS6 hs6 hR6
     go_wp2_with fail;refine hR6.out.mono ?_;rintro e w7 ⟨sa2,sc2,rfl,hr7,hm7⟩;have hsz7:=hm7.size;have hb7:=SB.new w7 hr7 rfl;have hmA:=hm7.alloc (.cells #[.slice sa2 L2.length sc2] 32);have hs7:=hs6.out.fresh hmA;generalize hN2:w7.heap.size = N2 at *;have hNlt:N < N2:=by omega
     have hN2w:w1.heap.size≤N2:=by omega
     clear z0 zf zl hr7;refine hid4 ?_ hm7 hb7 hmA hs7;clear hm7 hb7 hmA hs7;intro hm7 hb7 hmA hs7
     go_upto_region 23 with (fail)
     generalize w7.alloc (.cells #[.slice sa2 L2.length sc2] 32) = w8 at *;clear hm7 hsz6 hsz7 hw6;obtain ⟨r0,rf,rl⟩:=hb7.out.c;obtain ⟨z0,zf,zl⟩:=hs7.out.c;have d1:N2 ≠ N:=by omega
     have d2:N ≠ N2:=by omega
     rcases hpost.out with ⟨rfl,rfl,hke⟩ | ⟨rfl,rfl,rfl,hke⟩
     ·obtain ⟨g1',g2'⟩:=SB.put hb7.out.1 hs7.out.2;have hke9:=(hke.fresh hmA.out).own hb7.out.1 g2' hN2w;have hAb:=hke9.abort;have e14:((14:Nat):Int) = 14:=rfl;rw [e14];clear e14 hpost;unfold Go.Proofs.YtoehlaeaafalmaaGreat.errno at *;refine hid5 ?_ g1' g2' hke hke9 hAb;clear g1' g2' hke hke9 hAb;intro g1' g2' hke hke9 hAb;go_wp2_with fail;refine hAb.out.mono ?_;rintro e w9 ⟨rfl,hsh,hS9⟩;have hs9:=hke9.out.keepS hS9 g1'.out;have hA1:=hsh.agrees hs9.2 hKL.out hlen.out;clear r0 rf rl z0 zf zl;obtain ⟨z0,zf,zl⟩:=hs9.c;refine hid4 ?_ hsh hS9 hs9 hA1;clear hsh hS9 hs9 hA1;intro hsh hS9 hs9 hA1
      go_wp2_with fail;refine hA1.out.mono ?_;rintro e wa ⟨b,rfl,hb,hsh2,-,hma⟩;obtain rfl:=hb (by trivial);have hEa:=hE.out wa;clear hb;refine hid3 ?_ hsh2 hma hEa;clear hsh2 hma hEa;intro hsh2 hma hEa;go_wp2_with fail;refine hEa.out.mono ?_;rintro e wi ⟨rfl,hmi⟩;have hf:=(hm1.out.trans hsh2.out.md).trans hmi;refine hid2 ?_ hf hmi;clear hf hmi;intro hf hmi;go_wp2;go_ret;exact ⟨rfl,hf.out⟩
     ·have hke9:=hke.fresh hmA.out;have hAb:=hke9.abort;have hKL2:=hke9.kl;clear hpost;unfold Go.Proofs.YtoehlaeaafalmaaGreat.errno at *;refine hid4 ?_ hke hke9 hAb hKL2;clear hke hke9 hAb hKL2;intro hke hke9 hAb hKL2;go_wp2_with fail;refine hAb.out.mono ?_;rintro e w9 ⟨rfl,hsh,hS9⟩;have hs9:=hke9.out.keepS hS9 hb7.out;have hA1:=hsh.agrees hs9.2 hKL2.out.1 hKL2.out.2;clear r0 rf rl z0 zf zl;obtain ⟨z0,zf,zl⟩:=hs9.c;refine hid4 ?_ hsh hS9 hs9 hA1;clear hsh hS9 hs9 hA1;intro hsh hS9 hs9 hA1;go_wp2_with fail;refine hA1.out.mono ?_;rintro e wa ⟨b,rfl,hb,hsh2,-,hma⟩;obtain rfl:=hb (by trivial);have hEa:=hE.out wa
      clear hb;refine hid3 ?_ hsh2 hma hEa;clear hsh2 hma hEa;intro hsh2 hma hEa;go_wp2_with fail;refine hEa.out.mono ?_;rintro e wi ⟨rfl,hmi⟩;have hf:=(hm1.out.trans hsh2.out.md).trans hmi;refine hid2 ?_ hf hmi;clear hf hmi;intro hf hmi;go_wp2;go_ret;exact ⟨rfl,hf.out⟩
theorem lawKeysAborts (v:Value) (l:List OpK) (u:Value) (ks:List KeyI) (st kd:Int) (w:World) (i0:InKOps w v l) (j0:InKeys w u ks) (h1:(Lit.int .i64 st).wf = true) (h2:(Lit.int .i64 kd).wf = true) :
  Calls Tryz.prog 4 #[v,u,.int .i64 st,.int .i64 kd] w fun e w'=>e = .returned (.bool true)∧Below w.heap.size w w':=by
 obtain ⟨va,vc,rfl,-⟩:=id i0;obtain ⟨ua,uc,rfl,-⟩:=id j0;by_cases h:lightB l = false ∨ 40 < ks.length
 ·exact (Zh2 st kd i0 h).mono fun e w' ⟨a,b⟩=>⟨a,b.below⟩
 ·have h3:ks.length≤40:=Nat.le_of_not_lt fun q=>h (.inr q)
  have h4:lightB l = true:=by
   cases hq:lightB l with
   | true=>rfl
   | false=>exact absurd (.inl hq) h
  exact (Zh3 st kd (Yy h1) (Yy h2) i0 j0 h4 h3).mono fun e w' ⟨a,b⟩=>⟨a,b.below⟩
end Go.Proofs.YtoehlaeaafalmaaGreat
