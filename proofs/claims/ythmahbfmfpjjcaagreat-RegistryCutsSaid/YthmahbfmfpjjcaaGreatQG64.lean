/-
  The registry: valid, Check, issuer: the walks.
-/
import Derived.Test.YthmahbfmfpjjcaaGreatQG63
set_option linter.unusedVariables false
set_option linter.unusedSimpArgs false
set_option maxHeartbeats 8000000
set_option maxRecDepth 100000
namespace Go.Proofs.YthmahbfmfpjjcaaGreat
open Go.RowKit
open Jn Vn Rg
attribute [local go_sem] Oper.semAt_some
structure InE (w:World) (u v:Value) (e:REn):Prop where
 sa:Src w u e.aid
 sd:Src w v e.dom
 ba:Bytes e.aid
 bd:Bytes e.dom
theorem InE.fresh {w w':World} {u v:Value} {e:REn} (h:InE w u v e) (hm:Mod Nowhere w w'):InE w' u v e:={ h with sa:=h.sa.fresh hm,sd:=h.sd.fresh hm }
def eCells (u v:Value) (e:REn):List Value:=[u,.int .i64 e.kind,.int .i64 e.st,.int .i64 e.bf,.int .i64 e.pr,v,.int .i64 e.pk,.int .i64 e.ob]
theorem Zfr {w:World} {u v:Value} {e:REn} (h:InE w u v e) :
  Calls Tryz.prog 53 #[.agg (eCells u v e).toArray] w fun r w'=>r = .returned (.bool (decide (e.kind = 1) && decide (e.aid = e.dom)))∧Mod Nowhere w w':=by
 have hE:=fun W (hm:Mod Nowhere w W)=>ZH (h.sa.fresh hm) (h.sd.fresh hm) h.ba h.bd;obtain ⟨ua,uc,rfl,-⟩:=h.sa;obtain ⟨va,vc,rfl,-⟩:=h.sd;clear h;obtain ⟨k,st,bf,pr,pk,ob,aid,dom⟩:=e;dsimp only [eCells] at *;generalize decide (aid = dom) = q at *;generalize aid.length = n at *;generalize dom.length = m at *;have hm1:∀ cs:List Value,Mod Nowhere w (w.alloc (.cells cs.toArray 24)):=fun cs=>(Mod.refl _ w).alloc _;replace hE:=Lib.hid hE;by_cases hk:k = 1
 ·have hkb:(k == 1) = true:=by simpa using hk
  rw [decide_eq_true hk];go_enter Tryz.func53,Tryz.ntmps53;go_wp2_with fail;refine (hE.out _ (hm1 _)).mono ?_;rintro r w1 ⟨rfl,hm⟩;go_wp2;go_ret;exact ⟨Za (by simp),(hm1 _).trans hm⟩
 ·have hkb:(k == 1) = false:=by simpa using hk
  rw [decide_eq_false hk];go_enter Tryz.func53,Tryz.ntmps53;go_wp2;go_ret;exact ⟨rfl,hm1 _⟩
theorem Zbf {w:World} {u v:Value} {e:REn} (h:InE w u v e) (h1:-9223372036854775808≤e.pr) (h2:e.pr≤9223372036854775807) :
  Calls Tryz.prog 39 #[.agg (eCells u v e).toArray] w fun r w'=>r = .returned (.bool (pValid e))∧Mod Nowhere w w':=by
 have hE:=fun W (hm:Mod Nowhere w W)=>ZH (h.sd.fresh hm) (h.sa.fresh hm) h.bd h.ba;have h31:=andNot31b h1 h2;rw [Zfi e];obtain ⟨ua,uc,rfl,-⟩:=h.sa;obtain ⟨va,vc,rfl,-⟩:=h.sd;clear h h1 h2;obtain ⟨k,st,bf,pr,pk,ob,aid,dom⟩:=e;dsimp only [eCells] at *;unfold isId;have hI1:=fun W=>Zbb W ua aid.length uc;have hI2:=fun W=>Zbb W va dom.length vc;generalize decide (dom = aid) = q at *;generalize aid.length = n at *;generalize dom.length = m at *;generalize (decide (5≤n) && decide (n≤16)) = i1 at *;generalize (decide (5≤m) && decide (m≤16)) = i2 at *;have hW1:=fun W=>YJ W st 2 5;have hW2:=fun W=>YJ W bf 2 4
 unfold wthB;unfold wthB at h31;generalize (decide (2≤st) && decide (st≤5)) = ws at *;generalize (decide (2≤bf) && decide (bf≤4)) = wb at *;have hr0:(pr != 0) = !decide (pr = 0):=by by_cases hx:pr = 0 <;> simp [hx]
 have hb0:(bf != 0) = !decide (bf = 0):=by by_cases hx:bf = 0 <;> simp [hx]
 have hs1:(st != 1) = !decide (st = 1):=by by_cases hx:st = 1 <;> simp [hx]
 have hs5:(st == 5) = decide (st = 5):=by by_cases hx:st = 5 <;> simp [hx]
 have hs5n:(st != 5) = !decide (st = 5):=by by_cases hx:st = 5 <;> simp [hx]
 have hk3:(k == 3) = decide (k = 3):=by by_cases hx:k = 3 <;> simp [hx]
 have hk2:(k == 2) = decide (k = 2):=by by_cases hx:k = 2 <;> simp [hx]
 have hk1:(k == 1) = decide (k = 1):=by by_cases hx:k = 1 <;> simp [hx]
 generalize (decide (0≤pr) && decide (pr≤31)) = w31 at *;generalize decide (pr = 0) = r0 at *;generalize decide (bf = 0) = b0 at *;generalize decide (st = 1) = s1 at *;generalize decide (st = 5) = s5 at *;have hN1:=fun W b=>Zba W pk b 16;have hN2:=fun W b=>Zba W ob b 512;have hn1:∀ b,(if b = true then decide (1≤pk) && decide (pk≤16) else decide (pk = 0)) = numB pk b 16:=fun b=>rfl;have hn2:∀ b,(if b = true then decide (1≤ob) && decide (ob≤512) else decide (ob = 0)) = numB ob b 512:=fun b=>rfl;simp only [hn1,hn2] at hN1 hN2
 have hp:(decide (k = 3) = false∧decide (k = 2) = false∧decide (k = 1) = false) ∨ (decide (k = 3) = true∧decide (k = 2) = false∧decide (k = 1) = false) ∨ (decide (k = 3) = false∧decide (k = 2) = true∧decide (k = 1) = false) ∨ (decide (k = 3) = false∧decide (k = 2) = false∧decide (k = 1) = true):=by
  by_cases hx:k = 3
  ·subst hx;decide
  ·by_cases hy:k = 2
   ·subst hy;decide
   ·by_cases hz:k = 1
    ·subst hz;decide
    ·simp [hx,hy,hz]
 generalize decide (k = 3) = p3 at *;generalize decide (k = 2) = p2 at *;generalize decide (k = 1) = p1 at *;have hm1:∀ cs:List Value,Mod Nowhere w (w.alloc (.cells cs.toArray 24)):=fun cs=>(Mod.refl _ w).alloc _;refine hid9 ?_ hE hN1 hN2 hW1 hW2 hI1 hI2 hn1 hn2;clear hE hN1 hN2 hW1 hW2 hI1 hI2 hn1 hn2;intro hE hN1 hN2 hW1 hW2 hI1 hI2 hn1 hn2;rcases hp with ⟨rfl,rfl,rfl⟩ | ⟨rfl,rfl,rfl⟩ | ⟨rfl,rfl,rfl⟩ | ⟨rfl,rfl,rfl⟩
 ·skip
  go_enter Tryz.func39,Tryz.ntmps39;go_wp2_with fail
  go_quiet (fail)
  go_wp2;go_ret;exact ⟨rfl,(hm1 _).drewN _⟩
 ·skip
  obtain ⟨n1,hq1⟩:∃ n1,numB pk true 16 = n1:=⟨_,rfl⟩;obtain ⟨n2,hq2⟩:∃ n2,numB ob false 512 = n2:=⟨_,rfl⟩;rw [show numB pk (!false) 16 = n1 from hq1,hq2];have hN1':=fun W=>hN1.out W true;have hN2':=fun W=>hN2.out W false;simp only [hq1] at hN1';simp only [hq2] at hN2';clear hN1 hN2 hn1 hn2 hq1 hq2;refine hid2 ?_ hN1' hN2';clear hN1' hN2';intro hN1' hN2';go_enter Tryz.func39,Tryz.ntmps39;go_wp2_with fail
  go_quiet (fail)
  go_wp2_with fail;refine (hI1.out _).mono ?_;rintro e w1 ⟨rfl,rfl⟩
  cases i1
  ·skip
   go_wp2;go_ret;exact ⟨rfl,(hm1 _).drewN _⟩
  go_wp2_with fail;refine (hI2.out _).mono ?_;rintro e w1 ⟨rfl,rfl⟩
  cases i2
  ·skip
   go_wp2;go_ret;exact ⟨rfl,(hm1 _).drewN _⟩
  cases s1
  ·simp only [Bool.not_false] at hs1;go_wp2;go_ret;exact ⟨rfl,(hm1 _).drewN _⟩
  simp only [Bool.not_true] at hs1
  cases s5
  ·simp only [Bool.not_false] at hs5n
   cases b0
   ·simp only [Bool.not_false] at hb0;go_wp2;go_ret;exact ⟨rfl,(hm1 _).drewN _⟩
   simp only [Bool.not_true] at hb0
   cases w31
   ·simp only [Bool.not_false] at h31;go_wp2;go_ret;exact ⟨rfl,(hm1 _).drewN _⟩
   simp only [Bool.not_true] at h31
   cases r0
   ·simp only [Bool.not_false] at hr0;go_wp2;go_ret;exact ⟨rfl,(hm1 _).drewN _⟩
   simp only [Bool.not_true] at hr0;go_wp2_with fail;refine (hN1'.out _).mono ?_;rintro e w1 ⟨rfl,rfl⟩
   cases n1
   ·skip
    go_wp2;go_ret;exact ⟨rfl,(hm1 _).drewN _⟩
   go_wp2_with fail;refine (hN2'.out _).mono ?_;rintro e w1 ⟨rfl,rfl⟩
   cases n2
   ·skip
    go_wp2;go_ret;exact ⟨rfl,(hm1 _).drewN _⟩
   go_wp2_with fail;refine (hE.out _ ((hm1 _).drewN _)).mono ?_;rintro e w1 ⟨rfl,hm⟩;go_wp2;go_ret;exact ⟨rfl,((hm1 _).drewN _).trans hm⟩
  ·simp only [Bool.not_true] at hs5n;go_wp2_with fail;refine (hW2.out _).mono ?_;rintro e w1 ⟨rfl,rfl⟩
   cases wb
   ·skip
    go_wp2;go_ret;exact ⟨rfl,(hm1 _).drewN _⟩
   cases w31
   ·simp only [Bool.not_false] at h31;go_wp2;go_ret;exact ⟨rfl,(hm1 _).drewN _⟩
   simp only [Bool.not_true] at h31
   cases r0
   ·simp only [Bool.not_false] at hr0;go_wp2;go_ret;exact ⟨rfl,(hm1 _).drewN _⟩
   simp only [Bool.not_true] at hr0;go_wp2_with fail;refine (hN1'.out _).mono ?_;rintro e w1 ⟨rfl,rfl⟩
   cases n1
   ·skip
    go_wp2;go_ret;exact ⟨rfl,(hm1 _).drewN _⟩
   go_wp2_with fail;refine (hN2'.out _).mono ?_;rintro e w1 ⟨rfl,rfl⟩
   cases n2
   ·skip
    go_wp2;go_ret;exact ⟨rfl,(hm1 _).drewN _⟩
   go_wp2_with fail;refine (hE.out _ ((hm1 _).drewN _)).mono ?_;rintro e w1 ⟨rfl,hm⟩;go_wp2;go_ret;exact ⟨rfl,((hm1 _).drewN _).trans hm⟩
 ·skip
  obtain ⟨n1,hq1⟩:∃ n1,numB pk true 16 = n1:=⟨_,rfl⟩;obtain ⟨n2,hq2⟩:∃ n2,numB ob true 512 = n2:=⟨_,rfl⟩;rw [show numB pk (!false) 16 = n1 from hq1,hq2];have hN1':=fun W=>hN1.out W true;have hN2':=fun W=>hN2.out W true;simp only [hq1] at hN1';simp only [hq2] at hN2';clear hN1 hN2 hn1 hn2 hq1 hq2;refine hid2 ?_ hN1' hN2';clear hN1' hN2';intro hN1' hN2';go_enter Tryz.func39,Tryz.ntmps39;go_wp2_with fail
  go_quiet (fail)
  go_wp2_with fail;refine (hI1.out _).mono ?_;rintro e w1 ⟨rfl,rfl⟩
  cases i1
  ·skip
   go_wp2;go_ret;exact ⟨rfl,(hm1 _).drewN _⟩
  go_wp2_with fail;refine (hI2.out _).mono ?_;rintro e w1 ⟨rfl,rfl⟩
  cases i2
  ·skip
   go_wp2;go_ret;exact ⟨rfl,(hm1 _).drewN _⟩
  go_wp2_with fail;refine (hW1.out _).mono ?_;rintro e w1 ⟨rfl,rfl⟩
  cases ws
  ·skip
   go_wp2;go_ret;exact ⟨rfl,(hm1 _).drewN _⟩
  cases s5
  ·simp only [Bool.not_false] at hs5n
   cases b0
   ·simp only [Bool.not_false] at hb0;go_wp2;go_ret;exact ⟨rfl,(hm1 _).drewN _⟩
   simp only [Bool.not_true] at hb0
   cases w31
   ·simp only [Bool.not_false] at h31;go_wp2;go_ret;exact ⟨rfl,(hm1 _).drewN _⟩
   simp only [Bool.not_true] at h31;go_wp2_with fail;refine (hN1'.out _).mono ?_;rintro e w1 ⟨rfl,rfl⟩
   cases n1
   ·skip
    go_wp2;go_ret;exact ⟨rfl,(hm1 _).drewN _⟩
   go_wp2_with fail;refine (hN2'.out _).mono ?_;rintro e w1 ⟨rfl,rfl⟩
   cases n2
   ·skip
    go_wp2;go_ret;exact ⟨rfl,(hm1 _).drewN _⟩
   go_wp2_with fail;refine (hE.out _ ((hm1 _).drewN _)).mono ?_;rintro e w1 ⟨rfl,hm⟩;go_wp2;go_ret;exact ⟨rfl,((hm1 _).drewN _).trans hm⟩
  ·simp only [Bool.not_true] at hs5n;go_wp2_with fail;refine (hW2.out _).mono ?_;rintro e w1 ⟨rfl,rfl⟩
   cases wb
   ·skip
    go_wp2;go_ret;exact ⟨rfl,(hm1 _).drewN _⟩
   cases w31
   ·simp only [Bool.not_false] at h31;go_wp2;go_ret;exact ⟨rfl,(hm1 _).drewN _⟩
   simp only [Bool.not_true] at h31;go_wp2_with fail;refine (hN1'.out _).mono ?_;rintro e w1 ⟨rfl,rfl⟩
   cases n1
   ·skip
    go_wp2;go_ret;exact ⟨rfl,(hm1 _).drewN _⟩
   go_wp2_with fail;refine (hN2'.out _).mono ?_;rintro e w1 ⟨rfl,rfl⟩
   cases n2
   ·skip
    go_wp2;go_ret;exact ⟨rfl,(hm1 _).drewN _⟩
   go_wp2_with fail;refine (hE.out _ ((hm1 _).drewN _)).mono ?_;rintro e w1 ⟨rfl,hm⟩;go_wp2;go_ret;exact ⟨rfl,((hm1 _).drewN _).trans hm⟩
 ·skip
  obtain ⟨n1,hq1⟩:∃ n1,numB pk false 16 = n1:=⟨_,rfl⟩;obtain ⟨n2,hq2⟩:∃ n2,numB ob false 512 = n2:=⟨_,rfl⟩;rw [show numB pk (!true) 16 = n1 from hq1,hq2];have hN1':=fun W=>hN1.out W false;have hN2':=fun W=>hN2.out W false;simp only [hq1] at hN1';simp only [hq2] at hN2';clear hN1 hN2 hn1 hn2 hq1 hq2;refine hid2 ?_ hN1' hN2';clear hN1' hN2';intro hN1' hN2';go_enter Tryz.func39,Tryz.ntmps39;go_wp2_with fail
  go_quiet (fail)
  go_wp2_with fail;refine (hI1.out _).mono ?_;rintro e w1 ⟨rfl,rfl⟩
  cases i1
  ·skip
   go_wp2;go_ret;exact ⟨rfl,(hm1 _).drewN _⟩
  go_wp2_with fail;refine (hI2.out _).mono ?_;rintro e w1 ⟨rfl,rfl⟩
  cases i2
  ·skip
   go_wp2;go_ret;exact ⟨rfl,(hm1 _).drewN _⟩
  go_wp2_with fail;refine (hW1.out _).mono ?_;rintro e w1 ⟨rfl,rfl⟩
  cases ws
  ·skip
   go_wp2;go_ret;exact ⟨rfl,(hm1 _).drewN _⟩
  cases s5
  ·simp only [Bool.not_false] at hs5n
   cases b0
   ·simp only [Bool.not_false] at hb0;go_wp2;go_ret;exact ⟨rfl,(hm1 _).drewN _⟩
   simp only [Bool.not_true] at hb0
   cases w31
   ·simp only [Bool.not_false] at h31;go_wp2;go_ret;exact ⟨rfl,(hm1 _).drewN _⟩
   simp only [Bool.not_true] at h31;go_wp2_with fail;refine (hN1'.out _).mono ?_;rintro e w1 ⟨rfl,rfl⟩
   cases n1
   ·skip
    go_wp2;go_ret;exact ⟨rfl,(hm1 _).drewN _⟩
   go_wp2_with fail;refine (hN2'.out _).mono ?_;rintro e w1 ⟨rfl,rfl⟩
   cases n2
   ·skip
    go_wp2;go_ret;exact ⟨rfl,(hm1 _).drewN _⟩
   go_wp2;go_ret;exact ⟨rfl,(hm1 _).drewN _⟩
  ·simp only [Bool.not_true] at hs5n;go_wp2_with fail;refine (hW2.out _).mono ?_;rintro e w1 ⟨rfl,rfl⟩
   cases wb
   ·skip
    go_wp2;go_ret;exact ⟨rfl,(hm1 _).drewN _⟩
   cases w31
   ·simp only [Bool.not_false] at h31;go_wp2;go_ret;exact ⟨rfl,(hm1 _).drewN _⟩
   simp only [Bool.not_true] at h31;go_wp2_with fail;refine (hN1'.out _).mono ?_;rintro e w1 ⟨rfl,rfl⟩
   cases n1
   ·skip
    go_wp2;go_ret;exact ⟨rfl,(hm1 _).drewN _⟩
   go_wp2_with fail;refine (hN2'.out _).mono ?_;rintro e w1 ⟨rfl,rfl⟩
   cases n2
   ·skip
    go_wp2;go_ret;exact ⟨rfl,(hm1 _).drewN _⟩
   go_wp2;go_ret;exact ⟨rfl,(hm1 _).drewN _⟩
end Go.Proofs.YthmahbfmfpjjcaaGreat
/-
 The registry: joining bytes; the item of an entry.
-/
namespace Go.Proofs.YthmahbfmfpjjcaaGreat
open Go.RowKit
open Jn Rg
attribute [local go_sem] Oper.semAt_some
theorem Zfs {w:World} {v:Value} {xs:List (Value × List Nat)} (h:Sl w v 22 1 xs.length (xs.map (·.1))) (hx:∀ x ∈ xs,Src w x.1 x.2) (hxl:xs.length≤1000) (hn:(cat xs).length≤1099511627776) :
  Calls Tryz.prog 100 #[v] w fun e w'=>∃ v',e = .returned v'∧w'.ownsRow w.heap.size 5 1 v' (cat xs).length (u8s (cat xs))∧Mod Nowhere w w':=by
 obtain ⟨i0,hi0,hz0,hz1,hz2⟩:=info_parts Zc;obtain ⟨a,cap,rfl,h1,h2,hcells⟩:=h.gen;refine hid2 ?_ h hx;clear h hx;intro h hx;clear hcells;go_enter Tryz.func100,Tryz.ntmps100;go_wp2
 go_loopg [3,8] xs.length (fun gg vv i wr=>∃ k:Nat,k≤xs.length∧gg + k = xs.length∧i = .int .i64 k∧wr.ownsRow w.heap.size 5 1 vv (cat (xs.take k)).length (u8s (cat (xs.take k)))∧Mod Nowhere w wr)
 case atStart=>exact ⟨0,by omega,by omega,rfl,World.ownsRow_nil _ _ _ _,Mod.refl _ _⟩
 case round =>
  obtain ⟨k,hk,hgg,rfl,hown,hm⟩:=hrel;have hle:=ZR xs k;by_cases hlt:k < xs.length
  ·have hsl:=h.out.mod hm (fun _ _=>id);obtain ⟨b,off,cap',e0,hbl,_,_,hc,hz⟩:=hsl.open (by omega);have hck:=hc k (by omega);have hct:=Xu xs k hlt;have hle2:=ZR xs (k + 1);rw [hct,List.length_append] at hle2
   have e1:(xs.map (·.1)).getD k default = xs[k].1:=by simp [gd0,hlt]
   rw [e1] at hck;have hxk:=(hx.out xs[k] (List.getElem_mem hlt)).fresh hm;obtain ⟨vb,vcap,rfl,hvc⟩:=Zg hown
   obtain ⟨rfl,rfl⟩:a = some ⟨b,off,none⟩∧cap = cap':=by
    simp at e0;exact ⟨e0.1,e0.2⟩
   clear hc;obtain ⟨va,vc,w2,hrun,ho2,hm2⟩:=Zff rfl hown hxk (by omega) hm.size 22;obtain ⟨xa,xc,e2,_,_,_⟩:=hxk;rw [e2] at hck hrun;rw [← hct] at ho2;have hM2:Mod Nowhere w w2:=hm.step hm2 (fun i hi e=>by have e:w.heap.size≤i:=e;omega);have hlen:(cat (xs.take (k + 1))).length = (cat (xs.take k)).length + xs[k].2.length:=by rw [hct,List.length_append]
   rw [← hlen] at ho2 hrun;clear hown hm hm2 hsl hct hlen;generalize hs2:(cat (xs.take (k + 1))).length = s2 at *;generalize (cat (xs.take k)).length = s at *;generalize xs[k].2.length = q at *;refine hid5 ?_ ho2 hM2 e1 e2 hs2;clear ho2 hM2 e1 e2 hs2;intro ho2 hM2 e1 e2 hs2
   go_wp2_with (at_builtin;refine Lib.wpList_append_run _ rfl _ _ _ _ rfl _ _ rfl rfl _ _ hrun ?_)
   go_roundg (xs.length - (k + 1))
   case measure=>omega
   case rel=>exact ⟨k + 1,by omega,by omega,by go_num,by rw [hs2.out];exact ho2.out,hM2.out⟩
  ·obtain rfl:k = xs.length:=by omega
   rw [List.take_length] at hown;replace hown:=Lib.hid hown;go_wp2;go_ret;exact ⟨_,rfl,hown.out,hm⟩
theorem Zft {w:World} {b b':Nat} {T:TypeId} {sz n:Nat} {v:Value} {xs:List Value} (h:w.ownsRow b T sz v n xs) (hb:b'≤b):w.ownsRow b' T sz v n xs:=by
 refine ⟨h.1,?_⟩;rcases h.2 with h | ⟨g,cap,cur,h1,h2,h3⟩
 ·exact .inl h
 ·exact .inr ⟨g,cap,cur,h1,Nat.le_trans hb h2,h3⟩
theorem Zfu (e:En) (a b c:Value):cat [(a,[e.kind,e.st,e.bf,e.pr,e.pk,e.ob / 256,e.ob % 256,e.aid.length]),(b,e.aid),(c,e.dom)] = enB e:=by
 simp [cat,enB]
def BPost (w:World) (d:List Nat) (r:Ending) (w':World):Prop:=∃ va vc,r = .returned (.slice va d.length vc)∧w'.ownsRow w.heap.size 5 1 (.slice va d.length vc) d.length (u8s d)∧Mod Nowhere w w'
theorem Zbg {w:World} {u v:Value} {e:En} (he:EOk e) (h:InE w u v e.raw):Calls Tryz.prog 57 #[.agg (eCells u v e.raw).toArray] w (BPost w (enB e)):=by
 have h1:Src w u e.aid:=h.sa;have h2:Src w v e.dom:=h.sd;obtain ⟨xa,xc,rfl,hx1,hx2,-⟩:=id h1;obtain ⟨ya,yc,rfl,hy1,hy2,-⟩:=id h2;have:=he.st5;have:=he.bf4;have:=he.pk16;have hob:=he.ob512;have:=he.k3;have:=he.p31;have ha16:=he.a16;have hd16:=he.d16;have hlen:=he.len
 have hCat:∀ W:World,Mod Nowhere w W →
   Calls Tryz.prog 100 #[.slice (some ⟨W.heap.size + 1,0,none⟩) 3 3] ((W.alloc (.cells (u8s [e.kind,e.st,e.bf,e.pr,e.pk,e.ob / 256,e.ob % 256,e.aid.length]).toArray 5)).alloc (.cells #[.slice (some ⟨W.heap.size,0,none⟩) 8 8,.slice xa e.aid.length xc,.slice ya e.dom.length yc] 22)) (BPost w (enB e)):=by
  intro W hm;obtain ⟨L,hL⟩:∃ L,[e.kind,e.st,e.bf,e.pr,e.pk,e.ob / 256,e.ob % 256,e.aid.length] = L:=⟨_,rfl⟩;rw [hL];have hLl:L.length = 8:=by rw [← hL];rfl
  have hb1:=Blk.new W (u8s L) 5;have m1:Mod Nowhere W (W.alloc (.cells (u8s L).toArray 5)):=(Mod.refl _ W).alloc _;have hsz:(W.alloc (.cells (u8s L).toArray 5)).heap.size = W.heap.size + 1:=by simp
  generalize W.alloc (.cells (u8s L).toArray 5) = W1 at *;have hb2:=Blk.new W1 [.slice (some ⟨W.heap.size,0,none⟩) 8 8,.slice xa e.aid.length xc,.slice ya e.dom.length yc] 22;have m2:Mod Nowhere W1 (W1.alloc (.cells #[.slice (some ⟨W.heap.size,0,none⟩) 8 8,.slice xa e.aid.length xc,.slice ya e.dom.length yc] 22)):=(Mod.refl _ W1).alloc _;rw [hsz] at hb2;have hb2':Blk (W1.alloc (.cells #[.slice (some ⟨W.heap.size,0,none⟩) 8 8,.slice xa e.aid.length xc,.slice ya e.dom.length yc] 22)) (W.heap.size + 1) [.slice (some ⟨W.heap.size,0,none⟩) 8 8,.slice xa e.aid.length xc,.slice ya e.dom.length yc] 22:=hb2
  clear hb2;generalize W1.alloc (.cells #[.slice (some ⟨W.heap.size,0,none⟩) 8 8,.slice xa e.aid.length xc,.slice ya e.dom.length yc] 22) = W2 at *;have hm2:Mod Nowhere w W2:=(hm.trans m1).trans m2
  have s1:Src W2 (.slice (some ⟨W.heap.size,0,none⟩) 8 8) L:=by
   refine ⟨_,8,by rw [hLl],by omega,by unfold maxLen;decide,fun _=>⟨W.heap.size,0,rfl,by have:=m2.size;omega,fun i hi=>?_⟩⟩;have hb1':=hb1.mod m2 id;rw [Nat.zero_add,hb1'.cell,← Yf L i hi,gd0,List.getElem?_eq_getElem (by simpa [u8s] using hi)]
   rfl
  have hcl:=Zfu e (.slice (some ⟨W.heap.size,0,none⟩) 8 8) (.slice xa e.aid.length xc) (.slice ya e.dom.length yc);rw [hL] at hcl
  have:=Zfs (w:=W2) (v:=.slice (some ⟨W.heap.size + 1,0,none⟩) 3 3)
   (xs:=[(.slice (some ⟨W.heap.size,0,none⟩) 8 8,L),(.slice xa e.aid.length xc,e.aid),(.slice ya e.dom.length yc,e.dom)])
   ⟨rfl,.inr ⟨W.heap.size + 1,0,3,_,rfl,hb2',Nat.le_refl _,by unfold maxLen;decide,Nat.le_refl _,rfl⟩⟩
   (by
    intro x hx;simp only [List.mem_cons,List.not_mem_nil,or_false] at hx;rcases hx with rfl | rfl | rfl
    ·exact s1
    ·exact h1.fresh hm2
    ·exact h2.fresh hm2) (by show 3≤1000;decide) (by rw [hcl];omega)
  rw [hcl] at this;refine this.mono ?_;rintro r w' ⟨v',rfl,ho',hm'⟩;obtain ⟨va,vc,rfl,-⟩:=Zg ho';exact ⟨va,vc,rfl,Zft ho' hm2.size,hm2.trans hm'⟩
 have hm0:∀ cs:List Value,Mod Nowhere w (w.alloc (.cells cs.toArray 24)):=fun cs=>(Mod.refl _ w).alloc _;unfold En.raw eCells;clear h h1 h2 he;generalize hR:BPost w (enB e) = R at *;obtain ⟨k,st,bf,pr,pk,ob,aid,dom⟩:=e;dsimp only at *;obtain ⟨q,hq⟩:∃ q,aid.length = q:=⟨_,rfl⟩;obtain ⟨r,hr⟩:∃ r,dom.length = r:=⟨_,rfl⟩;rw [hq] at hCat ha16 hx1 ⊢;rw [hr] at hCat hd16 hy1 ⊢;have c1:IntKind.u8.wrap (k:Int) = k:=by rw [IntKind.wrap_u8];omega
 have c2:IntKind.u8.wrap (st:Int) = st:=by rw [IntKind.wrap_u8];omega
 have c3:IntKind.u8.wrap (bf:Int) = bf:=by rw [IntKind.wrap_u8];omega
 have c4:IntKind.u8.wrap (pr:Int) = pr:=by rw [IntKind.wrap_u8];omega
 have c5:IntKind.u8.wrap (pk:Int) = pk:=by rw [IntKind.wrap_u8];omega
 have c8:IntKind.u8.wrap (q:Int) = q:=by rw [IntKind.wrap_u8];omega
 refine hid6 ?_ hCat hm0 hR hq hr hlen;clear hCat hm0 hR hq hr hlen;intro hCat hm0 hR hq hr hlen;go_enter Tryz.func57,Tryz.ntmps57;go_wp2_with fail;have hC:=hCat.out _ (hm0.out [.slice xa q xc,.int .i64 k,.int .i64 st,.int .i64 bf,.int .i64 pr,.slice ya r yc,.int .i64 pk,.int .i64 ob]);simp only [World.size_alloc,u8s,List.map_cons,List.map_nil,Int.natCast_ediv,Int.natCast_emod,Int.cast_ofNat_Int] at hC;refine hC.mono ?_;rintro x w1 hx;rw [← hR.out] at hx;obtain ⟨va,vc,rfl,ho,hm⟩:=hx;have hfin:R (.returned (.slice va (enB { kind:=k,st:=st,bf:=bf,pr:=pr,pk:=pk,ob:=ob,aid:=aid,dom:=dom }).length vc)) w1:=by rw [← hR.out];exact ⟨va,vc,rfl,ho,hm⟩
 generalize (enB { kind:=k,st:=st,bf:=bf,pr:=pr,pk:=pk,ob:=ob,aid:=aid,dom:=dom }).length = L at *;clear ho hm hR hC;replace hfin:=Lib.hid hfin;go_wp2;exact hfin.out
end Go.Proofs.YthmahbfmfpjjcaaGreat
