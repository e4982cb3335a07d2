/-
  Data objects: the reference's Encode of a flat list.
-/
import Derived.Test.YtanioleniadhoaaGreatAK25
import Derived.Test.YtanioleniadhoaaGreatARd
set_option linter.unusedVariables false
set_option linter.unusedSimpArgs false
set_option maxHeartbeats 8000000
set_option maxRecDepth 100000
namespace Go.Proofs.YtanioleniadhoaaGreat
open Go.RowKit
open Jn Tk
attribute [local go_sem] Oper.semAt_some
section
variable (w : World) {t : Nat} (h1 : 128 ≤ t) (h2 : t < 136)
include h1 h2
theorem mValid_ok:Calls Tryz.prog 259 #[.int .i64 (t:Int)] w fun e w'=>e = .returned (.bool true)∧w' = w:=by
 obtain ⟨j,hj⟩:∃ j,t = 128 + j:=⟨t - 128,by omega⟩;have g1:(t:Int).tmod 32 = (j:Int):=by rw [Int.tmod_eq_emod_of_nonneg (by omega)];omega
 have g2:((j:Int) != 31) = true:=by simp;omega
 replace hj:=Lib.hid hj;go_enter Tryz.func259,Tryz.ntmps259;go_wp2;go_ret;exact ⟨by first | rfl | simp [*],rfl⟩
theorem mFirst_ok:Calls Tryz.prog 260 #[.int .i64 (t:Int)] w fun e w'=>e = .returned (.int .i64 (t:Int))∧w' = w:=by
 go_enter Tryz.func260,Tryz.ntmps260;go_wp2;go_ret;exact ⟨rfl,rfl⟩
theorem mCons_ok:Calls Tryz.prog 215 #[.int .i64 (t:Int)] w fun e w'=>e = .returned (.bool false)∧w' = w:=by
 have hV:=mValid_ok w h1 h2;have hF:=mFirst_ok w h1 h2;have g1:(t:Int).tdiv 32 = 4:=by rw [Int.tdiv_eq_ediv_of_nonneg (by omega)];omega
 have g2:(4:Int).tmod 2 = 0:=rfl;refine hid2 ?_ hV hF;clear hV hF;intro hV hF;go_enter Tryz.func215,Tryz.ntmps215;go_wp2_with fail;refine (hV.out).mono ?_;rintro e w1 ⟨rfl,rfl⟩;go_wp2_with fail;refine (hF.out).mono ?_;rintro e w1 ⟨rfl,rfl⟩;go_wp2;go_ret;exact ⟨by first | rfl | simp [*],rfl⟩
end
theorem mright_ok {w:World} {v:Value} {xs:List Ox} (h:TSl w v xs):Calls Tryz.prog 214 #[v,.int .i64 1] w fun e w'=>e = .returned (.bool true)∧Mod Nowhere w w':=by
 obtain ⟨a,vc,rfl,h1,h2,_⟩:=h.sl.gen;have hfew:=h.few;have hV:=fun W t h1 h2=>mValid_ok W (t:=t) h1 h2;have hC:=fun W t h1 h2=>mCons_ok W (t:=t) h1 h2;refine hid3 ?_ h hV hC;clear h hV hC;intro h hV hC;go_enter Tryz.func214,Tryz.ntmps214;go_wp2
 go_loopw [5] (fun i wr=>∃ k:Nat,k≤xs.length∧i = .int .i64 k∧Mod Nowhere w wr) (fun i _=>xs.length - (intOf i).toNat)
 case atStart=>exact ⟨0,by omega,rfl,Mod.refl _ _⟩
 case round =>
  obtain ⟨k,hk,rfl,hm⟩:=hrel;by_cases hlt:k < xs.length
  ·obtain ⟨b,off,cap',xa,xc,e0,_,_,e3,hX⟩:=h.out.at_ hlt;obtain ⟨hb,c1,c2,c3⟩:=hX wr hm;obtain ⟨t1,t2⟩:=h.out.tag xs[k] (List.getElem_mem hlt)
   obtain ⟨rfl,rfl⟩:a = some ⟨b,off,none⟩∧vc = cap':=by
    simp at e0;exact ⟨e0.1,e0.2⟩
   clear hX;generalize xs[k].2.2.length = q at *;generalize xs[k].2.1 = o at *;have hVo:=fun W=>hV.out W o t1 t2;have hCo:=fun W=>hC.out W o t1 t2;have hma:Mod Nowhere w (wr.alloc (.cells #[.int .i64 (o:Int),.slice xa q xc,.slice none 0 0] 140)):=hm.alloc _;refine hid5 ?_ e3 hm hVo hCo hma;clear e3 hm hVo hCo hma;intro e3 hm hVo hCo hma;clear hV hC;go_wp2_with fail;refine (hVo.out _).mono ?_;rintro e w3 ⟨rfl,rfl⟩;go_wp2_with fail;refine (hCo.out _).mono ?_;rintro e w4 ⟨rfl,rfl⟩;go_wp2;go_roundw
   case rel=>exact ⟨k + 1,by omega,by go_num,hma.out⟩
   case measure=>simp [intOf];omega
  ·obtain rfl:k = xs.length:=by omega
   replace hm:=Lib.hid hm;go_wp2;go_ret;exact ⟨rfl,hm.out⟩
theorem mRight_ok {w:World} {v:Value} {xs:List Ox} (h:TSl w v xs):Calls Tryz.prog 152 #[v] w fun e w'=>e = .returned (.bool true)∧Mod Nowhere w w':=by
 have hR:=mright_ok h;obtain ⟨a,vc,rfl,h1,h2,_⟩:=h.sl.gen;clear h;replace hR:=Lib.hid hR;go_enter Tryz.func152,Tryz.ntmps152;go_wp2_with fail;refine (hR.out).mono ?_;rintro e w1 ⟨rfl,hm⟩;replace hm:=Lib.hid hm;go_wp2;go_ret;exact ⟨rfl,hm.out⟩
theorem mhead_ok (w:World) {t:Nat} (h1:128≤t) (h2:t < 136) {n:Nat} (hn:n < 256):Calls Tryz.prog 216 #[.int .i64 (t:Int),.int .i64 (n:Int)] w fun e w'=>∃ a c,e = .returned (.slice a (1 + (lenB n).length) c)∧DSl w' (.slice a (1 + (lenB n).length) c) (t :: lenB n)∧Mod Nowhere w w':=by
 have hb1:∀ (W:World) (l:List Nat),l.length≤3→DSl (W.alloc (.cells (u8s l).toArray 5)) (.slice (some ⟨W.heap.size,0,none⟩) l.length l.length) l:=fun W l hl=>sl_whole (sz:=1) (n:=l.length) (Blk.new W (u8s l) 5) (by simp [u8s]) (by unfold maxLen;omega);have hm1:∀ (W:World) (l:List Nat),Mod Nowhere W (W.alloc (.cells (u8s l).toArray 5)):=fun W l=>(Mod.refl _ W).alloc _;have ha1:=hm1 w [t];obtain ⟨va,vc,w2,r1,ho1,hm2⟩:=append_src (World.ownsRow_nil (w.alloc (.cells (u8s [t]).toArray 5)) w.heap.size 5 1) (hb1 w [t] (show 1≤3 by decide)).src (show 1≤1099511627776 by decide) ha1.size 22;have hmA:Mod Nowhere w w2:=ha1.step hm2 fun i hi e=>by have e:w.heap.size≤i:=e;omega
 have ha2:=hm1 w2 (lenB n);have hll:=lenB_le n;obtain ⟨vb,vd,w3,r2,ho2,hm3⟩:=append_to (l:=[t]) (d:=lenB n) rfl (owns_mod ho1 ha2 (fun _ _ e=>e)) (hb1 w2 (lenB n) hll).src (by show 1 + (lenB n).length≤_;omega) (hmA.trans ha2).size 22;have hmF:Mod Nowhere w w3:=(hmA.trans ha2).step hm3 fun i hi e=>by have e:w.heap.size≤i:=e;omega
 have hf:DSl w3 (.slice vb (1 + (lenB n).length) vd) (t :: lenB n):=DSl.own ho2 (by rw [List.length_cons];show _ = [t].length + _;simp [Nat.add_comm]);have ht8:(t:Int).tmod 256 = (t:Int):=by rw [Int.tmod_eq_emod_of_nonneg (by omega)];omega
 have ht9:(t:Int) % 256 = t:=by omega
 have hn9:=u8_mod hn;have hu1:(u8s [t]).toArray = #[.int .u8 (t:Int)]:=rfl;rw [hu1] at r1;have gn:(n:Int) < 256:=by omega
 clear hb1 hm1 ha1 ho1 hm2 ha2 ho2 hm3 hu1;by_cases hx:n < 128
 ·have hlb:lenB n = [n]:=by unfold lenB;rw [if_pos hx]
  rw [hlb] at r2 hf ⊢;have hu2:(u8s [n]).toArray = #[.int .u8 (n:Int)]:=rfl;rw [hu2] at r2;have gx:¬ (128:Int)≤(n:Int):=by omega
  have gy:¬ (256:Int)≤(n:Int):=by omega
  refine hid4 ?_ hmA hmF hf hlb;clear hmA hmF hf hlb;intro hmA hmF hf hlb;go_enter Tryz.func216,Tryz.ntmps216
  go_wp2_with (at_builtin;refine Lib.wpList_append_run _ rfl _ _ _ _ rfl _ _ (by rfl) (by rfl) _ _ (by first | exact r1 | exact r2) ?_)
  go_ret;exact ⟨_,_,rfl,hf.out,hmF.out⟩
 ·have hlb:lenB n = [129,n]:=by unfold lenB;rw [if_neg hx,if_pos hn]
  rw [hlb] at r2 hf ⊢;have hu2:(u8s [129,n]).toArray = #[.int .u8 129,.int .u8 (n:Int)]:=rfl;rw [hu2] at r2;have gx:(128:Int)≤(n:Int):=by omega
  have gy:¬ (256:Int)≤(n:Int):=by omega
  refine hid4 ?_ hmA hmF hf hlb;clear hmA hmF hf hlb;intro hmA hmF hf hlb;go_enter Tryz.func216,Tryz.ntmps216
  go_wp2_with (at_builtin;refine Lib.wpList_append_run _ rfl _ _ _ _ rfl _ _ (by rfl) (by rfl) _ _ (by first | exact r1 | exact r2) ?_)
  go_ret;exact ⟨_,_,rfl,hf.out,hmF.out⟩
theorem mall_ok {w:World} {v:Value} {xs:List Ox} (h:TSl w v xs):Calls Tryz.prog 153 #[v] w fun e w'=>∃ r,e = .returned (.tuple #[r,.bool true])∧DSl w' r (encL (xs.map (·.2)))∧Mod Nowhere w w':=by
 obtain ⟨a,vc,rfl,h1,h2,_⟩:=h.sl.gen;have hfew:=h.few;have hH:=fun W t h1 h2 n hn=>mhead_ok W (t:=t) h1 h2 (n:=n) hn;have hC:=fun W t h1 h2=>mCons_ok W (t:=t) h1 h2;have htk:=take_le8 h.len h.few;unfold encN at htk;refine hid4 ?_ h hH hC htk;clear h hH hC htk;intro h hH hC htk;go_enter Tryz.func153,Tryz.ntmps153;go_wp2
 go_loopw [4,5] (fun s i wr=>∃ k:Nat,k≤xs.length∧i = .int .i64 k∧wr.ownsRow w.heap.size 5 1 s (encL ((xs.take k).map (·.2))).length (u8s (encL ((xs.take k).map (·.2))))∧Mod Nowhere w wr) (fun _ i _=>xs.length - (intOf i).toNat)
 case atStart=>exact ⟨0,by omega,rfl,World.ownsRow_nil _ _ _ _,Mod.refl _ _⟩
 case round =>
  obtain ⟨k,hk,rfl,hown,hm⟩:=hrel;by_cases hlt:k < xs.length
  ·obtain ⟨b,off,cap',xa,xc,e0,_,_,e3,hX⟩:=h.out.at_ hlt;obtain ⟨hb,c1,c2,c3⟩:=hX wr hm;have hl:=h.out.len xs[k] (List.getElem_mem hlt);have hv:=h.out.data xs[k] (List.getElem_mem hlt);rw [e3] at hv;obtain ⟨t1,t2⟩:=h.out.tag xs[k] (List.getElem_mem hlt)
   obtain ⟨rfl,rfl⟩:a = some ⟨b,off,none⟩∧vc = cap':=by
    simp at e0;exact ⟨e0.1,e0.2⟩
   have hs:encL ((xs.take (k + 1)).map (·.2)) = encL ((xs.take k).map (·.2)) ++ (xs[k].2.1 :: lenB xs[k].2.2.length) ++ xs[k].2.2:=by
    rw [enc_take1 hlt];unfold encO;simp
   have hk1:=htk.out (k + 1);have hk0:=htk.out k;obtain ⟨va,vcc,rfl,-⟩:=owns_form hown
   generalize hE2:encL ((xs.take (k + 1)).map (·.2)) = E2 at *
   generalize encL ((xs.take k).map (·.2)) = E at *
   generalize xs[k].2.2 = D at *;generalize xs[k].2.1 = o at *;have hCo:=fun W=>hC.out W o t1 t2;have hHo:=fun W=>hH.out W o t1 t2 D.length (by omega)
   have hl2:E2.length = E.length + (1 + (lenB D.length).length) + D.length:=by
    rw [hs,List.length_append,List.length_append,List.length_cons];omega
   generalize hlb:lenB D.length = lb at *;have hcx:wr.cell? ⟨b,off + k * 3 + 1,none⟩ = some (.slice xa D.length xc):=c2;refine hid10 ?_ e3 hm hs hCo hHo hv hE2 hown hl2 hlb;clear e3 hm hs hCo hHo hv hE2 hown hl2 hlb;intro e3 hm hs hCo hHo hv hE2 hown hl2 hlb;clear hH htk hC hX;go_wp2_with fail;refine (hCo.out _).mono ?_;rintro e w3 ⟨rfl,rfl⟩;go_wp2_with fail;refine (hHo.out _).mono ?_;rintro e w4 ⟨ha,hc,rfl,hd4,hm4⟩;have hown4:=owns_mod hown.out hm4 (fun _ _ e=>e);have hm04:=hm.out.trans hm4;have hl2':=hl2.out;have hll:(o :: lb).length = 1 + lb.length:=by rw [List.length_cons,Nat.add_comm]
   obtain ⟨va5,vc5,w5,r5,ho5,hm5⟩:=append_to (l:=E) (d:=o :: lb) rfl hown4 hd4.src (by rw [hll];omega) hm04.size 22;have hm05:Mod Nowhere w w5:=hm04.step hm5 fun i hi e=>by have e:w.heap.size≤i:=e;omega
   obtain ⟨va6,vc6,w6,r6,ho6,hm6⟩:=append_to (l:=E ++ (o :: lb)) (d:=D) (List.length_append ..) ho5 (hv.out.fresh hm05) (by rw [hll];omega) hm05.size 22;have hm06:Mod Nowhere w w6:=hm05.step hm6 fun i hi e=>by have e:w.heap.size≤i:=e;omega
   rw [← hs.out] at ho6;rw [hll] at r5 r6 ho6;rw [← hl2'] at r6 ho6;clear hown4 hd4 hm04 ho5 hm5 hm05 hm6 hll hs hl2 hl2' hlb;have g4:¬ (4096:Int) < (D.length:Int):=by omega
   have g5:¬ (4096:Int) < (E2.length:Int):=by omega
   generalize D.length = q at *;generalize hel:E.length = el at *;generalize lb.length = ll at *;generalize hel2:E2.length = el2 at *;refine hid5 ?_ ho6 hm06 hel hel2 hm4;clear ho6 hm06 hel hel2 hm4;intro ho6 hm06 hel hel2 hm4;clear hown
   go_wp2_with (at_builtin;refine Lib.wpList_append_run _ rfl _ _ _ _ rfl _ _ (by rfl) (by rfl) _ _ (by first | exact r5 | exact r6) ?_)
   go_roundw
   case rel=>exact ⟨k + 1,by omega,by go_num,by rw [hE2.out,hel2.out];exact ho6.out,hm06.out⟩
   case measure=>simp [intOf];omega
  ·obtain rfl:k = xs.length:=by omega
   rw [List.take_length] at hown;obtain ⟨va,vcc,rfl,-⟩:=owns_form hown;have hd:=DSl.own hown rfl;refine hid3 ?_ hm hd hown;clear hm hd hown;intro hm hd hown;go_wp2
   go_ret2
   exact ⟨_,rfl,hd.out,hm.out⟩
theorem mEncode_ok {w:World} {v:Value} {xs:List Ox} (h:TSl w v xs):Calls Tryz.prog 79 #[v] w fun e w'=>∃ r,e = .returned (.tuple #[r,errno 0])∧DSl w' r (encL (xs.map (·.2)))∧Mod Nowhere w w':=by
 have hV:=mRight_ok h;have hE:=fun W (hm:Mod Nowhere w W)=>mall_ok (h.fresh hm);obtain ⟨a,vc,rfl,h1,h2,_⟩:=h.sl.gen
 generalize encL (xs.map (·.2)) = E at *
 clear h;refine hid2 ?_ hV hE;clear hV hE;intro hV hE;go_enter Tryz.func79,Tryz.ntmps79;go_wp2_with fail;refine (hV.out).mono ?_;rintro e w1 ⟨rfl,hm1⟩;replace hm1:=Lib.hid hm1;go_wp2_with fail;refine (hE.out _ hm1.out).mono ?_;rintro e w3 ⟨r,rfl,hd,hm3⟩;obtain ⟨ra,rc,rfl,-⟩:=id hd.src;have hm03:=hm1.out.trans hm3;generalize E.length = en at *;refine hid3 ?_ hd hm03 hm3;clear hd hm03 hm3;intro hd hm03 hm3;go_wp2
 go_ret2
 exact ⟨_,rfl,hd.out,hm03.out⟩
theorem objsV_cons (t:Nat) (v:Value × List Nat) (r:List (Value × List Nat)):objsV t (v :: r) = one1 t v ++ objsV (t + 1) r:=by
 show (if v.2 = [] then objsV (t + 1) r else (v.1,(t,v.2)) :: objsV (t + 1) r) = _
 unfold one1
 split <;> rfl
section
variable {w : World} {kv v : Value} {key d : List Nat} {x : RqV}
theorem mSome_ok (w:World) {t:Nat} (ht:t < 1000) {a:Option Addr} {c:Nat} (d:List Nat):Calls Tryz.prog 78 #[.int .i64 (t:Int),.slice a d.length c] w fun e w'=>∃ b n k,e = .returned (.slice b n k)∧n = (one1 t (.slice a d.length c,d)).length∧Sl w' (.slice b n k) 140 3 n (oCs (one1 t (.slice a d.length c,d)))∧Mod Nowhere w w':=by
 unfold one1;by_cases h0:d = []
 ·subst h0;go_enter Tryz.func78,Tryz.ntmps78;go_wp2;go_ret;exact ⟨_,_,_,rfl,rfl,Sl.nil _ _ _,Mod.refl _ _⟩
 ·have hq:¬ d.length = 0:=fun e=>h0 (List.eq_nil_of_length_eq_zero e);simp only [if_neg h0];have hb:Sl (w.alloc (.cells #[.int .i64 (t:Int),.slice a d.length c,.slice none 0 0] 140)) (.slice (some ⟨w.heap.size,0,none⟩) 1 1) 140 3 1 (oCs [(.slice a d.length c,(t,d))]):=sl_whole (sz:=3) (n:=1) (Blk.new w [.int .i64 (t:Int),.slice a d.length c,.slice none 0 0] 140) rfl (by decide);have hm:Mod Nowhere w (w.alloc (.cells #[.int .i64 (t:Int),.slice a d.length c,.slice none 0 0] 140)):=(Mod.refl _ w).alloc _;generalize oCs [(Value.slice a d.length c,(t,d))] = OC at *
  clear h0;generalize d.length = q at *;have hqi:¬ (q:Int) = 0:=by omega
  refine hid2 ?_ hb hm;clear hb hm;intro hb hm;go_enter Tryz.func78,Tryz.ntmps78;go_wp2;go_ret;exact ⟨_,_,_,rfl,rfl,hb.out,hm.out⟩
structure EnW (w W:World) (v:Value) (ys:List Ox) (ds:List (Value × List Nat)):Prop where
 own:W.ownsRow w.heap.size 140 3 v ys.length (oCs ys)
 keep:∀ p ∈ ds,DSl W p.1 p.2
 md:Mod Nowhere w W
theorem EnW.fresh {w W W':World} {v:Value} {ys:List Ox} {ds:List (Value × List Nat)} (h:EnW w W v ys ds) (hm:Mod Nowhere W W'):EnW w W' v ys ds:=⟨owns_mod h.own hm (fun _ _ e=>e),fun p hp=>(h.keep p hp).fresh hm,h.md.trans hm⟩
theorem one_one1 {t:Nat} {a:Option Addr} {n c:Nat} (d:List Nat):∀ u ∈ oCs (one1 t (.slice a n c,d)),u.oneCell' = true:=by
 intro u hu;unfold one1 at hu
 split at hu
 ·cases hu
 ·simp only [oCs,oC,List.flatMap_cons,List.flatMap_nil,List.append_nil,List.mem_cons,List.not_mem_nil,or_false] at hu;rcases hu with rfl | rfl | rfl <;> rfl
theorem one1_le (t:Nat) (v:Value × List Nat):(one1 t v).length≤1:=by
 unfold one1
 split
 ·exact Nat.zero_le _
 ·exact Nat.le_refl _
theorem EnW.add {w W:World} {v:Value} {ys:List Ox} {ds:List (Value × List Nat)} (h:EnW w W v ys ds) {t:Nat} {a ub:Option Addr} {c n k:Nat} {d:List Nat} (hn:n = (one1 t (.slice a d.length c,d)).length) (hs:Sl W (.slice ub n k) 140 3 n (oCs (one1 t (.slice a d.length c,d)))) (hl:ys.length≤100) :
  ∃ va vc W2,(Builtin.append_ #[137,137] 137 #[v,.slice ub n k]).run Tryz.prog W = .ok (.slice va (ys ++ one1 t (.slice a d.length c,d)).length vc) W2∧EnW w W2 (.slice va (ys ++ one1 t (.slice a d.length c,d)).length vc) (ys ++ one1 t (.slice a d.length c,d)) ds:=by
 obtain ⟨i0,hi0,hz0,hz1,hz2⟩:=info_parts info_tlv;have hone:=one_one1 (t:=t) (a:=a) (n:=d.length) (c:=c) d;have h1:=one1_le t (.slice a d.length c,d);have hcl:=oCs_len (one1 t (.slice a d.length c,d));generalize one1 t (.slice a d.length c,d) = zs at *;subst hn;by_cases h0:zs.length = 0
 ·have:zs = []:=List.eq_nil_of_length_eq_zero h0;subst this;obtain ⟨b,cap,rfl,hc⟩:=owns_form h.own;rw [List.append_nil];exact ⟨b,cap,W,run_append_empty (P:=Tryz.prog) W 137 137 140 i0 Tryz.underlying137 hi0 b ub ys.length cap k hc,h⟩
 ·obtain ⟨b,off,cap,e,hb,-,-,hcs,-⟩:=hs.open (by omega);simp at e;obtain ⟨rfl,-⟩:=e
  have hnews:∀ j u,(oCs zs)[j]? = some u→W.cell? ((⟨b,off,none⟩:Addr).add j) = some u:=fun j u hj=>by
   have hjl:=(List.getElem?_eq_some_iff.1 hj).1;rw [add_lit,hcs j (by omega),gd0,hj];rfl
  obtain ⟨g,gc,w',hr,ho,hg,_,_⟩:=run_append_lies (P:=Tryz.prog) W 137 137 w.heap.size 140 i0 (.agg #[.int .i64 0,.slice none 0 0,.slice none 0 0]) 3 56 Tryz.underlying137 hi0 hz0 hz1 hz2 rfl (by decide) v ys.length (oCs ys) h.own ⟨b,off,none⟩ zs.length k (oCs zs) (by omega) hnews hone (by omega) (by unfold maxLen;omega) (by omega) h.md.size _ rfl;have hmo:Mod (Own1 v) W w':=Mod.own1 hg;rw [← oCs_append] at ho;rw [← List.length_append] at hr ho;refine ⟨_,gc,w',hr,ho,fun p hp=>DSl.mod (h.keep p hp) hmo (fun j hj cs hb=>?_),h.md.step hmo fun i hi e=>by have:=Own1.above h.own i e;omega⟩;obtain ⟨cs',hb'⟩:=Own1.blk h.own j hj
  exact absurd (hb.inj hb').2 (by decide)
theorem EnW.add1 {w W:World} {v:Value} {ys:List Ox} {ds:List (Value × List Nat)} (h:EnW w W v ys ds) {t:Nat} {a ub:Option Addr} {c n k:Nat} {d:List Nat} (hn:n = (one1 t (.slice a d.length c,d)).length) (hs:Sl W (.slice ub n k) 140 3 n (oCs (one1 t (.slice a d.length c,d)))) (hl:ys.length≤100) :
  ∃ (Y:List Ox) (va:Option Addr) (vc:Nat) (W2:World),Y = ys ++ one1 t (.slice a d.length c,d)∧Y.length≤ys.length + 1∧(Builtin.append_ #[137,137] 137 #[v,.slice ub n k]).run Tryz.prog W = .ok (.slice va Y.length vc) W2∧EnW w W2 (.slice va Y.length vc) Y ds:=by
 obtain ⟨va,vc,W2,r,h2⟩:=h.add hn hs hl;refine ⟨_,va,vc,W2,rfl,?_,r,h2⟩;have:=one1_le t (.slice a d.length c,d);rw [List.length_append];omega
theorem EnW.add2 {w W:World} {v:Value} {ys:List Ox} {ds:List (Value × List Nat)} (h:EnW w W v ys ds) {t:Nat} {a ub:Option Addr} {c n k:Nat} {d:List Nat} {N:List Ox} (hN:one1 t (.slice a d.length c,d) = N) (hn:n = N.length) (hs:Sl W (.slice ub n k) 140 3 n (oCs N)) (hl:ys.length≤100) :
  ∃ (Y:List Ox) (va:Option Addr) (vc:Nat) (W2:World),Y = ys ++ N∧Y.length≤ys.length + 1∧(Builtin.append_ #[137,137] 137 #[v,.slice ub n k]).run Tryz.prog W = .ok (.slice va Y.length vc) W2∧EnW w W2 (.slice va Y.length vc) Y ds:=by
 subst hN;exact h.add1 hn hs hl
theorem EnW.more {w W:World} {v u:Value} {ys:List Ox} {d:List Nat} {ds:List (Value × List Nat)} (h:EnW w W v ys ds) (hd:DSl W u d):EnW w W v ys ((u,d) :: ds):=⟨h.own,fun p hp=>by
 rcases List.mem_cons.1 hp with rfl | hp
 ·exact hd
 ·exact h.keep p hp,h.md⟩
theorem rEncode38_ok (h:RqAt w x):Calls Tryz.prog 20 #[.agg x.cells.toArray] w (BPost w (encR x.r)):=by
 obtain ⟨a1,c1,a2,c2,a3,c3,a4,c4,a6,c6,a7,c7,e1,e2,e3,e4,e6,e7,ec⟩:=h.cut;have hm0:Mod Nowhere w (w.alloc (.cells x.cells.toArray 24)):=(Mod.refl _ w).alloc _;have hbx:=rq_box (w:=w) x.cells;have hC:=rCheck38_ok (h.fresh hm0);have hl1:=chk_le x.r;rw [ec] at hm0 hbx hC ⊢;obtain ⟨y0,y1,y2,y3,y4,y5,y6,y7,yl⟩:=rq_cells (hbx _ (Mod.refl _ _));by_cases hk:x.r.chk = 0
 ·have hok:=Rq.chk_ok hk;have hR:encR x.r = (0,x.r.enc):=by unfold encR;rw [if_pos hk]
  rw [hR];rw [hk] at hC;obtain ⟨act,hact⟩:∃ n:Nat,x.r.act = n:=⟨x.r.act.toNat,by have:=hok.a1;omega⟩;obtain ⟨prv,hprv⟩:∃ n:Nat,x.r.prv = n:=⟨x.r.prv.toNat,by have:=hok.p0;omega⟩;have ha4:=hok.a4;have hp31:=hok.p31;have hvl:=Rq.vals_len hok
  have hvb:=Rq.vals_by hok h.by
  have hxs:∀ va vp,[(va,[act]),(Value.slice a1 x.r.dom.length c1,x.r.dom),(.slice a2 x.r.pac.length c2,x.r.pac),(.slice a3 x.r.app.length c3,x.r.app),(.slice a4 x.r.dst.length c4,x.r.dst),(vp,if prv = 0 then [] else [prv]),(.slice a6 x.r.par.length c6,x.r.par),(.slice a7 x.r.hsh.length c7,x.r.hsh)].map (·.2) = x.r.vals:=fun va vp=>by
   unfold Rq.vals;rw [hact,hprv];simp
  have hxv:∀ va vp,∀ y ∈ [(va,[act]),(Value.slice a1 x.r.dom.length c1,x.r.dom),(.slice a2 x.r.pac.length c2,x.r.pac),(.slice a3 x.r.app.length c3,x.r.app),(.slice a4 x.r.dst.length c4,x.r.dst),(vp,if prv = 0 then [] else [prv]),(.slice a6 x.r.par.length c6,x.r.par),(.slice a7 x.r.hsh.length c7,x.r.hsh)],y.2 ∈ x.r.vals:=fun va vp y hy=>by
   rw [← hxs va vp];exact List.mem_map.2 ⟨y,hy,rfl⟩
  have hsrc:∀ W va vp,Mod Nowhere w W→Src W va [act]→Src W vp (if prv = 0 then [] else [prv])→∀ y ∈ [(va,[act]),(Value.slice a1 x.r.dom.length c1,x.r.dom),(.slice a2 x.r.pac.length c2,x.r.pac),(.slice a3 x.r.app.length c3,x.r.app),(.slice a4 x.r.dst.length c4,x.r.dst),(vp,if prv = 0 then [] else [prv]),(.slice a6 x.r.par.length c6,x.r.par),(.slice a7 x.r.hsh.length c7,x.r.hsh)],Src W y.1 y.2:=fun W va vp hm sa sp y hy=>by
   obtain ⟨s1,s2,s3,s4,s6,s7,-⟩:=h.fresh hm;rw [e1] at s1;rw [e2] at s2;rw [e3] at s3;rw [e4] at s4;rw [e6] at s6;rw [e7] at s7;simp only [List.mem_cons,List.not_mem_nil,or_false] at hy;rcases hy with rfl | rfl | rfl | rfl | rfl | rfl | rfl | rfl
   ·exact sa
   ·exact s1
   ·exact s2
   ·exact s3
   ·exact s4
   ·exact sp
   ·exact s6
   ·exact s7
  have hdn:x.r.dom ≠ []:=fun e=>by
   have:=hok.nd.1;rw [e] at this;simp at this
  have hys:∀ va vp,[(va,(128,[act])),(Value.slice a1 x.r.dom.length c1,(129,x.r.dom))] ++ one1 130 (Value.slice a2 x.r.pac.length c2,x.r.pac) ++ one1 131 (Value.slice a3 x.r.app.length c3,x.r.app) ++ one1 132 (Value.slice a4 x.r.dst.length c4,x.r.dst) ++ one1 133 (vp,if prv = 0 then [] else [prv]) ++ one1 134 (Value.slice a6 x.r.par.length c6,x.r.par) ++ one1 135 (Value.slice a7 x.r.hsh.length c7,x.r.hsh) = objsV 128 [(va,[act]),(Value.slice a1 x.r.dom.length c1,x.r.dom),(.slice a2 x.r.pac.length c2,x.r.pac),(.slice a3 x.r.app.length c3,x.r.app),(.slice a4 x.r.dst.length c4,x.r.dst),(vp,if prv = 0 then [] else [prv]),(.slice a6 x.r.par.length c6,x.r.par),(.slice a7 x.r.hsh.length c7,x.r.hsh)]:=fun va vp=>by
   have o0:one1 128 (va,[act]) = [(va,(128,[act]))]:=rfl;have o1:one1 129 (Value.slice a1 x.r.dom.length c1,x.r.dom) = [(Value.slice a1 x.r.dom.length c1,(129,x.r.dom))]:=by unfold one1;rw [if_neg hdn]
   simp only [objsV_cons,o0,o1];simp [objsV]
  have hT:∀ W va vp v,Mod Nowhere w W→DSl W va [act]→DSl W vp (if prv = 0 then [] else [prv])→Sl W v 140 3 (objsV 128 [(va,[act]),(Value.slice a1 x.r.dom.length c1,x.r.dom),(.slice a2 x.r.pac.length c2,x.r.pac),(.slice a3 x.r.app.length c3,x.r.app),(.slice a4 x.r.dst.length c4,x.r.dst),(vp,if prv = 0 then [] else [prv]),(.slice a6 x.r.par.length c6,x.r.par),(.slice a7 x.r.hsh.length c7,x.r.hsh)]).length (oCs (objsV 128 [(va,[act]),(Value.slice a1 x.r.dom.length c1,x.r.dom),(.slice a2 x.r.pac.length c2,x.r.pac),(.slice a3 x.r.app.length c3,x.r.app),(.slice a4 x.r.dst.length c4,x.r.dst),(vp,if prv = 0 then [] else [prv]),(.slice a6 x.r.par.length c6,x.r.par),(.slice a7 x.r.hsh.length c7,x.r.hsh)]))→Calls Tryz.prog 79 #[v] W fun e w''=>∃ r,e = .returned (.tuple #[r,errno 0])∧DSl w'' r x.r.enc∧Mod Nowhere W w'':=fun W va vp v hm sa sp hs=>by
   have hT:=objs_tsl hs (hsrc _ va vp hm sa.src sp.src) (fun y hy=>hvb _ (hxv va vp y hy)) (fun y hy=>hvl _ (hxv va vp y hy)) rfl;have hE:=mEncode_ok hT;rw [objsV_map,hxs va vp] at hE;exact hE
  simp only [← hys] at hT;have hfin:∀ W r,DSl W r x.r.enc→Mod Nowhere w W→BPost w (0,x.r.enc) (.returned (.tuple #[r,errno 0])) W:=fun W r hd hm=>⟨r,rfl,hd,hm⟩;have hw8:((act:Int)) % 256 = act:=by omega
  have hd1:∀ W:World,DSl (W.alloc (.cells #[.int .u8 (act:Int)] 5)) (.slice (some ⟨W.heap.size,0,none⟩) 1 1) [act]:=fun W=>sl_whole (sz:=1) (n:=1) (Blk.new W (u8s [act]) 5) rfl (by decide)
  have hst:∀ X W:World,Mod Nowhere X W→EnW X ((W.alloc (.cells #[.int .u8 (act:Int)] 5)).alloc (.cells #[.int .i64 128,.slice (some ⟨W.heap.size,0,none⟩) 1 1,.slice none 0 0,.int .i64 129,.slice a1 x.r.dom.length c1,.slice none 0 0] 140)) (.slice (some ⟨W.heap.size + 1,0,none⟩) 2 2) [(.slice (some ⟨W.heap.size,0,none⟩) 1 1,(128,[act])),(Value.slice a1 x.r.dom.length c1,(129,x.r.dom))] [(.slice (some ⟨W.heap.size,0,none⟩) 1 1,[act])]:=fun X W hm=>by
   refine ⟨⟨rfl,.inr ⟨W.heap.size + 1,2,#[.int .i64 128,.slice (some ⟨W.heap.size,0,none⟩) 1 1,.slice none 0 0,.int .i64 129,.slice a1 x.r.dom.length c1,.slice none 0 0],rfl,by have:=hm.size;omega,?_,Nat.le_refl _,by decide,rfl,rfl⟩⟩,fun p hp=>?_,(hm.alloc _).alloc _⟩
   ·have:=heap_alloc_new (W.alloc (.cells #[.int .u8 (act:Int)] 5)) (.cells #[.int .i64 128,.slice (some ⟨W.heap.size,0,none⟩) 1 1,.slice none 0 0,.int .i64 129,.slice a1 x.r.dom.length c1,.slice none 0 0] 140);simpa using this
   ·simp only [List.mem_cons,List.not_mem_nil,or_false] at hp;rw [hp];exact (hd1 W).fresh ((Mod.refl _ _).alloc _)
  rw [hact,hprv] at hm0 hbx hC y0 y1 y2 y3 y4 y5 y6 y7 yl ⊢;generalize (BPost w (0,x.r.enc)) = Q at *;clear hR hk hl1 hok hvl hvb hxs hxv hsrc e1 e2 e3 e4 e6 e7 ec h hdn hys;generalize x.r.enc = E at *;obtain ⟨w0,hw0⟩:∃ X,w.alloc (.cells #[.int .i64 (act:Int),.slice a1 x.r.dom.length c1,.slice a2 x.r.pac.length c2,.slice a3 x.r.app.length c3,.slice a4 x.r.dst.length c4,.int .i64 (prv:Int),.slice a6 x.r.par.length c6,.slice a7 x.r.hsh.length c7] 24) = X:=⟨_,rfl⟩;have hS130:=fun W:World=>(mSome_ok W (t:=130) (by decide) (a:=a2) (c:=c2) x.r.pac:Calls Tryz.prog 78 #[.int .i64 130,.slice a2 x.r.pac.length c2] W _);have hS131:=fun W:World=>(mSome_ok W (t:=131) (by decide) (a:=a3) (c:=c3) x.r.app:Calls Tryz.prog 78 #[.int .i64 131,.slice a3 x.r.app.length c3] W _)
  have hS132:=fun W:World=>(mSome_ok W (t:=132) (by decide) (a:=a4) (c:=c4) x.r.dst:Calls Tryz.prog 78 #[.int .i64 132,.slice a4 x.r.dst.length c4] W _);have hS134:=fun W:World=>(mSome_ok W (t:=134) (by decide) (a:=a6) (c:=c6) x.r.par:Calls Tryz.prog 78 #[.int .i64 134,.slice a6 x.r.par.length c6] W _);have hS135:=fun W:World=>(mSome_ok W (t:=135) (by decide) (a:=a7) (c:=c7) x.r.hsh:Calls Tryz.prog 78 #[.int .i64 135,.slice a7 x.r.hsh.length c7] W _);have hS133:=fun (W:World) g=>(mSome_ok W (t:=133) (by decide) (a:=some ⟨g,0,none⟩) (c:=1) [prv]:Calls Tryz.prog 78 #[.int .i64 133,.slice (some ⟨g,0,none⟩) 1 1] W _);have hst0:=hst (w.alloc (.cells #[.int .i64 (act:Int),.slice a1 x.r.dom.length c1,.slice a2 x.r.pac.length c2,.slice a3 x.r.app.length c3,.slice a4 x.r.dst.length c4,.int .i64 (prv:Int),.slice a6 x.r.par.length c6,.slice a7 x.r.hsh.length c7] 24))
  clear hst hw0 w0;generalize hN130:one1 130 (Value.slice a2 x.r.pac.length c2,x.r.pac) = N130 at *;generalize hN131:one1 131 (Value.slice a3 x.r.app.length c3,x.r.app) = N131 at *;generalize hN132:one1 132 (Value.slice a4 x.r.dst.length c4,x.r.dst) = N132 at *;generalize hN134:one1 134 (Value.slice a6 x.r.par.length c6,x.r.par) = N134 at *;generalize hN135:one1 135 (Value.slice a7 x.r.hsh.length c7,x.r.hsh) = N135 at *;obtain ⟨N133,hN133⟩:∃ N,one1 133 (Value.slice none 0 0,[]) = N:=⟨_,rfl⟩;generalize hd1n:x.r.dom.length = n1 at *;generalize hl130:x.r.pac.length = m130 at *
  generalize hl131:x.r.app.length = m131 at *;generalize hl132:x.r.dst.length = m132 at *;generalize hl134:x.r.par.length = m134 at *;generalize hl135:x.r.hsh.length = m135 at *;refine hid12 ?_ hm0 hbx hC hT hfin hd1 hst0 hS130 hS131 hS132 hS133 hS134;clear hm0 hbx hC hT hfin hd1 hst0 hS130 hS131 hS132 hS133 hS134;intro hm0 hbx hC hT hfin hd1 hst0 hS130 hS131 hS132 hS133 hS134;refine hid12 ?_ hS135 hN130 hN131 hN132 hN133 hN134 hN135 hl130 hl131 hl132 hl134 hl135;clear hS135 hN130 hN131 hN132 hN133 hN134 hN135 hl130 hl131 hl132 hl134 hl135;intro hS135 hN130 hN131 hN132 hN133 hN134 hN135 hl130 hl131 hl132 hl134 hl135;replace hd1n:=Lib.hid hd1n
  go_enter Tryz.func20,Tryz.ntmps20;go_wp2_with fail;refine hC.out.mono ?_;rintro e w1 ⟨rfl,hm1⟩;obtain ⟨x0,x1,x2,x3,x4,x5,x6,x7,xl⟩:=rq_cells (hbx.out w1 hm1);have hE0:=hst0.out w1 hm1;have hq0:(2:Nat)≤2:=Nat.le_refl 2;clear y0 y1 y2 y3 y4 y5 y6 y7 yl hst0 hC;generalize hY0:[(Value.slice (some ⟨w1.heap.size,0,none⟩) 1 1,(128,[act])),(Value.slice a1 n1 c1,(129,x.r.dom))] = Y0 at *;have hyl0:Y0.length≤2:=by rw [← hY0];exact Nat.le_refl 2
  refine hid3 ?_ hm1 hE0 hY0;clear hm1 hE0 hY0;intro hm1 hE0 hY0;go_wp2_with fail;refine (hS130.out _).mono ?_;rintro e wA ⟨ub,un,uk,rfl,hun,hus,hmA⟩;obtain ⟨Y130,va130,vc130,w130,hY130,hyl130x,r130,hE130⟩:=(hE0.out.fresh hmA).add2 (t:=130) (a:=a2) (c:=c2) (d:=x.r.pac) (by rw [hl130.out];exact hN130.out) hun hus (by omega);obtain ⟨z0,z1,z2,z3,z4,z5,z6,z7,zl⟩:=rq_cells (hbx.out w130 hE130.md);have hyl130:Y130.length≤3:=by omega
  clear hun hus hmA hyl130x x0 x1 x2 x3 x4 x5 x6 x7 xl;generalize hYl130:Y130.length = Yn130 at *;refine hid3 ?_ hY130 hE130 hYl130;clear hY130 hE130 hYl130;intro hY130 hE130 hYl130
  go_wp2_with (at_builtin;refine Lib.wpList_append_run _ rfl _ _ _ _ rfl _ _ (by rfl) (by rfl) _ _ r130 ?_;clear r130)
  refine (hS131.out _).mono ?_;rintro e wA ⟨ub,un,uk,rfl,hun,hus,hmA⟩;obtain ⟨Y131,va131,vc131,w131,hY131,hyl131x,r131,hE131⟩:=(hE130.out.fresh hmA).add2 (t:=131) (a:=a3) (c:=c3) (d:=x.r.app) (by rw [hl131.out];exact hN131.out) hun hus (by have:=hYl130.out;omega);obtain ⟨x0,x1,x2,x3,x4,x5,x6,x7,xl⟩:=rq_cells (hbx.out w131 hE131.md);have hyl131:Y131.length≤4:=by have:=hYl130.out;omega
  clear hun hus hmA hyl131x z0 z1 z2 z3 z4 z5 z6 z7 zl;generalize hYl131:Y131.length = Yn131 at *;refine hid3 ?_ hY131 hE131 hYl131;clear hY131 hE131 hYl131;intro hY131 hE131 hYl131
  go_wp2_with (at_builtin;refine Lib.wpList_append_run _ rfl _ _ _ _ rfl _ _ (by rfl) (by rfl) _ _ r131 ?_;clear r131)
  refine (hS132.out _).mono ?_;rintro e wA ⟨ub,un,uk,rfl,hun,hus,hmA⟩;obtain ⟨Y132,va132,vc132,w132,hY132,hyl132x,r132,hE132⟩:=(hE131.out.fresh hmA).add2 (t:=132) (a:=a4) (c:=c4) (d:=x.r.dst) (by rw [hl132.out];exact hN132.out) hun hus (by have:=hYl131.out;omega);obtain ⟨z0,z1,z2,z3,z4,z5,z6,z7,zl⟩:=rq_cells (hbx.out w132 hE132.md);have hyl132:Y132.length≤5:=by have:=hYl131.out;omega
  clear hun hus hmA hyl132x x0 x1 x2 x3 x4 x5 x6 x7 xl;generalize hYl132:Y132.length = Yn132 at *;refine hid3 ?_ hY132 hE132 hYl132;clear hY132 hE132 hYl132;intro hY132 hE132 hYl132;by_cases hp0:prv = 0
  ·subst hp0;have hpz:(((0:Nat):Int) != 0) = false:=rfl;have h133:N133 = []:=hN133.out.symm
   go_wp2_with (at_builtin;refine Lib.wpList_append_run _ rfl _ _ _ _ rfl _ _ (by rfl) (by rfl) _ _ r132 ?_;clear r132)
   refine (hS134.out _).mono ?_;rintro e wA ⟨ub,un,uk,rfl,hun,hus,hmA⟩;obtain ⟨Y134,va134,vc134,w134,hY134,hyl134x,r134,hE134⟩:=(hE132.out.fresh hmA).add2 (t:=134) (a:=a6) (c:=c6) (d:=x.r.par) (by rw [hl134.out];exact hN134.out) hun hus (by have:=hYl132.out;omega);obtain ⟨x0,x1,x2,x3,x4,x5,x6,x7,xl⟩:=rq_cells (hbx.out w134 hE134.md);have hyl134:Y134.length≤6:=by have:=hYl132.out;omega
   clear hun hus hmA hyl134x z0 z1 z2 z3 z4 z5 z6 z7 zl;generalize hYl134:Y134.length = Yn134 at *;refine hid3 ?_ hY134 hE134 hYl134;clear hY134 hE134 hYl134;intro hY134 hE134 hYl134
   go_wp2_with (at_builtin;refine Lib.wpList_append_run _ rfl _ _ _ _ rfl _ _ (by rfl) (by rfl) _ _ r134 ?_;clear r134)
   refine (hS135.out _).mono ?_;rintro e wA ⟨ub,un,uk,rfl,hun,hus,hmA⟩;obtain ⟨Y135,va135,vc135,w135,hY135,hyl135x,r135,hE135⟩:=(hE134.out.fresh hmA).add2 (t:=135) (a:=a7) (c:=c7) (d:=x.r.hsh) (by rw [hl135.out];exact hN135.out) hun hus (by have:=hYl134.out;omega);obtain ⟨z0,z1,z2,z3,z4,z5,z6,z7,zl⟩:=rq_cells (hbx.out w135 hE135.md);have hyl135:Y135.length≤7:=by have:=hYl134.out;omega
   clear hun hus hmA hyl135x x0 x1 x2 x3 x4 x5 x6 x7 xl;generalize hYl135:Y135.length = Yn135 at *;refine hid3 ?_ hY135 hE135 hYl135;clear hY135 hE135 hYl135;intro hY135 hE135 hYl135
   go_wp2_with (at_builtin;refine Lib.wpList_append_run _ rfl _ _ _ _ rfl _ _ (by rfl) (by rfl) _ _ r135 ?_;clear r135)
   have hTe:Calls Tryz.prog 79 #[.slice va135 Yn135 vc135] w135 fun e w''=>∃ r,e = .returned (.tuple #[r,errno 0])∧DSl w'' r E∧Mod Nowhere w135 w'':=by
    have hsl:=Sl.of_owns hE135.out.own;refine hT.out w135 (.slice (some ⟨w1.heap.size,0,none⟩) 1 1) (.slice none 0 0) _ (hm0.out.trans hE135.out.md) (hE135.out.keep (_,[act]) (by simp)) (by simp only [if_true];exact DSl.nil _) ?_;simp only [if_true,hN133.out,h133,List.append_nil];rw [hY0.out,← hY130.out,← hY131.out,← hY132.out,← hY134.out,← hY135.out];exact hsl
   have hmz:=hm0.out.trans hE135.out.md;refine hid2 ?_ hTe hmz;clear hTe hmz;intro hTe hmz;clear hT;refine hTe.out.mono ?_;rintro e wz ⟨r,rfl,hd,hmx⟩;have hf:=hfin.out wz r hd (hmz.out.trans hmx);refine hid3 ?_ hd hf hmx;clear hd hf hmx;intro hd hf hmx;go_wp2
   all_goals exact hf.out
  ·have hpz:(((prv:Nat):Int) != 0) = true:=by simp;exact hp0
   have hp8:((prv:Int)) % 256 = prv:=by omega
   obtain ⟨g133,hg133⟩:∃ g,w132.heap.size = g:=⟨_,rfl⟩;have hmp:Mod Nowhere w132 (w132.alloc (.cells #[.int .u8 (prv:Int)] 5)):=(Mod.refl _ w132).alloc _;have hdp:DSl (w132.alloc (.cells #[.int .u8 (prv:Int)] 5)) (.slice (some ⟨w132.heap.size,0,none⟩) 1 1) [prv]:=sl_whole (sz:=1) (n:=1) (Blk.new w132 (u8s [prv]) 5) rfl (by decide);have hEp:=(hE132.out.fresh hmp).more hdp;clear hg133 g133;generalize hM133:one1 133 (Value.slice (some ⟨w132.heap.size,0,none⟩) 1 1,[prv]) = M133 at *;refine hid4 ?_ hmp hdp hEp hM133;clear hmp hdp hEp hM133;intro hmp hdp hEp hM133
   go_wp2_with (at_builtin;refine Lib.wpList_append_run _ rfl _ _ _ _ rfl _ _ (by rfl) (by rfl) _ _ r132 ?_;clear r132)
   refine (hS133.out _ w132.heap.size).mono ?_;rintro e wA ⟨ub,un,uk,rfl,hun,hus,hmA⟩;rw [show [prv].length = 1 from rfl,hM133.out] at hun hus;obtain ⟨Y133,va133,vc133,w133,hY133,hyl133x,r133,hE133⟩:=(hEp.out.fresh hmA).add2 (t:=133) (a:=some ⟨w132.heap.size,0,none⟩) (c:=1) (d:=[prv]) hM133.out hun hus (by have:=hYl132.out;omega);obtain ⟨x0,x1,x2,x3,x4,x5,x6,x7,xl⟩:=rq_cells (hbx.out w133 hE133.md);have hyl133:Y133.length≤6:=by have:=hYl132.out;omega
   clear hun hus hmA hyl133x z0 z1 z2 z3 z4 z5 z6 z7 zl;generalize hYl133:Y133.length = Yn133 at *;refine hid3 ?_ hY133 hE133 hYl133;clear hY133 hE133 hYl133;intro hY133 hE133 hYl133
   go_wp2_with (at_builtin;refine Lib.wpList_append_run _ rfl _ _ _ _ rfl _ _ (by rfl) (by rfl) _ _ r133 ?_;clear r133)
   refine (hS134.out _).mono ?_;rintro e wA ⟨ub,un,uk,rfl,hun,hus,hmA⟩;obtain ⟨Y134,va134,vc134,w134,hY134,hyl134x,r134,hE134⟩:=(hE133.out.fresh hmA).add2 (t:=134) (a:=a6) (c:=c6) (d:=x.r.par) (by rw [hl134.out];exact hN134.out) hun hus (by have:=hYl133.out;omega);obtain ⟨z0,z1,z2,z3,z4,z5,z6,z7,zl⟩:=rq_cells (hbx.out w134 hE134.md);have hyl134:Y134.length≤7:=by have:=hYl133.out;omega
   clear hun hus hmA hyl134x x0 x1 x2 x3 x4 x5 x6 x7 xl;generalize hYl134:Y134.length = Yn134 at *;refine hid3 ?_ hY134 hE134 hYl134;clear hY134 hE134 hYl134;intro hY134 hE134 hYl134
   go_wp2_with (at_builtin;refine Lib.wpList_append_run _ rfl _ _ _ _ rfl _ _ (by rfl) (by rfl) _ _ r134 ?_;clear r134)
   refine (hS135.out _).mono ?_;rintro e wA ⟨ub,un,uk,rfl,hun,hus,hmA⟩;obtain ⟨Y135,va135,vc135,w135,hY135,hyl135x,r135,hE135⟩:=(hE134.out.fresh hmA).add2 (t:=135) (a:=a7) (c:=c7) (d:=x.r.hsh) (by rw [hl135.out];exact hN135.out) hun hus (by have:=hYl134.out;omega);obtain ⟨x0,x1,x2,x3,x4,x5,x6,x7,xl⟩:=rq_cells (hbx.out w135 hE135.md);have hyl135:Y135.length≤8:=by have:=hYl134.out;omega
   clear hun hus hmA hyl135x z0 z1 z2 z3 z4 z5 z6 z7 zl;generalize hYl135:Y135.length = Yn135 at *;refine hid3 ?_ hY135 hE135 hYl135;clear hY135 hE135 hYl135;intro hY135 hE135 hYl135
   go_wp2_with (at_builtin;refine Lib.wpList_append_run _ rfl _ _ _ _ rfl _ _ (by rfl) (by rfl) _ _ r135 ?_;clear r135)
   have hTe:Calls Tryz.prog 79 #[.slice va135 Yn135 vc135] w135 fun e w''=>∃ r,e = .returned (.tuple #[r,errno 0])∧DSl w'' r E∧Mod Nowhere w135 w'':=by
    have hsl:=Sl.of_owns hE135.out.own;refine hT.out w135 (.slice (some ⟨w1.heap.size,0,none⟩) 1 1) (.slice (some ⟨w132.heap.size,0,none⟩) 1 1) _ (hm0.out.trans hE135.out.md) (hE135.out.keep (_,[act]) (by simp)) (by rw [if_neg hp0];exact hE135.out.keep (_,[prv]) (by simp)) ?_;rw [if_neg hp0,hM133.out];rw [hY0.out,← hY130.out,← hY131.out,← hY132.out,← hY133.out,← hY134.out,← hY135.out];exact hsl
   have hmz:=hm0.out.trans hE135.out.md;refine hid2 ?_ hTe hmz;clear hTe hmz;intro hTe hmz;clear hT;refine hTe.out.mono ?_;rintro e wz ⟨r,rfl,hd,hmx⟩;have hf:=hfin.out wz r hd (hmz.out.trans hmx);refine hid3 ?_ hd hf hmx;clear hd hf hmx;intro hd hf hmx;go_wp2
   all_goals exact hf.out
 ·have hR:encR x.r = (x.r.chk,[]):=by unfold encR;rw [if_neg hk]
  have hfin:∀ W,Mod Nowhere w W→BPost w (encR x.r) (.returned (.tuple #[.slice none 0 0,errno (x.r.chk:Nat)])) W:=fun W hm=>by
   rw [hR];exact ⟨_,rfl,DSl.nil _,hm⟩
  have hkn:((x.r.chk:Int) != 0) = true:=by simp;exact hk
  generalize BPost w (encR x.r) = Q at *;generalize x.r.chk = ck at *;generalize x.r.dom.length = n1 at *;generalize x.r.pac.length = n2 at *;generalize x.r.app.length = n3 at *;generalize x.r.dst.length = n4 at *;generalize x.r.par.length = n6 at *;generalize x.r.hsh.length = n7 at *;generalize x.r.act = act at *;generalize x.r.prv = prv at *;clear hR hk hl1 e1 e2 e3 e4 e6 e7 ec;refine hid4 ?_ hm0 hbx hC hfin;clear hm0 hbx hC hfin;intro hm0 hbx hC hfin;go_enter Tryz.func20,Tryz.ntmps20;go_wp2_with fail;refine hC.out.mono ?_;rintro e w1 ⟨rfl,hm1⟩;have hf:=hfin.out w1 (hm0.out.trans hm1);clear y0 y1 y2 y3 y4 y5 y6 y7 yl;refine hid2 ?_ hm1 hf;clear hm1 hf;intro hm1 hf
  go_wp2
  all_goals exact hf.out
end
section
variable {w : World} {kv v : Value} {key d : List Nat} {x : RqV}
theorem rjoinb {W:World} {h:Nat} {u t:Value} {c:List Nat} (hb:Blk W h [u,t] 22) (hu:Src W u c) (ht:Src W t d) (hn:(c ++ d).length≤1000000) :
  Calls Tryz.prog 92 #[.slice (some ⟨h,0,none⟩) 2 2] W fun e w'=>∃ v,e = .returned v∧DSl w' v (c ++ d)∧Mod Nowhere W w':=by
 have hc:cat [(u,c),(t,d)] = c ++ d:=by simp [cat]
 have:=rJoin_ok (xs:=[(u,c),(t,d)]) (sl_whole (sz:=1) (n:=2) hb rfl (by decide)) (by
  intro x hx;simp only [List.mem_cons,List.not_mem_nil,or_false] at hx;rcases hx with rfl | rfl
  ·exact hu
  ·exact ht) (show 2≤1000 by decide) (by rw [hc];omega)
 rw [hc] at this;refine this.mono ?_;rintro e w' ⟨v',rfl,ho,hm⟩;exact ⟨v',rfl,DSl.own ho rfl,hm⟩
theorem rjoin2 {W:World} {u t:Value} {c:List Nat} (hu:Src W u c) (ht:Src W t d) (hn:(c ++ d).length≤1000000) :
  Calls Tryz.prog 92 #[.slice (some ⟨W.heap.size,0,none⟩) 2 2] (W.alloc (.cells #[u,t] 22)) fun e w'=>∃ v,e = .returned v∧DSl w' v (c ++ d)∧Mod Nowhere W w':=by
 have hma:Mod Nowhere W (W.alloc (.cells #[u,t] 22)):=(Mod.refl _ W).alloc _;exact (rjoinb (Blk.new W [u,t] 22) (hu.fresh hma) (ht.fresh hma) hn).mono fun e w' ⟨v,a,b,c⟩=>⟨v,a,b,hma.trans c⟩
theorem rToken_ok (hk:Src w kv key) (bk:Bytes key) (h:RqAt w x):Calls Tryz.prog 25 #[kv,.agg x.cells.toArray] w (BPost w (tknR key x.r)):=by
 obtain ⟨a1,c1,a2,c2,a3,c3,a4,c4,a6,c6,a7,c7,e1,e2,e3,e4,e6,e7,ec⟩:=h.cut;have hm0:Mod Nowhere w (w.alloc (.cells x.cells.toArray 24)):=(Mod.refl _ w).alloc _;have hbx:=rq_box (w:=w) x.cells;have hC:=rEncode38_ok (h.fresh hm0);rw [ec] at hm0 hbx hC ⊢;obtain ⟨y0,y1,y2,y3,y4,y5,y6,y7,yl⟩:=rq_cells (hbx _ (Mod.refl _ _));generalize x.r.act = act at *;generalize x.r.prv = prv at *;generalize x.r.dom.length = n1 at *;generalize x.r.pac.length = n2 at *;generalize x.r.app.length = n3 at *;generalize x.r.dst.length = n4 at *;generalize x.r.par.length = n6 at *;generalize x.r.hsh.length = n7 at *;by_cases hz:x.r.chk = 0
 ·have hE:encR x.r = (0,x.r.enc):=by unfold encR;rw [if_pos hz]
  rw [hE] at hC;have hok:=Rq.chk_ok hz;by_cases h16:key.length = 16
  ·have hR:tknR key x.r = (0,Cy.mac key Cy.zeros x.r.enc):=by unfold tknR macR;rw [if_pos hz,if_pos h16]
   rw [hR];have hM:=fun W u v (hm:Mod Nowhere w W) (hu:Src W u Cy.zeros) (hv:Src W v x.r.enc)=>rMAC_ok (hk.fresh hm) h16 bk hu rfl bytes_z hv (by have:=Rq.enc_len hok;omega) (Rq.enc_by hok h.by);obtain ⟨ka,kc,rfl,-⟩:=hk;rw [h16] at hM ⊢;have hfin:∀ W r,DSl W r (Cy.mac key Cy.zeros x.r.enc)→Mod Nowhere w W→BPost w (0,Cy.mac key Cy.zeros x.r.enc) (.returned (.tuple #[r,errno 0])) W:=fun W r hd hm=>⟨r,rfl,hd,hm⟩;generalize BPost w (0,Cy.mac key Cy.zeros x.r.enc) = Q at *;generalize Cy.mac key Cy.zeros x.r.enc = MQ at *;generalize x.r.enc = E at *;clear e1 e2 e3 e4 e6 e7 ec hz hE h bk hbx hok hR h16;refine hid4 ?_ hm0 hC hfin hM;clear hm0 hC hfin hM;intro hm0 hC hfin hM
   go_enter Tryz.func25,Tryz.ntmps25;go_wp2_with fail;refine hC.out.mono ?_;intro e w1 hb;obtain ⟨a,c,rfl,hd,hm1⟩:=hb.cut;have hmw:=hm0.out.trans hm1;have hmk:=made8 w1;have hz:=zeros_src w1 _ (Mod.refl _ _);have hma:Mod Nowhere w1 (w1.alloc (.cells (u8s Cy.zeros).toArray 5)):=(Mod.refl _ w1).alloc _;generalize (u8s Cy.zeros).toArray = ZA at *;have hM1:=hM.out _ _ _ (hmw.trans hma) hz (hd.src.fresh hma);have hmx:=hmw.trans hma;clear y0 y1 y2 y3 y4 y5 y6 y7 yl hb;dsimp only at hd hM1 ⊢;generalize E.length = en at *;refine hid7 ?_ hd hm1 hmw hM1 hmx hz hma;clear hd hm1 hmw hM1 hmx hz hma;intro hd hm1 hmw hM1 hmx hz hma
   go_wp2_with fail;refine hM1.out.mono ?_;rintro e w2 ⟨r,rfl,hd2,hm2⟩;have hf:=hfin.out w2 r hd2 (hmx.out.trans hm2);refine hid3 ?_ hd2 hm2 hf;clear hd2 hm2 hf;intro hd2 hm2 hf;go_wp2
   all_goals exact hf.out
  ·have hR:tknR key x.r = (19,[]):=by unfold tknR macR;rw [if_pos hz,if_neg h16]
   rw [hR];have h16b:((key.length:Int) != 16) = true:=by simp;omega
   obtain ⟨ka,kc,rfl,-⟩:=hk;have hfin:∀ W,Mod Nowhere w W→BPost w (19,[]) (.returned (.tuple #[.slice none 0 0,errno 19])) W:=fun W hm=>⟨_,rfl,DSl.nil _,hm⟩;generalize BPost w (19,[]) = Q at *;generalize x.r.enc = E at *;generalize key.length = kn at *;clear e1 e2 e3 e4 e6 e7 ec hz hE h bk hbx hok hR h16;refine hid3 ?_ hm0 hC hfin;clear hm0 hC hfin;intro hm0 hC hfin;go_enter Tryz.func25,Tryz.ntmps25;go_wp2_with fail;refine hC.out.mono ?_;intro e w1 hb;obtain ⟨a,c,rfl,hd,hm1⟩:=hb.cut;have hf:=hfin.out w1 (hm0.out.trans hm1);clear y0 y1 y2 y3 y4 y5 y6 y7 yl hb;dsimp only at hd ⊢
   generalize E.length = en at *;refine hid3 ?_ hd hm1 hf;clear hd hm1 hf;intro hd hm1 hf;go_wp2
   all_goals exact hf.out
 ·have hR:tknR key x.r = (x.r.chk,[]):=by unfold tknR;rw [if_neg hz]
  have hE:encR x.r = (x.r.chk,[]):=by unfold encR;rw [if_neg hz]
  rw [hR];rw [hE] at hC;have hz2:((x.r.chk:Int) != 0) = true:=by simp;exact hz
  have hfin:∀ W,Mod Nowhere w W→BPost w (x.r.chk,[]) (.returned (.tuple #[.slice none 0 0,errno (x.r.chk:Nat)])) W:=fun W hm=>⟨_,rfl,DSl.nil _,hm⟩;obtain ⟨ka,kc,rfl,-⟩:=hk;generalize BPost w (x.r.chk,[]) = Q at *;generalize x.r.chk = ck at *;generalize key.length = kn at *;clear e1 e2 e3 e4 e6 e7 ec hz hR hE h bk hbx;refine hid3 ?_ hm0 hC hfin;clear hm0 hC hfin;intro hm0 hC hfin;go_enter Tryz.func25,Tryz.ntmps25;go_wp2_with fail;refine hC.out.mono ?_;intro e w1 hb;obtain ⟨a,c,rfl,hd,hm1⟩:=hb.cut;have hf:=hfin.out w1 (hm0.out.trans hm1);clear y0 y1 y2 y3 y4 y5 y6 y7 yl hb
  dsimp only at hd ⊢;refine hid3 ?_ hd hm1 hf;clear hd hm1 hf;intro hd hm1 hf;go_wp2
  all_goals exact hf.out
end
section
variable {w : World} {kv v : Value} {key d : List Nat} {x : RqV}
theorem rReceipt_ok (hk:Src w kv key) (bk:Bytes key) (h:RqAt w x) (count:Int):Calls Tryz.prog 27 #[kv,.int .i64 count,.agg x.cells.toArray] w (BPost w (recR key count x.r)):=by
 obtain ⟨a1,c1,a2,c2,a3,c3,a4,c4,a6,c6,a7,c7,e1,e2,e3,e4,e6,e7,ec⟩:=h.cut;have hm0:Mod Nowhere w (w.alloc (.cells x.cells.toArray 24)):=(Mod.refl _ w).alloc _;have hbx:=rq_box (w:=w) x.cells;have hC:=rEncode38_ok (h.fresh hm0);rw [ec] at hm0 hbx hC ⊢;obtain ⟨y0,y1,y2,y3,y4,y5,y6,y7,yl⟩:=rq_cells (hbx _ (Mod.refl _ _));generalize x.r.act = act at *;generalize x.r.prv = prv at *;generalize x.r.dom.length = n1 at *;generalize x.r.pac.length = n2 at *;generalize x.r.app.length = n3 at *;generalize x.r.dst.length = n4 at *;generalize x.r.par.length = n6 at *;generalize x.r.hsh.length = n7 at *;by_cases hz:x.r.chk = 0
 ·have hE:encR x.r = (0,x.r.enc):=by unfold encR;rw [if_pos hz]
  rw [hE] at hC;by_cases hr:count < 1 ∨ 2147483647 < count
  ·have hR:recR key count x.r = (2,[]):=by unfold recR;rw [if_neg (fun q=>q hz),if_pos hr]
   rw [hR];have hfin:∀ W,Mod Nowhere w W→BPost w (2,[]) (.returned (.tuple #[.slice none 0 0,errno 2])) W:=fun W hm=>⟨_,rfl,DSl.nil _,hm⟩;obtain ⟨ka,kc,rfl,-⟩:=hk;generalize BPost w (2,[]) = Q at *;generalize x.r.enc = E at *;generalize key.length = kn at *;clear e1 e2 e3 e4 e6 e7 ec hz hR hE h bk hbx;refine hid3 ?_ hm0 hC hfin;clear hm0 hC hfin;intro hm0 hC hfin;have hr2:count < 1 ∨ (¬ count < 1∧2147483647 < count):=by omega
   clear hr;rcases hr2 with hr | ⟨hr,hr3⟩
   all_goals
    go_enter Tryz.func27,Tryz.ntmps27;go_wp2_with fail;refine hC.out.mono ?_;intro e w1 hb;obtain ⟨a,c,rfl,hd,hm1⟩:=hb.cut;have hf:=hfin.out w1 (hm0.out.trans hm1);clear y0 y1 y2 y3 y4 y5 y6 y7 yl hb;dsimp only at hd ⊢;generalize E.length = en at *;refine hid3 ?_ hd hm1 hf;clear hd hm1 hf;intro hd hm1 hf;go_wp2
    all_goals exact hf.out
  ·obtain ⟨n,hn⟩:∃ n:Nat,count = n:=⟨count.toNat,by omega⟩;subst hn;have g1:¬ (n:Int) < 1:=fun e=>hr (.inl e);have g2:¬ (2147483647:Int) < (n:Int):=fun e=>hr (.inr e);have hn32:n < 4294967296:=by omega
   have hok:=Rq.chk_ok hz;have hP:=fun W=>rPut01_ok W hn32
   have hcl:(Cy.by4 n ++ x.r.enc).length≤1000000:=by
    have:=Rq.enc_len hok;rw [List.length_append,by_len];omega
   have hRR:recR key (n:Int) x.r = if key.length = 16 then (0,Cy.by4 n ++ Cy.mac key Cy.zeros (Cy.by4 n ++ x.r.enc)) else (19,[]):=by unfold recR;rw [if_neg (fun q=>q hz),if_neg hr,Int.toNat_natCast]
   rw [hRR];by_cases h16:key.length = 16
   ·rw [if_pos h16];have hM:=fun W u v (hm:Mod Nowhere w W) (hu:Src W u Cy.zeros) (hv:Src W v (Cy.by4 n ++ x.r.enc))=>rMAC_ok (hk.fresh hm) h16 bk hu rfl bytes_z hv hcl (bytes_append (bytes_by4 n) (Rq.enc_by hok h.by));have hs4:∀ W W':World,Blk W W'.heap.size (u8s (Cy.by4 n)) 5→DSl W (.slice (some ⟨W'.heap.size,0,none⟩) 4 4) (Cy.by4 n):=fun W W' hb=>sl_whole (sz:=1) (n:=4) hb rfl (by decide);have hml:=Cy.mac_len (key:=key) (iv:=Cy.zeros) (d:=Cy.by4 n ++ x.r.enc) rfl;have hJ:=fun W u t (hu:Src W u (Cy.by4 n)) (ht:Src W t (Cy.mac key Cy.zeros (Cy.by4 n ++ x.r.enc)))=>rjoin2 hu ht (by rw [List.length_append,by_len,hml];decide);have hJ1:=fun W h u t (hb:Blk W h [u,t] 22) (hu:Src W u (Cy.by4 n)) (ht:Src W t x.r.enc)=>rjoinb hb hu ht hcl
    obtain ⟨ka,kc,rfl,-⟩:=hk;rw [h16] at hM ⊢;have hfin:∀ W r,DSl W r (Cy.by4 n ++ Cy.mac key Cy.zeros (Cy.by4 n ++ x.r.enc))→Mod Nowhere w W→BPost w (0,Cy.by4 n ++ Cy.mac key Cy.zeros (Cy.by4 n ++ x.r.enc)) (.returned (.tuple #[r,errno 0])) W:=fun W r hd hm=>⟨r,rfl,hd,hm⟩;generalize BPost w (0,Cy.by4 n ++ Cy.mac key Cy.zeros (Cy.by4 n ++ x.r.enc)) = Q at *;generalize Cy.mac key Cy.zeros (Cy.by4 n ++ x.r.enc) = MQ at *;generalize hBE:Cy.by4 n ++ x.r.enc = BE at *;have hbel:BE.length = BE.length:=rfl;generalize x.r.enc = E at *;generalize Cy.by4 n = B4 at *;clear e1 e2 e3 e4 e6 e7 ec hz hE h bk hbx hcl hok hRR h16 hr hn32 hBE hbel;refine hid9 ?_ hm0 hC hfin hP hM hs4 hml hJ hJ1;clear hm0 hC hfin hP hM hs4 hml hJ hJ1;intro hm0 hC hfin hP hM hs4 hml hJ hJ1
    go_enter Tryz.func27,Tryz.ntmps27;go_wp2_with fail;refine hC.out.mono ?_;intro e w1 hb;obtain ⟨a,c,rfl,hd,hm1⟩:=hb.cut;have hmw:=hm0.out.trans hm1;clear y0 y1 y2 y3 y4 y5 y6 y7 yl hb;dsimp only at hd ⊢;generalize hen:E.length = en at *;refine hid4 ?_ hd hm1 hmw hen;clear hd hm1 hmw hen;intro hd hm1 hmw hen;go_wp2_with fail;refine (hP.out _).mono ?_;rintro e w2 ⟨rfl,hb2,hm2⟩;have hd2:=hs4.out _ _ hb2;have hmx:=hmw.out.trans hm2;have hd1:=hd.out.fresh hm2;clear hb2 hP hd;refine hid4 ?_ hd2 hm2 hmx hd1;clear hd2 hm2 hmx hd1;intro hd2 hm2 hmx hd1;go_wp2_with fail;refine wp_region_vals (fun i=>match i with | 0=>some (.slice ka 16 kc) | 2=>some (.slice (some ⟨w1.heap.size,0,none⟩) 4 4) | 3=>some (.slice a en c) | 9=>some (.int .i64 0) | 11=>some (.int .i64 0) | _=>none) (fun i=>match i with | 4=>[2,3] | 5=>[4] | 6=>[0,1,5] | 7=>[6] | 8=>[7] | 9=>[7] | 10=>[8,6,0,1,2,3,4,5,7] | 11=>[9,10,0,1,2,3,4,5,6,7,8] | _=>[]) 12 (fun i v w'=>match i with | 1=>(∃ g:Nat,v = .slice (some ⟨g,0,none⟩) 8 8∧Src w' (.slice (some ⟨g,0,none⟩) 8 8) Cy.zeros) | 4=>(∃ h:Nat,v = .slice (some ⟨h,0,none⟩) 2 2∧Blk w' h [.slice (some ⟨w1.heap.size,0,none⟩) 4 4,.slice a en c] 22) | 5=>(∃ (a:Option Addr) (c:Nat),v = .slice a BE.length c∧Src w' (.slice a BE.length c) BE) | 6=>(∃ (a:Option Addr) (c:Nat),v = .tuple #[.slice a 8 c,errno 0]∧DSl w' (.slice a 8 c) MQ) | 7=>(∃ (a:Option Addr) (c:Nat),v = .tuple #[.slice a 8 c,errno 0]∧DSl w' (.slice a 8 c) MQ) | 8=>(∃ (a:Option Addr) (c:Nat),v = .slice a 8 c∧DSl w' (.slice a 8 c) MQ) | 10=>(∃ (a:Option Addr) (c:Nat),v = .slice a 8 c∧DSl w' (.slice a 8 c) MQ) | _=>True) ?A_9_0 (by first | assumption | kernel_rfl) (by kernel_rfl) (by kernel_rfl) (by kernel_rfl) (by rfl) ?hA_9_0 ?hS_9_0 ?hE_9_0
    case hA_9_0=>intro xs;simp [putAll,List.range,List.range.loop,Act.put] <;> rfl
    case hS_9_0 =>
     refine ⟨?_,?q1_9_0,?_,?_,?q4_9_0,?q5_9_0,?q6_9_0,?q7_9_0,?q8_9_0,?q9_9_0,?q10_9_0,?_,trivial⟩
     case q1_9_0 =>
      intro yv w' hR hF K hK;clear hF;have hz:=zeros_src w';have hmz:=made8 w';have hma:Mod Nowhere w' (w'.alloc (.cells (u8s Cy.zeros).toArray 5)):=(Mod.refl _ _).alloc _;generalize (u8s Cy.zeros).toArray = zs at *;refine hid2 ?_ hz hma;clear hz hma;intro hz hma
      go_simp
      exact hK _ _ (fun W hW=>⟨_,rfl,hz.out W hW⟩) hma.out
     case q4_9_0 =>
      intro yv w' hR hF K hK;clear hF;have hb:=Blk.new w' [.slice (some ⟨w1.heap.size,0,none⟩) 4 4,.slice a en c] 22;have hma:Mod Nowhere w' (w'.alloc (.cells #[.slice (some ⟨w1.heap.size,0,none⟩) 4 4,.slice a en c] 22)):=(Mod.refl _ _).alloc _;refine hid2 ?_ hb hma;clear hb hma;intro hb hma
      go_simp
      exact hK _ _ (fun W hW=>⟨_,rfl,hb.out.mod hW id⟩) hma.out
     case q5_9_0 =>
      intro yv w' hR hF K hK;have f4:=hF 4 (by decide) w' (Mod.refl _ w');clear hF;simp only [mixD,memN,Option.getD_some,Option.getD_none] at hK ⊢;generalize yv 4 = y4 at *;obtain ⟨h,rfl,hb⟩:=f4;have hmr:=(Mod.refl Nowhere w2).drew.trans hR;have hc:=hJ1.out w' h _ _ hb (hd2.out.src.fresh hmr) (hd1.out.src.fresh hmr);refine hid3 ?_ hc hb hmr;clear hc hb hmr;intro hc hb hmr
      go_simp
      go_at_call 92
      refine hc.out.mono ?_;rintro e w9 ⟨r,rfl,hd9,hm9⟩;obtain ⟨g9,c9,rfl,-⟩:=id hd9.src;exact hK _ _ (fun W hW=>⟨g9,c9,rfl,hd9.src.fresh hW⟩) hm9
     case q6_9_0 =>
      intro yv w' hR hF K hK;have f1:=hF 1 (by decide) w' (Mod.refl _ w');have f5:=hF 5 (by decide) w' (Mod.refl _ w');clear hF;simp only [mixD,memN,Option.getD_some,Option.getD_none] at hK ⊢;generalize yv 1 = y1 at *;generalize yv 5 = y5 at *;obtain ⟨g,rfl,hz⟩:=f1;obtain ⟨a',c',rfl,hs⟩:=f5;have hc:=hM.out w' _ _ (hmx.out.trans ((Mod.refl Nowhere _).drew.trans hR)) hz hs;generalize BE.length = bel at *;refine hid3 ?_ hc hz hs;clear hc hz hs;intro hc hz hs
      go_simp
      go_at_call 88
      refine hc.out.mono ?_;rintro e w9 ⟨r,rfl,hd9,hm9⟩;obtain ⟨a9,c9,rfl,-⟩:=id hd9.src;rw [hml.out] at hd9 ⊢;exact hK _ _ (fun W hW=>⟨a9,c9,rfl,hd9.fresh hW⟩) hm9
     case q7_9_0 =>
      intro yv w' hR hF K hK;have f6:=hF 6 (by decide) w' (Mod.refl _ w');clear hF;simp only [mixD,memN,Option.getD_some,Option.getD_none] at hK ⊢;generalize yv 6 = y6 at *;obtain ⟨a',c',rfl,hs⟩:=f6;replace hs:=Lib.hid hs
      go_simp
      exact hK _ _ (fun W hW=>⟨a',c',rfl,hs.out.fresh hW⟩) (Mod.refl _ _)
     case q8_9_0 =>
      intro yv w' hR hF K hK;have f7:=hF 7 (by decide) w' (Mod.refl _ w');clear hF;simp only [mixD,memN,Option.getD_some,Option.getD_none] at hK ⊢;generalize yv 7 = y7 at *;obtain ⟨a',c',rfl,hs⟩:=f7;replace hs:=Lib.hid hs
      go_simp
      exact hK _ _ (fun W hW=>⟨a',c',rfl,hs.out.fresh hW⟩) (Mod.refl _ _)
     case q9_9_0 =>
      intro yv w' hR hF K hK;have f7:=hF 7 (by decide) w' (Mod.refl _ w');clear hF;simp only [mixD,memN,Option.getD_some,Option.getD_none] at hK ⊢;generalize yv 7 = y7 at *;obtain ⟨a',c',rfl,hs⟩:=f7;replace hs:=Lib.hid hs
      go_simp
      exact hK _ _ (fun W hW=>rfl) (Mod.refl _ _)
     case q10_9_0 =>
      intro yv w' hR hF K hK;have f8:=hF 8 (by decide) w' (Mod.refl _ w');have f6:=hF 6 (by decide) w' (Mod.refl _ w');have f1:=hF 1 (by decide) w' (Mod.refl _ w');have f4:=hF 4 (by decide) w' (Mod.refl _ w');have f5:=hF 5 (by decide) w' (Mod.refl _ w');have f7:=hF 7 (by decide) w' (Mod.refl _ w');clear hF;simp only [mixD,memN,Option.getD_some,Option.getD_none] at hK ⊢;generalize yv 8 = y8 at *;generalize yv 6 = y6 at *;generalize yv 1 = y1 at *;generalize yv 4 = y4 at *;generalize yv 5 = y5 at *;generalize yv 7 = y7 at *;obtain ⟨a',c',rfl,hs⟩:=f8;replace hs:=Lib.hid hs
      go_simp
      exact hK _ _ (fun W hW=>⟨a',c',rfl,hs.out.fresh hW⟩) (Mod.refl _ _)
     all_goals
      intro yv w' hR hF K hK;clear hF
      go_simp
      exact hK _ _ (fun _ _=>by first | trivial | exact rfl | simp [*,known]) (Mod.refl _ _)
    case hE_9_0 =>
     intro yv w' hR hF;have f1:=hF 1 (by decide) w' (Mod.refl _ w');have f4:=hF 4 (by decide) w' (Mod.refl _ w');have f5:=hF 5 (by decide) w' (Mod.refl _ w');have f6:=hF 6 (by decide) w' (Mod.refl _ w');have f7:=hF 7 (by decide) w' (Mod.refl _ w');have f8:=hF 8 (by decide) w' (Mod.refl _ w');have f10:=hF 10 (by decide) w' (Mod.refl _ w');clear hF;simp only [mixN,Option.getD_some,Option.getD_none,Nat.reduceLT,if_true];generalize yv 1 = y1 at *;generalize yv 4 = y4 at *;generalize yv 5 = y5 at *;generalize yv 6 = y6 at *;generalize yv 7 = y7 at *;generalize yv 8 = y8 at *;generalize yv 10 = y10 at *;obtain ⟨a3,c3,rfl,hd3⟩:=f10
     have hmr:=(Mod.refl Nowhere w2).drew.trans hR;have hJ3:=hJ.out w' _ _ (hd2.out.src.fresh hmr) hd3.src;have hmy:=hmx.out.trans hmr;clear f1 f4 f5 f6 f7 f8 hR hJ hM hJ1;refine hid4 ?_ hd3 hmr hmy hJ3;clear hd3 hmr hmy hJ3;intro hd3 hmr hmy hJ3;go_wp2_with fail;refine hJ3.out.mono ?_;rintro e w4 ⟨r,rfl,hd4,hm4⟩;have hf:=hfin.out w4 r hd4 (hmy.out.trans hm4);refine hid3 ?_ hd4 hm4 hf;clear hd4 hm4 hf;intro hd4 hm4 hf;go_wp2
     all_goals exact hf.out
   ·rw [if_neg h16];have h16b:((key.length:Int) != 16) = true:=by simp;omega
    obtain ⟨ka,kc,rfl,-⟩:=hk;have hfin:∀ W,Mod Nowhere w W→BPost w (19,[]) (.returned (.tuple #[.slice none 0 0,errno 19])) W:=fun W hm=>⟨_,rfl,DSl.nil _,hm⟩;generalize BPost w (19,[]) = Q at *;clear hRR h16 hcl hz hr hE e1 e2 e3 e4 e6 e7 ec h bk hbx hok hn32 hP;generalize x.r.enc = E at *;generalize key.length = kn at *;refine hid3 ?_ hm0 hC hfin;clear hm0 hC hfin;intro hm0 hC hfin;go_enter Tryz.func27,Tryz.ntmps27;go_wp2_with fail;refine hC.out.mono ?_;intro e w1 hb;obtain ⟨a,c,rfl,hd,hm1⟩:=hb.cut;have hf:=hfin.out w1 (hm0.out.trans hm1);clear y0 y1 y2 y3 y4 y5 y6 y7 yl hb
    dsimp only at hd ⊢;generalize hen:E.length = en at *;refine hid4 ?_ hd hm1 hf hen;clear hd hm1 hf hen;intro hd hm1 hf hen;go_wp2
    all_goals exact hf.out
 ·have hR:recR key count x.r = (x.r.chk,[]):=by unfold recR;rw [if_pos hz]
  have hE:encR x.r = (x.r.chk,[]):=by unfold encR;rw [if_neg hz]
  rw [hR];rw [hE] at hC;have hz2:((x.r.chk:Int) != 0) = true:=by simp;exact hz
  have hfin:∀ W,Mod Nowhere w W→BPost w (x.r.chk,[]) (.returned (.tuple #[.slice none 0 0,errno (x.r.chk:Nat)])) W:=fun W hm=>⟨_,rfl,DSl.nil _,hm⟩;obtain ⟨ka,kc,rfl,-⟩:=hk;generalize BPost w (x.r.chk,[]) = Q at *;generalize x.r.chk = ck at *;generalize key.length = kn at *;clear e1 e2 e3 e4 e6 e7 ec hz hR hE h bk hbx;refine hid3 ?_ hm0 hC hfin;clear hm0 hC hfin;intro hm0 hC hfin;go_enter Tryz.func27,Tryz.ntmps27;go_wp2_with fail;refine hC.out.mono ?_;intro e w1 hb;obtain ⟨a,c,rfl,hd,hm1⟩:=hb.cut;have hf:=hfin.out w1 (hm0.out.trans hm1);clear y0 y1 y2 y3 y4 y5 y6 y7 yl hb
  dsimp only at hd ⊢;refine hid3 ?_ hd hm1 hf;clear hd hm1 hf;intro hd hm1 hf;go_wp2
  all_goals exact hf.out
theorem rConfirms_ok {dv:Value} (hk:Src w kv key) (bk:Bytes key) (h:RqAt w x) (hd:Src w dv d) (bd:Bytes d) (hdl:d.length≤1099511627776):Calls Tryz.prog 29 #[kv,.agg x.cells.toArray,dv] w fun e w'=>e = .returned (.tuple #[.int .i64 ((conR key x.r d).1:Nat),.bool (conR key x.r d).2])∧Mod Nowhere w w':=by
 obtain ⟨a1,c1,a2,c2,a3,c3,a4,c4,a6,c6,a7,c7,e1,e2,e3,e4,e6,e7,ec⟩:=h.cut;have hm0:Mod Nowhere w (w.alloc (.cells x.cells.toArray 24)):=(Mod.refl _ w).alloc _;have hbx:=rq_box (w:=w) x.cells;have hC:=fun W (hm:Mod Nowhere w W)=>rReceipt_ok (hk.fresh hm) bk (h.fresh hm) (Cy.num4 d 0:Nat);have bt:=recR_by key (Cy.num4 d 0:Nat) x.r;have hE:=fun W u (hm:Mod Nowhere w W) (hu:Src W u (recR key (Cy.num4 d 0:Nat) x.r).2)=>r01Same_ok hu (hd.fresh hm) bt bd (by have:=recR_len key (Cy.num4 d 0:Nat) x.r;omega) hdl;rw [ec] at hm0 hbx hC ⊢;obtain ⟨y0,y1,y2,y3,y4,y5,y6,y7,yl⟩:=rq_cells (hbx _ (Mod.refl _ _))
 generalize x.r.act = act at *;generalize x.r.prv = prv at *;generalize x.r.dom.length = n1 at *;generalize x.r.pac.length = n2 at *;generalize x.r.app.length = n3 at *;generalize x.r.dst.length = n4 at *;generalize x.r.par.length = n6 at *;generalize x.r.hsh.length = n7 at *;by_cases h4:d.length < 4
 ·have hR:conR key x.r d = (0,false):=by unfold conR;rw [if_pos h4]
  rw [hR];obtain ⟨ka,kc,rfl,-⟩:=hk;obtain ⟨da,dc,rfl,-⟩:=hd;have h4i:(d.length:Int) < 4:=by omega
  generalize d.length = dn at *;generalize key.length = kn at *;clear e1 e2 e3 e4 e6 e7 ec h bk hbx bt bd hC hE hR;replace hm0:=Lib.hid hm0;go_enter Tryz.func29,Tryz.ntmps29;go_wp2
  go_ret2
  exact ⟨rfl,hm0.out⟩
 ·have hG:=fun W u (hm:Mod Nowhere w W) (hu:Src W u (d.take 4))=>rGet01_ok hu (bytes_mem.2 fun y hy=>bytes_mem.1 bd y (List.mem_of_mem_take hy)) (by rw [List.length_take];omega);rw [num_num4 (by rw [List.length_take];omega),num4_take d (by omega)] at hG;have hR:conR key x.r d = if (recR key (Cy.num4 d 0:Nat) x.r).1 = 0∧(recR key (Cy.num4 d 0:Nat) x.r).2 = d then (Cy.num4 d 0,true) else (0,false):=by unfold conR;rw [if_neg h4]
  rw [hR];have hT:=fun W a c (hs:Src W (.slice a d.length c) d)=>hs.takeK (k:=4) (by omega);obtain ⟨ka,kc,rfl,-⟩:=hk;obtain ⟨da,dc,e9,d1,d2,-⟩:=id hd;subst e9;have hD0:=fun W (hm:Mod Nowhere w W)=>hT W da dc (hd.fresh hm);have h4i:¬ (d.length:Int) < 4:=by omega
  have h4j:(4:Int)≤(d.length:Int):=by omega
  generalize recR key (Cy.num4 d 0:Nat) x.r = RR at *;obtain ⟨er,l⟩:=RR;dsimp only at *;obtain ⟨CR,hCR⟩:∃ CR,(if er = 0∧l = d then (Cy.num4 d 0,true) else (0,false)) = CR:=⟨_,rfl⟩;rw [hCR];generalize Cy.num4 d 0 = nv at *;generalize key.length = kn at *;generalize d.length = dn at *;unfold maxLen at d2;have h4d:4≤dn:=by omega
  clear e1 e2 e3 e4 e6 e7 ec h bk bt bd hR hT hd hdl;refine hid7 ?_ hm0 hC hE hG hCR hD0 hbx;clear hm0 hC hE hG hCR hD0 hbx;intro hm0 hC hE hG hCR hD0 hbx;go_enter Tryz.func29,Tryz.ntmps29;go_wp2_with fail;refine (hG.out _ _ hm0.out (hD0.out _ hm0.out)).mono ?_;rintro e w1 ⟨rfl,rfl⟩;go_wp2_with fail;refine (hC.out _ hm0.out).mono ?_;intro e w2 hb;obtain ⟨a,c,rfl,hd1,hm1⟩:=hb.cut;have hmw:=hm0.out.trans hm1;have hE1:=hE.out w2 _ hmw hd1.src;clear y0 y1 y2 y3 y4 y5 y6 y7 yl hb;dsimp only at hd1 hE1 ⊢;by_cases h0:er = 0
  ·subst h0;by_cases hl:l = d
   ·have hcr:CR = (nv,true):=by rw [← hCR.out,if_pos ⟨rfl,hl⟩]
    rw [decide_eq_true hl] at hE1;clear hCR hl;subst hcr;generalize l.length = ln at *;refine hid4 ?_ hd1 hm1 hmw hE1;clear hd1 hm1 hmw hE1;intro hd1 hm1 hmw hE1;go_wp2_with fail;refine hE1.out.mono ?_;rintro e w3 ⟨rfl,hm2⟩;have hmF:=hmw.out.trans hm2;refine hid2 ?_ hmF hm2;clear hmF hm2;intro hmF hm2;go_wp2
    go_ret2
    exact ⟨rfl,hmF.out⟩
   ·have hcr:CR = (0,false):=by rw [← hCR.out,if_neg (fun q=>hl q.2)]
    rw [decide_eq_false hl] at hE1;clear hCR hl;subst hcr;generalize l.length = ln at *;refine hid4 ?_ hd1 hm1 hmw hE1;clear hd1 hm1 hmw hE1;intro hd1 hm1 hmw hE1;go_wp2_with fail;refine hE1.out.mono ?_;rintro e w3 ⟨rfl,hm2⟩;have hmF:=hmw.out.trans hm2;refine hid2 ?_ hmF hm2;clear hmF hm2;intro hmF hm2;go_wp2
    go_ret2
    exact ⟨rfl,hmF.out⟩
  ·have h0b:((er:Int) != 0) = true:=by simp;exact h0
   have hcr:CR = (0,false):=by rw [← hCR.out,if_neg (fun q=>h0 q.1)]
   clear hCR;subst hcr;generalize l.length = ln at *;refine hid4 ?_ hd1 hm1 hmw hE1;clear hd1 hm1 hmw hE1;intro hd1 hm1 hmw hE1;go_wp2
   go_ret2
   exact ⟨rfl,hmw.out⟩
end
end Go.Proofs.YtanioleniadhoaaGreat
