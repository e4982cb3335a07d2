/-
  Bytes as a string.
-/
import Derived.Shelf.Bytes.SlEqualAll
import Derived.Test.YtanioleniadhoaaGreatAK9
set_option linter.unusedVariables false
set_option linter.unusedSimpArgs false
set_option maxHeartbeats 4000000
set_option maxRecDepth 100000
namespace Go.Proofs.YtanioleniadhoaaGreat
open Go.RowKit
open Jn
attribute [local go_sem] Oper.semAt_some
theorem Src.string {w:World} {v:Value} {d:List Nat} (h:Src w v d):(convert 22 9 v).run Tryz.prog w = .ok (.string (strOfNums (d.map fun x:Nat=>(x:Int)))) w:=by
 obtain ⟨a,c,rfl,-,-,h3⟩:=h;refine Go.Lib.BytesIn.convert (P:=Tryz.prog) (xs:=d.map fun x:Nat=>(x:Int)) ?_ (by simp) c 22 5 9 Tryz.underlying22 Tryz.underlying5 Tryz.underlying9;intro h0;obtain ⟨b,off,e,hb,hc⟩:=h3 h0;refine ⟨b,off,e,fun i hi=>?_⟩;rw [hc i hi]
 congr 2
 rw [gd0,gd0,List.getElem?_map,List.getElem?_eq_getElem hi]
 rfl
theorem bytes_back {a:List Nat} (ha:Bytes a):((Lib.bytesOf (a.map fun x:Nat=>(x:Int))).map fun x=>x.toNat) = a:=by
 unfold Lib.bytesOf;rw [List.map_map,List.map_map]
 apply List.ext_getElem
 ·simp
 ·intro i h1 h2;have:=ha i;rw [gd0,List.getElem?_eq_getElem h2] at this;simp only [Option.getD_some] at this;simp only [List.getElem_map,Function.comp_apply,Int.toNat_natCast];rw [UInt8.toNat_ofNat'];omega
theorem strOf_eq {a b:List Nat} (ha:Bytes a) (hb:Bytes b):((strOfNums (a.map fun x:Nat=>(x:Int))).toList == (strOfNums (b.map fun x:Nat=>(x:Int))).toList) = decide (a = b):=by
 rw [Lib.strOfNums_toList,Lib.strOfNums_toList];by_cases e:a = b
 ·subst e;simp
 ·rw [decide_eq_false e,beq_eq_false_iff_ne];intro h;have:=congrArg (fun l=>l.map fun x:UInt8=>x.toNat) h;simp only [bytes_back ha,bytes_back hb] at this;exact e this
theorem append_own {w:World} {base:Nat} {v u:Value} {l d:List Nat} {n:Nat} (hn:l.length = n) (hown:w.ownsRow base 5 1 v n (u8s l)) (hs:Src w u d) (hl:n + d.length≤1099511627776) (hb:base≤w.heap.size) (ty:TypeId) :
  ∃ va vcap w',(Builtin.append_ #[22,22] ty #[v,u]).run Tryz.prog w = .ok (.slice va (n + d.length) vcap) w'∧w'.ownsRow base 5 1 (.slice va (n + d.length) vcap) (n + d.length) (u8s (l ++ d))∧Mod (Own1 v) w w':=by
 obtain ⟨i0,hi0,hz0,hz1,hz2⟩:=info_parts info_u8;obtain ⟨ua,uc,rfl,hc1,hc2,hcell⟩:=hs;by_cases hm:d.length = 0
 ·obtain ⟨a,c,rfl,hc⟩:=owns_form hown;have hy:d = []:=List.eq_nil_of_length_eq_zero hm;subst hy;rw [List.append_nil];exact ⟨a,c,w,run_append_empty (P:=Tryz.prog) w 22 ty 5 i0 Tryz.underlying22 hi0 a ua n c uc hc,hown,Mod.refl _ _⟩
 ·obtain ⟨b,off,rfl,hbl,hcs⟩:=hcell (by omega);have hul:(u8s d).length = d.length:=by simp [u8s]
  have hnews:∀ j x,(u8s d)[j]? = some x→w.cell? ((⟨b,off,none⟩:Addr).add j) = some x:=fun j x hj=>by
   have hjl:=(List.getElem?_eq_some_iff.1 hj).1;rw [hul] at hjl;rw [add_lit,hcs j hjl,← u8s_at d j hjl,gd0,hj];rfl
  obtain ⟨g,gc,w',hr,ho,hg,_,_⟩:=run_append_lies (P:=Tryz.prog) w 22 ty base 5 i0 (.int .u8 0) 1 1 Tryz.underlying22 hi0 hz0 hz1 hz2 rfl (by decide) v n (u8s l) hown ⟨b,off,none⟩ d.length uc (u8s d) (by rw [hul];omega) hnews (one_u8s d) (by omega) (by unfold maxLen;omega) (by omega) hb _ rfl;rw [← u8s_append] at ho;exact ⟨_,gc,w',hr,ho,Mod.own1 hg⟩
section
variable {w : World} {kv u v : Value} {l iv d m : List Nat}
theorem rEncrypt_own (hv:Src w v l) (hl:l.length = 16) (bl:Bytes l) (hu:Src w u m) (hm:m.length = 8) (bm:Bytes m) :
  Calls Tryz.prog 206 #[v,u] w fun e w'=>∃ r,e = .returned (.tuple #[r,errno 0])∧DSl w' r (Cy.encB l m)∧(∀ k,r.ownBlock = some k→w.heap.size≤k)∧Mod Nowhere w w':=by
 obtain ⟨b,off,cap,rfl,c1,c2,hb⟩:=hv.form (by omega);obtain ⟨b',off',cap',rfl,c3,c4,hb'⟩:=hu.form (by omega);rw [hl] at c1 ⊢;rw [hm] at c3 ⊢;refine (rEncrypt_ok w b off cap b' off' cap' l m hb hl (bytes_mem.1 bl) c1 c2 hb' hm (bytes_mem.1 bm) c3 c4).mono ?_;rintro e w' ⟨g,rfl,hB,hg,hmm⟩;refine ⟨_,rfl,?_,fun k hk=>by simp only [Value.ownBlock,Option.some.injEq] at hk;omega,hmm⟩;have hel:=Cy.encB_len l m;generalize Cy.encB l m = q at *;unfold DSl;rw [hel];exact sl_whole (sz:=1) (n:=8) hB (by rw [u8s,List.length_map,hel]) (by decide)
theorem rCBC_ok (hkv:Src w kv l) (hl:l.length = 16) (bl:Bytes l) (hu:Src w u iv) (hiv:iv.length = 8) (bi:Bytes iv) (hv:Src w v d) (hd8:d.length % 8 = 0) (hd:d.length≤2000000) (h0:0 < d.length) (bd:Bytes d) :
  Calls Tryz.prog 155 #[kv,u,v] w fun e w'=>∃ r,e = .returned (.tuple #[r,errno 0])∧DSl w' r (Cy.cbc l iv d)∧Mod Nowhere w w':=by
 obtain ⟨db,doff,dc,rfl,hc1,hc2,-⟩:=id (hv.form h0);have hX:=fun W (hm:Mod Nowhere w W) k r (hr:Src W r (Cy.st l iv d k)) (k8:8 * k + 8≤d.length)=>rxor_ok ((hv.fresh hm).blk k8) hr (Cy.blk_len k8) (Cy.st_len hiv k) (bytes_blk bd k) (bytes_st bi k);have hE:=fun W (hm:Mod Nowhere w W) k r (k8:8 * k + 8≤d.length) (hr:DSl W r (Cy.xorL (Cy.blk d k) (Cy.st l iv d k)))=>rEncrypt_own (hkv.fresh hm) hl bl hr.src (Cy.xorL_len _ _) (bytes_xor (bytes_blk bd k) (bytes_st bi k));obtain ⟨ka,kc,rfl,-⟩:=id hkv;obtain ⟨ua,uc,rfl,-⟩:=id hu;have hcl:=Cy.cout_len l iv d;have hsl:=Cy.st_len (key:=l) (d:=d) hiv;have hst1:∀ k,Cy.st l iv d (k + 1) = Cy.encB l (Cy.xorL (Cy.blk d k) (Cy.st l iv d k)):=fun k=>rfl
 have hcb:Cy.cbc l iv d = Cy.cout l iv d (d.length / 8):=rfl;have hc0:Cy.cout l iv d 0 = []:=rfl;have hc1':∀ k,Cy.cout l iv d (k + 1) = Cy.cout l iv d k ++ Cy.st l iv d (k + 1):=fun k=>rfl;have hu0:Src w (.slice ua 8 uc) (Cy.st l iv d 0):=by rw [← hiv];exact hu
 have hxl:=fun k=>Cy.xorL_len (Cy.blk d k) (Cy.st l iv d k);simp only [← hst1] at hE;rw [hl] at hE ⊢;rw [hiv];rw [hcb];generalize Cy.cout l iv d = CO at *;generalize Cy.st l iv d = ST at *;generalize hXL:(fun k=>Cy.xorL (Cy.blk d k) (ST k)) = XL at *;have hXk:∀ k,Cy.xorL (Cy.blk d k) (ST k) = XL k:=fun k=>by rw [← hXL]
 simp only [hXk] at hX hE hxl;clear hst1 hkv hl bl hu hiv bi hv bd hcb hXL hXk;generalize hn:d.length = n at *;have htm:(n:Int).tmod 8 = 0:=by rw [Int.tmod_eq_emod_of_nonneg (by omega)];omega
 unfold maxLen at hc2;refine hid9 ?_ hX hE hcl hsl hc0 hc1' hn hu0 hxl;clear hX hE hcl hsl hc0 hc1' hn hu0 hxl;intro hX hE hcl hsl hc0 hc1' hn hu0 hxl;go_enter Tryz.func155,Tryz.ntmps155;go_wp2
 go_loopw [1,8,9] (fun v1 v8 i wr=>∃ k m:Nat,m≤n∧m = 8 * k∧i = .int .i64 m∧(∃ a c,v1 = .slice a 8 c)∧Src wr v1 (ST k)∧wr.ownsRow w.heap.size 5 1 v8 m (u8s (CO k))∧Mod Nowhere w wr) (fun _ _ i _=>n - (intOf i).toNat)
 case atStart=>exact ⟨0,0,by omega,rfl,rfl,⟨_,_,rfl⟩,hu0.out,by rw [hc0.out];exact World.ownsRow_nil _ _ _ _,Mod.refl _ _⟩
 case round =>
  obtain ⟨k,m,hk,hm8,rfl,⟨ca,cc,rfl⟩,hD,hown,hm⟩:=hrel;obtain ⟨va,vc,rfl,-⟩:=owns_form hown;by_cases hlt:m < n
  ·have hmn:m + 8≤n:=by omega
   have hx:=hX.out wr hm k _ hD (by omega);rw [← hm8] at hx;have hcok:=hc1'.out k;refine hid6 ?_ hx hD hown hm hm8 hcok;clear hx hD hown hm hm8 hcok;intro hx hD hown hm hm8 hcok;clear hX hu0;go_wp2_with fail;refine hx.out.mono ?_;rintro e w2 ⟨r,rfl,hd2,hm2⟩;have hm02:=hm.out.trans hm2;have hy:=hE.out w2 hm02 k r (by have:=hm8.out;omega) hd2;obtain ⟨ra,rc,rfl,-⟩:=id hd2.src;rw [hxl.out] at hd2 hy ⊢;refine hid4 ?_ hd2 hy hm2 hm02;clear hd2 hy hm2 hm02;intro hd2 hy hm2 hm02;clear hE;go_wp2_with fail;refine hy.out.mono ?_;rintro e w3 ⟨r3,rfl,hd3,hfr3,hm3⟩;have hm03:=hm02.out.trans hm3;obtain ⟨xa,xc,rfl,-⟩:=id hd3.src
   rw [hsl.out] at hd3 hfr3 ⊢;have hown3:=owns_mod hown.out (hm2.out.trans hm3) (fun _ _ e=>e);obtain ⟨va4,vc4,w4,hrun,hown4,hmO⟩:=append_own (l:=CO k) (d:=ST (k + 1)) (by rw [hcl.out,hm8.out]) hown3 hd3.src (by rw [hsl.out];omega) hm03.size 22;rw [hsl.out] at hrun hown4;rw [← hcok.out] at hown4;have hab:=Own1.above hown3;have hlt1:=fun k hk=>(hown.out.lt k hk).2;have hsz2:=hm2.out.size
   have hd4:DSl w4 (.slice xa 8 xc) (ST (k + 1)):=Sl.mod hd3 hmO fun j hj e=>by
    have h1:=hfr3 j hj;have h2:=hlt1 j e;omega
   have hmF:=hm03.step hmO fun i hi e=>by have:=(hab i e).1;omega
   have hs4:=hd4.src;clear hd3 hfr3 hown3 hab hlt1 hsz2 hmO hm03 hd4 hm3;refine hid3 ?_ hown4 hmF hs4;clear hown4 hmF hs4;intro hown4 hmF hs4
   go_wp2_with (at_builtin;refine Lib.wpList_append_run _ rfl _ _ _ _ rfl _ _ (by rfl) (by rfl) _ _ hrun ?_;clear hrun)
   go_roundw
   case rel=>exact ⟨k + 1,m + 8,by omega,by have:=hm8.out;omega,by go_num,⟨_,_,rfl⟩,hs4.out,hown4.out,hmF.out⟩
   case measure=>simp [intOf];omega
  ·obtain rfl:m = n:=by omega
   have hf:DSl wr (.slice va m vc) (CO (m / 8)):=by
    have hk8:m / 8 = k:=by omega
    rw [hk8];unfold DSl;rw [hcl.out,← hm8];exact Sl.of_owns hown
   refine hid5 ?_ hf hm hown hD hm8;clear hf hm hown hD hm8;intro hf hm hown hD hm8;go_wp2
   go_ret2
   exact ⟨_,rfl,hf.out,hm.out⟩
theorem rMAC_ok (hkv:Src w kv l) (hl:l.length = 16) (bl:Bytes l) (hu:Src w u iv) (hiv:iv.length = 8) (bi:Bytes iv) (hv:Src w v d) (hd:d.length≤1000000) (bd:Bytes d) :
  Calls Tryz.prog 88 #[kv,u,v] w fun e w'=>∃ r,e = .returned (.tuple #[r,errno 0])∧DSl w' r (Cy.mac l iv d)∧Mod Nowhere w w':=by
 have hP:=rPad_ok hv hd;have hpl:=Cy.padL_len d;have hE:=fun W r (hm:Mod Nowhere w W) (hr:DSl W r (Cy.padL d))=>rCBC_ok (hkv.fresh hm) hl bl (hu.fresh hm) hiv bi hr.src (Cy.padL_mod d) (by omega) (by omega) (bytes_pad bd);have hcl:=Cy.cbc_len (key:=l) (iv:=iv) (Cy.padL_mod d);have hge:=Cy.pad_ge d;have hmd:=Cy.mac_drop l iv d;have hml:=Cy.mac_len (key:=l) (d:=d) hiv;obtain ⟨ka,kc,rfl,-⟩:=hkv;obtain ⟨ua,uc,rfl,-⟩:=hu;obtain ⟨va,vc,rfl,-⟩:=hv;rw [hl] at hE ⊢;rw [hiv] at hE ⊢;generalize Cy.mac l iv d = mq at *;generalize Cy.cbc l iv (Cy.padL d) = cq at *
 generalize Cy.padL d = p at *;generalize d.length = n at *;obtain ⟨q,hq⟩:∃ q,p.length = q + 8:=⟨p.length - 8,by omega⟩;rw [hq] at hcl hmd;rw [Nat.add_sub_cancel] at hmd;clear hl bl hiv bi bd hge hpl;refine hid6 ?_ hP hE hq hcl hmd hml;clear hP hE hq hcl hmd hml;intro hP hE hq hcl hmd hml;go_enter Tryz.func88,Tryz.ntmps88;go_wp2_with fail;refine (hP.out).mono ?_;rintro e w1 ⟨r1,rfl,hD1,hm1⟩;have hE1:=hE.out w1 r1 hm1 hD1;obtain ⟨pa,pc,rfl,-⟩:=id hD1.src;rw [hq.out] at hE1 hD1 ⊢;refine hid3 ?_ hE1 hD1 hm1;clear hE1 hD1 hm1;intro hE1 hD1 hm1;clear hE hP;go_wp2_with fail;refine hE1.out.mono ?_;rintro e w2 ⟨r2,rfl,hD2,hm2⟩
 have hmA:=hm1.out.trans hm2;obtain ⟨cb,co,cc,rfl,g1,g2,-⟩:=id (hD2.src.form (by rw [hcl.out];omega));have hD3:=hD2.from (k:=q) (by rw [hcl.out];omega);rw [hcl.out,hmd.out,Nat.add_sub_cancel_left] at hD3;rw [hcl.out] at hD2 g1 ⊢;unfold maxLen at g2;refine hid4 ?_ hD2 hD3 hmA hm2;clear hD2 hD3 hmA hm2;intro hD2 hD3 hmA hm2;go_wp2
 go_ret2
 exact ⟨_,rfl,hD3.out,hmA.out⟩
end
end Go.Proofs.YtanioleniadhoaaGreat
