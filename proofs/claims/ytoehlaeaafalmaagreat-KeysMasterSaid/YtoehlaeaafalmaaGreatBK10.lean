/-
  EncryptCBC, MAC, Derive of the reference.
-/
import Derived.Test.YtoehlaeaafalmaaGreatProg
import Derived.Test.YtoehlaeaafalmaaGreatBK9
import Derived.Test.YtoehlaeaafalmaaGreatBSq
import Derived.Test.YtoehlaeaafalmaaGreatBG04
import Derived.Test.YtoehlaeaafalmaaGreatBG10
import Derived.Shelf.Bytes.SlEqualAll
import Derived.Test.YtoehlaeaafalmaaGreatBK7
import Derived.Test.YtoehlaeaafalmaaGreatBG36
set_option linter.unusedVariables false
set_option linter.unusedSimpArgs false
set_option maxRecDepth 100000
namespace Go.Proofs.YtoehlaeaafalmaaGreat
open Go.RowKit
open Jn
attribute [local go_sem] Oper.semAt_some
theorem append_own {w : World} {base : Nat} {v u : Value} {l d : List Nat} {n : Nat} (hn : l.length = n) (hown : w.ownsRow base 5 1 v n (u8s l)) (hs : Src w u d) (hl : n + d.length ≤ 1099511627776) (hb : base ≤ w.heap.size) (ty : TypeId) :
  ∃ va vcap w', (Builtin.append_ #[37, 37] ty #[v, u]).run Tryz.prog w = .ok (.slice va (n + d.length) vcap) w' ∧ w'.ownsRow base 5 1 (.slice va (n + d.length) vcap) (n + d.length) (u8s (l ++ d)) ∧ Mod (Own1 v) w w' := by
 obtain ⟨i0, hi0, hz0, hz1, hz2⟩ := info_parts info_u8;obtain ⟨ua, uc, rfl, hc1, hc2, hcell⟩ := hs;by_cases hm : d.length = 0
 ·obtain ⟨a, c, rfl, hc⟩ := owns_form hown
  have hy : d = [] := List.eq_nil_of_length_eq_zero hm;subst hy;rw [List.append_nil];exact ⟨a, c, w, run_append_empty (P := Tryz.prog) w 37 ty 5 i0 Tryz.underlying37 hi0 a ua n c uc hc, hown, Mod.refl _ _⟩
 ·obtain ⟨b, off, rfl, hbl, hcs⟩ := hcell (by omega)
  have hul : (u8s d).length = d.length := by simp [u8s]
  have hnews : ∀ j x, (u8s d)[j]? = some x → w.cell? ((⟨b, off, none⟩ : Addr).add j) = some x := fun j x hj => by
   have hjl := (List.getElem?_eq_some_iff.1 hj).1;rw [hul] at hjl;rw [add_lit, hcs j hjl, ← u8s_at d j hjl, List.getD_eq_getElem?_getD, hj]; rfl
  obtain ⟨g, gc, w', hr, ho, hg, _, _⟩ := run_append_lies (P := Tryz.prog) w 37 ty base 5 i0 (.int .u8 0) 1 1 Tryz.underlying37 hi0 hz0 hz1 hz2 rfl (by decide) v n (u8s l) hown ⟨b, off, none⟩ d.length uc (u8s d) (by rw [hul]; omega) hnews (one_u8s d) (by omega) (by unfold maxLen; omega) (by omega) hb _ rfl;rw [← u8s_append] at ho;exact ⟨_, gc, w', hr, ho, Mod.own1 hg⟩
section
variable {w : World} {kv u v : Value} {l iv d m : List Nat}
theorem rEncrypt_own (hv : Src w v l) (hl : l.length = 16) (bl : Bytes l) (hu : Src w u m) (hm : m.length = 8) (bm : Bytes m) :
  Calls Tryz.prog 109 #[v, u] w fun e w' => ∃ r, e = .returned (.tuple #[r, errno 0]) ∧ DSl w' r (Cy.encB l m) ∧ (∀ k, r.ownBlock = some k → w.heap.size ≤ k) ∧ Mod Nowhere w w' := by
 obtain ⟨b, off, cap, rfl, c1, c2, hb⟩ := hv.form (by omega);obtain ⟨b', off', cap', rfl, c3, c4, hb'⟩ := hu.form (by omega);rw [hl] at c1 ⊢;rw [hm] at c3 ⊢;refine (rEncrypt_ok w b off cap b' off' cap' l m hb hl (bytes_mem.1 bl) c1 c2 hb' hm (bytes_mem.1 bm) c3 c4).mono ?_;rintro e w' ⟨g, rfl, hB, hg, hmm⟩;refine ⟨_, rfl, ?_, fun k hk => by simp only [Value.ownBlock, Option.some.injEq] at hk; omega, hmm⟩;have hel := Cy.encB_len l m;generalize Cy.encB l m = q at *;unfold DSl;rw [hel];exact sl_whole (sz := 1) (n := 8) hB (by rw [u8s, List.length_map, hel]) (by decide)
set_option maxHeartbeats 4000000 in
theorem rCBC_ok (hkv : Src w kv l) (hl : l.length = 16) (bl : Bytes l) (hu : Src w u iv) (hiv : iv.length = 8) (bi : Bytes iv) (hv : Src w v d) (hd8 : d.length % 8 = 0) (hd : d.length ≤ 2000000) (h0 : 0 < d.length) (bd : Bytes d) :
  Calls Tryz.prog 144 #[kv, u, v] w fun e w' => ∃ r, e = .returned (.tuple #[r, errno 0]) ∧ DSl w' r (Cy.cbc l iv d) ∧ Mod Nowhere w w' := by
 obtain ⟨db, doff, dc, rfl, hc1, hc2, -⟩ := id (hv.form h0);have hX := fun W (hm : Mod Nowhere w W) k r (hr : Src W r (Cy.st l iv d k)) (k8 : 8 * k + 8 ≤ d.length) => rxor_ok ((hv.fresh hm).blk k8) hr (Cy.blk_len k8) (Cy.st_len hiv k) (bytes_blk bd k) (bytes_st bi k);have hE := fun W (hm : Mod Nowhere w W) k r (k8 : 8 * k + 8 ≤ d.length) (hr : DSl W r (Cy.xorL (Cy.blk d k) (Cy.st l iv d k))) => rEncrypt_own (hkv.fresh hm) hl bl hr.src (Cy.xorL_len _ _) (bytes_xor (bytes_blk bd k) (bytes_st bi k));obtain ⟨ka, kc, rfl, -⟩ := id hkv;obtain ⟨ua, uc, rfl, -⟩ := id hu;have hcl := Cy.cout_len l iv d;have hsl := Cy.st_len (key := l) (d := d) hiv;have hst1 : ∀ k, Cy.st l iv d (k + 1) = Cy.encB l (Cy.xorL (Cy.blk d k) (Cy.st l iv d k)) := fun k => rfl
 have hcb : Cy.cbc l iv d = Cy.cout l iv d (d.length / 8) := rfl;have hc0 : Cy.cout l iv d 0 = [] := rfl;have hc1' : ∀ k, Cy.cout l iv d (k + 1) = Cy.cout l iv d k ++ Cy.st l iv d (k + 1) := fun k => rfl;have hu0 : Src w (.slice ua 8 uc) (Cy.st l iv d 0) := by rw [← hiv]; exact hu
 have hxl := fun k => Cy.xorL_len (Cy.blk d k) (Cy.st l iv d k);simp only [← hst1] at hE;rw [hl] at hE ⊢;rw [hiv];rw [hcb];generalize Cy.cout l iv d = CO at *;generalize Cy.st l iv d = ST at *;generalize hXL : (fun k => Cy.xorL (Cy.blk d k) (ST k)) = XL at *;have hXk : ∀ k, Cy.xorL (Cy.blk d k) (ST k) = XL k := fun k => by rw [← hXL]
 simp only [hXk] at hX hE hxl;clear hst1 hkv hl bl hu hiv bi hv bd hcb hXL hXk;generalize hn : d.length = n at *;have htm : (n : Int).tmod 8 = 0 := by rw [Int.tmod_eq_emod_of_nonneg (by omega)]; omega
 unfold maxLen at hc2;refine hid9 ?_ hX hE hcl hsl hc0 hc1' hn hu0 hxl; clear hX hE hcl hsl hc0 hc1' hn hu0 hxl; intro hX hE hcl hsl hc0 hc1' hn hu0 hxl;go_enter Tryz.func144, Tryz.ntmps144;go_wp2
 go_loopw [1, 8, 9] (fun v1 v8 i wr => ∃ k m : Nat, m ≤ n ∧ m = 8 * k ∧ i = .int .i64 m ∧ (∃ a c, v1 = .slice a 8 c) ∧ Src wr v1 (ST k) ∧ wr.ownsRow w.heap.size 5 1 v8 m (u8s (CO k)) ∧ Mod Nowhere w wr) (fun _ _ i _ => n - (intOf i).toNat)
 case atStart => exact ⟨0, 0, by omega, rfl, rfl, ⟨_, _, rfl⟩, hu0.out, by rw [hc0.out]; exact World.ownsRow_nil _ _ _ _, Mod.refl _ _⟩
 case round =>
  obtain ⟨k, m, hk, hm8, rfl, ⟨ca, cc, rfl⟩, hD, hown, hm⟩ := hrel;obtain ⟨va, vc, rfl, -⟩ := owns_form hown;by_cases hlt : m < n
  ·have hmn : m + 8 ≤ n := by omega
   have hx := hX.out wr hm k _ hD (by omega);rw [← hm8] at hx;have hcok := hc1'.out k;refine hid6 ?_ hx hD hown hm hm8 hcok; clear hx hD hown hm hm8 hcok; intro hx hD hown hm hm8 hcok;clear hX hu0;go_wp2_with fail;refine hx.out.mono ?_;rintro e w2 ⟨r, rfl, hd2, hm2⟩;have hm02 := hm.out.trans hm2;have hy := hE.out w2 hm02 k r (by have := hm8.out; omega) hd2;obtain ⟨ra, rc, rfl, -⟩ := id hd2.src;rw [hxl.out] at hd2 hy ⊢;refine hid4 ?_ hd2 hy hm2 hm02; clear hd2 hy hm2 hm02; intro hd2 hy hm2 hm02;clear hE;go_wp2_with fail;refine hy.out.mono ?_;rintro e w3 ⟨r3, rfl, hd3, hfr3, hm3⟩;have hm03 := hm02.out.trans hm3;obtain ⟨xa, xc, rfl, -⟩ := id hd3.src
   rw [hsl.out] at hd3 hfr3 ⊢;have hown3 := owns_mod hown.out (hm2.out.trans hm3) (fun _ _ e => e);obtain ⟨va4, vc4, w4, hrun, hown4, hmO⟩ := append_own (l := CO k) (d := ST (k + 1)) (by rw [hcl.out, hm8.out]) hown3 hd3.src (by rw [hsl.out]; omega) hm03.size 37;rw [hsl.out] at hrun hown4;rw [← hcok.out] at hown4;have hab := Own1.above hown3;have hlt1 := fun k hk => (hown.out.lt k hk).2;have hsz2 := hm2.out.size
   have hd4 : DSl w4 (.slice xa 8 xc) (ST (k + 1)) := Sl.mod hd3 hmO fun j hj e => by
    have h1 := hfr3 j hj;have h2 := hlt1 j e;omega
   have hmF := hm03.step hmO fun i hi e => by have := (hab i e).1; omega
   have hs4 := hd4.src;clear hd3 hfr3 hown3 hab hlt1 hsz2 hmO hm03 hd4 hm3;refine hid3 ?_ hown4 hmF hs4; clear hown4 hmF hs4; intro hown4 hmF hs4
   go_wp2_with (at_builtin; refine Lib.wpList_append_run _ rfl _ _ _ _ rfl _ _ (by rfl) (by rfl) _ _ hrun ?_; clear hrun)
   go_roundw
   case rel => exact ⟨k + 1, m + 8, by omega, by have := hm8.out; omega, by go_num, ⟨_, _, rfl⟩, hs4.out, hown4.out, hmF.out⟩
   case measure => simp [intOf]; omega
  ·obtain rfl : m = n := by omega
   have hf : DSl wr (.slice va m vc) (CO (m / 8)) := by
    have hk8 : m / 8 = k := by omega
    rw [hk8];unfold DSl;rw [hcl.out, ← hm8];exact Sl.of_owns hown
   refine hid5 ?_ hf hm hown hD hm8; clear hf hm hown hD hm8; intro hf hm hown hD hm8;go_wp2
   go_ret2
   exact ⟨_, rfl, hf.out, hm.out⟩
set_option maxHeartbeats 1000000 in
theorem rMAC_ok (hkv : Src w kv l) (hl : l.length = 16) (bl : Bytes l) (hu : Src w u iv) (hiv : iv.length = 8) (bi : Bytes iv) (hv : Src w v d) (hd : d.length ≤ 1000000) (bd : Bytes d) :
  Calls Tryz.prog 103 #[kv, u, v] w fun e w' => ∃ r, e = .returned (.tuple #[r, errno 0]) ∧ DSl w' r (Cy.mac l iv d) ∧ Mod Nowhere w w' := by
 have hP := rPad_ok hv hd;have hpl := Cy.padL_len d;have hE := fun W r (hm : Mod Nowhere w W) (hr : DSl W r (Cy.padL d)) => rCBC_ok (hkv.fresh hm) hl bl (hu.fresh hm) hiv bi hr.src (Cy.padL_mod d) (by omega) (by omega) (bytes_pad bd);have hcl := Cy.cbc_len (key := l) (iv := iv) (Cy.padL_mod d);have hge := Cy.pad_ge d;have hmd := Cy.mac_drop l iv d;have hml := Cy.mac_len (key := l) (d := d) hiv;obtain ⟨ka, kc, rfl, -⟩ := hkv;obtain ⟨ua, uc, rfl, -⟩ := hu;obtain ⟨va, vc, rfl, -⟩ := hv;rw [hl] at hE ⊢;rw [hiv] at hE ⊢;generalize Cy.mac l iv d = mq at *;generalize Cy.cbc l iv (Cy.padL d) = cq at *
 generalize Cy.padL d = p at *;generalize d.length = n at *;obtain ⟨q, hq⟩ : ∃ q, p.length = q + 8 := ⟨p.length - 8, by omega⟩;rw [hq] at hcl hmd;rw [Nat.add_sub_cancel] at hmd;clear hl bl hiv bi bd hge hpl;refine hid6 ?_ hP hE hq hcl hmd hml; clear hP hE hq hcl hmd hml; intro hP hE hq hcl hmd hml;go_enter Tryz.func103, Tryz.ntmps103;go_wp2_with fail;refine (hP.out).mono ?_;rintro e w1 ⟨r1, rfl, hD1, hm1⟩;have hE1 := hE.out w1 r1 hm1 hD1;obtain ⟨pa, pc, rfl, -⟩ := id hD1.src;rw [hq.out] at hE1 hD1 ⊢;refine hid3 ?_ hE1 hD1 hm1; clear hE1 hD1 hm1; intro hE1 hD1 hm1;clear hE hP;go_wp2_with fail;refine hE1.out.mono ?_;rintro e w2 ⟨r2, rfl, hD2, hm2⟩
 have hmA := hm1.out.trans hm2;obtain ⟨cb, co, cc, rfl, g1, g2, -⟩ := id (hD2.src.form (by rw [hcl.out]; omega));have hD3 := hD2.from (k := q) (by rw [hcl.out]; omega);rw [hcl.out, hmd.out, Nat.add_sub_cancel_left] at hD3;rw [hcl.out] at hD2 g1 ⊢;unfold maxLen at g2;refine hid4 ?_ hD2 hD3 hmA hm2; clear hD2 hD3 hmA hm2; intro hD2 hD3 hmA hm2;go_wp2
 go_ret2
 exact ⟨_, rfl, hD3.out, hmA.out⟩
set_option maxHeartbeats 2000000 in
theorem rDerive_ok {vi : Value} {info : List Nat} (hkv : Src w kv l) (hl : l.length = 16) (bl : Bytes l) (hi : Src w vi info) (hin : info.length ≤ 100000) (bi : Bytes info) :
  Calls Tryz.prog 66 #[kv, vi] w fun e w' => ∃ r, e = .returned (.tuple #[r, errno 0]) ∧ DSl w' r (Cy.dk l info 2) ∧ Mod Nowhere w w' := by
 have hZ := fun W => rZ_ok W;have hBh := fun W x (hm : Mod Nowhere w W) => rbehind_ok x (hi.fresh hm) (by omega)
 have hM := fun W u v k (hm : Mod Nowhere w W) (hk : k < 2) (hu : Src W u Cy.zeros) (hv : DSl W v ((k + 1) :: info)) => rMAC_ok (hkv.fresh hm) hl bl hu rfl bytes_z hv.src (by rw [List.length_cons]; omega) (bytes_mem.2 fun x hx => by
  rcases List.mem_cons.1 hx with rfl | hx
  ·omega
  ·exact bytes_mem.1 bi x hx)
 have hml := fun k => Cy.mac_len (key := l) (iv := Cy.zeros) (d := (k + 1) :: info) rfl;have hd1 : Cy.dk l info 2 = Cy.mac l Cy.zeros (1 :: info) ++ Cy.mac l Cy.zeros (2 :: info) := rfl;have hll : ∀ k, ((k + 1) :: info).length = info.length + 1 := fun k => List.length_cons;have hM0 := fun W u v hm hu hv => hM W u v 0 hm (by decide) hu hv;have hM1 := fun W u v hm hu hv => hM W u v 1 hm (by decide) hu hv;have hl0 := hll 0; have hl1 := hll 1; have ml0 := hml 0; have ml1 := hml 1;have hB1 := fun W hm => hBh W 1 hm;have hB2 := fun W hm => hBh W 2 hm;obtain ⟨ka, kc, rfl, -⟩ := hkv;obtain ⟨ia, ic, rfl, -⟩ := hi;rw [hl] at hM0 hM1 ⊢
 rw [hd1];clear hM hml hd1 hll hBh bi hl bl;simp only [Nat.zero_add, show 1 + 1 = 2 from rfl] at hM0 hM1 hl0 hl1 ml0 ml1;generalize Cy.mac l Cy.zeros (1 :: info) = m1 at *;generalize Cy.mac l Cy.zeros (2 :: info) = m2 at *;generalize info.length = n at *;refine hid9 ?_ hZ hB1 hB2 hM0 hM1 hl0 hl1 ml0 ml1; clear hZ hB1 hB2 hM0 hM1 hl0 hl1 ml0 ml1; intro hZ hB1 hB2 hM0 hM1 hl0 hl1 ml0 ml1;go_enter Tryz.func66, Tryz.ntmps66;go_wp2_with fail;refine (hZ.out w).mono ?_;rintro e w1 ⟨z1, rfl, hz1, hma⟩;have hb := hB1.out w1 hma;obtain ⟨za, zc, rfl, -⟩ := id (hz1 w1 (Mod.refl _ _));refine hid3 ?_ hz1 hma hb; clear hz1 hma hb; intro hz1 hma hb
 go_wp2_with fail;refine hb.out.mono ?_;rintro e w2 ⟨r1, rfl, hr1, hmb⟩;have hm02 := hma.out.trans hmb;have hx := hM0.out w2 _ _ hm02 (hz1.out w2 hmb) hr1;obtain ⟨ra, rc, rfl, -⟩ := id hr1.src;rw [hl0.out] at hr1 hx ⊢;refine hid4 ?_ hr1 hx hmb hm02; clear hr1 hx hmb hm02; intro hr1 hx hmb hm02;clear hb;go_wp2_with fail;refine hx.out.mono ?_;rintro e w3 ⟨r3, rfl, hr3, hmc⟩;have hm03 := hm02.out.trans hmc;obtain ⟨xa, xc, rfl, -⟩ := id hr3.src;rw [ml0.out] at hr3 ⊢;refine hid3 ?_ hr3 hmc hm03; clear hr3 hmc hm03; intro hr3 hmc hm03;clear hx hr1 hmb hm02 hz1 hma;go_wp2_with fail;refine (hZ.out w3).mono ?_;rintro e w4 ⟨z2, rfl, hz2, hmd⟩
 have hm04 := hm03.out.trans hmd;have hb := hB2.out w4 hm04;have hr4 := hr3.out.fresh hmd;obtain ⟨zb, zd, rfl, -⟩ := id (hz2 w4 (Mod.refl _ _));refine hid5 ?_ hz2 hmd hb hm04 hr4; clear hz2 hmd hb hm04 hr4; intro hz2 hmd hb hm04 hr4;clear hr3 hmc hm03;go_wp2_with fail;refine hb.out.mono ?_;rintro e w5 ⟨r5, rfl, hr5, hme⟩;have hm05 := hm04.out.trans hme;have hx := hM1.out w5 _ _ hm05 (hz2.out w5 hme) hr5;have hr6 := hr4.out.fresh hme;obtain ⟨rb, rd, rfl, -⟩ := id hr5.src;rw [hl1.out] at hr5 hx ⊢;refine hid5 ?_ hr5 hx hme hm05 hr6; clear hr5 hx hme hm05 hr6; intro hr5 hx hme hm05 hr6;clear hb hr4 hmd hm04 hz2
 go_wp2_with fail;refine hx.out.mono ?_;rintro e w7 ⟨r7, rfl, hr7, hmf⟩;have hm07 := hm05.out.trans hmf;have hr8 := hr6.out.fresh hmf;obtain ⟨xb, xd, rfl, -⟩ := id hr7.src;rw [ml1.out] at hr7 ⊢;obtain ⟨va1, vc1, w8, g1, ho1, hn1⟩ := append_src (World.ownsRow_nil w7 w7.heap.size 5 1) hr8.src (by rw [ml0.out]; decide) (Nat.le_refl _) 37;have hr9 : DSl w8 (.slice xb 8 xd) m2 := DSl.mod hr7 hn1 (Shun.above (Nat.le_refl _));have hm08 := hm07.step hn1 fun i hi e => by have h1 := hm07.size; have e : w7.heap.size ≤ i := e; omega
 rw [ml0.out] at ho1 g1;obtain ⟨va2, vc2, w9, g2, ho2, hn2⟩ := append_to ml0.out ho1 hr9.src (by rw [ml1.out]; decide) hn1.size 37;rw [ml1.out] at ho2 g2;have hm09 := hm08.step hn2 fun i hi e => by have h1 := hm07.size; have e : w7.heap.size ≤ i := e; omega
 have hf : DSl w9 (.slice va2 (8 + 8) vc2) (m1 ++ m2) := by
  unfold DSl;rw [List.length_append, ml0.out, ml1.out];exact Sl.of_owns ho2
 clear hr7 hr8 hr9 ho1 ho2 hn1 hn2 hm07 hm08 hmf hx hr5 hme hm05 hr6 hB1 hB2 hM0 hM1 hZ;refine hid2 ?_ hf hm09; clear hf hm09; intro hf hm09
 go_wp2_with (at_builtin; refine Lib.wpList_append_run _ rfl _ _ _ _ rfl _ _ (by rfl) (by rfl) _ _ (by first | exact g1 | exact g2) ?_)
 go_ret2
 exact ⟨_, rfl, hf.out, hm09.out⟩
end
theorem info_key : (Tryz.prog.info? 39).map (fun i => (i.zero, i.size, i.bytes)) = some (some (Value.agg #[.int .i64 0, .int .i64 0, .slice none 0 0, .int .i64 0]), 4, 48) := by kernel_rfl
def mkc (st : Nat) (f : Nat → Value) : Nat → List Value
 | 0 => []
 | k + 1 => mkc st f k ++ [.int .i64 (st : Int), .int .i64 ((k : Int) + 1), f k, .int .i64 10]
theorem mkc_congr (st : Nat) {f g : Nat → Value} : ∀ k, (∀ j, j < k → f j = g j) → mkc st f k = mkc st g k
 | 0, _ => rfl
 | k + 1, h => by rw [mkc, mkc, mkc_congr st k (fun j hj => h j (by omega)), h k (by omega)]
theorem mkc_more (st : Nat) (f : Nat → Value) (k : Nat) (v : Value) : mkc st f k ++ [.int .i64 (st : Int), .int .i64 ((k : Int) + 1), v, .int .i64 10] = mkc st (fun j => if j = k then v else f j) (k + 1) := by
 rw [mkc, if_pos rfl, mkc_congr st (f := f) (g := fun j => if j = k then v else f j) k (fun j hj => (if_neg (by omega)).symm)]
def KVs (W : World) (l : List Nat) (st : Nat) (f : Nat → Value) (k : Nat) : Prop := ∀ j, j < k → ∃ a c, f j = .slice a 16 c ∧ DSl W (.slice a 16 c) (Cy.dk l [st, j + 1] 2)
theorem KVs.fresh {W W' : World} {l : List Nat} {st : Nat} {f : Nat → Value} {k : Nat} (h : KVs W l st f k) (hm : Mod Nowhere W W') : KVs W' l st f k := fun j hj => by
 obtain ⟨a, c, e, hd⟩ := h j hj;exact ⟨a, c, e, hd.fresh hm⟩
theorem KVs.keep {S : Nat → Prop} {W W' : World} {l : List Nat} {st : Nat} {f : Nat → Value} {k : Nat} (h : KVs W l st f k) (hm : Mod S W W') (hS : Shun S W 5) : KVs W' l st f k := fun j hj => by
 obtain ⟨a, c, e, hd⟩ := h j hj;exact ⟨a, c, e, DSl.mod hd hm hS⟩
theorem KVs.more {W : World} {l : List Nat} {st : Nat} {f : Nat → Value} {k c : Nat} {a : Option Addr} (h : KVs W l st f k) (hd : DSl W (.slice a 16 c) (Cy.dk l [st, k + 1] 2)) : KVs W l st (fun j => if j = k then .slice a 16 c else f j) (k + 1) := fun j hj => by
 by_cases e : j = k
 ·subst e
  exact ⟨a, c, if_pos rfl, hd⟩
 ·obtain ⟨a', c', e', hd'⟩ := h j (by omega)
  exact ⟨a', c', (if_neg e).trans e', hd'⟩
def KMPost (l : List Nat) (st : Nat) (w : World) (e : Ending) (w' : World) : Prop := ∃ va vc f, e = .returned (.tuple #[.slice va 6 vc, errno 0]) ∧ Sl w' (.slice va 6 vc) 39 4 6 (mkc st f 6) ∧ KVs w' l st f 6 ∧ Mod Nowhere w w'
section
variable {w : World} {kv : Value} {l : List Nat}
set_option maxHeartbeats 4000000 in
theorem kMaster_ok (st : Nat) (h1 : 1 ≤ st) (h8 : st ≤ 8) (hkv : Src w kv l) (hl : l.length = 16) (bl : Bytes l) :
  Calls Tryz.prog 28 #[.int .i64 (st : Nat), kv] w (KMPost l st w) := by
 have hD := fun W u k (hm : Mod Nowhere w W) (hk : k < 6) (hu : Src W u [st, k + 1]) => mDerive_ok (hkv.fresh hm) hl bl hu (show 2 ≤ 100000 by decide) (bytes_mem.2 fun x hx => by
  simp only [List.mem_cons, List.not_mem_nil, or_false] at hx
  rcases hx with rfl | rfl <;> omega)
 have hdl := fun k => Cy.dk_len l [st, k + 1] 2;obtain ⟨ka, kc, rfl, -⟩ := hkv;rw [hl] at hD ⊢;have hfin : ∀ W va vc f, Mod Nowhere w W → Sl W (.slice va 6 vc) 39 4 6 (mkc st f 6) → KVs W l st f 6 → KMPost l st w (.returned (.tuple #[.slice va 6 vc, errno 0])) W := fun W va vc f hm hs hk => ⟨va, vc, f, rfl, hs, hk, hm⟩;generalize KMPost l st w = R at *;clear hl bl;have hst8 : IntKind.u8.wrap (st : Int) = (st : Int) := by rw [IntKind.wrap_u8]; omega
 have g1 : ¬ (st : Int) < 1 := by omega
 have g2 : ¬ (8 : Int) < (st : Int) := by omega
 refine hid3 ?_ hD hdl hfin; clear hD hdl hfin; intro hD hdl hfin;go_enter Tryz.func28, Tryz.ntmps28;go_wp2
 go_loopw [6, 7] (fun v i wr => ∃ (k : Nat) (f : Nat → Value), k ≤ 6 ∧ i = .int .i64 ((k : Int) + 1) ∧ wr.ownsRow w.heap.size 39 4 v k (mkc st f k) ∧ KVs wr l st f k ∧ Mod Nowhere w wr) (fun _ i _ => 7 - (intOf i).toNat)
 case atStart => exact ⟨0, fun _ => undef, by omega, rfl, World.ownsRow_nil _ _ _ _, fun j hj => by omega, Mod.refl _ _⟩
 case round =>
  obtain ⟨k, f, hk, rfl, hown, hkv, hm⟩ := hrel;obtain ⟨va, vc, rfl, -⟩ := owns_form hown;by_cases hlt : k < 6
  ·have hki : (k : Int) + 1 ≤ 6 := by omega
   have hw8 : IntKind.u8.wrap ((k : Int) + 1) = (k : Int) + 1 := by rw [IntKind.wrap_u8]; omega
   have hma : Mod Nowhere wr (wr.alloc (.cells (u8s [st, k + 1]).toArray 5)) := (Mod.refl _ _).alloc _;have hs2 : Src (wr.alloc (.cells (u8s [st, k + 1]).toArray 5)) (.slice (some ⟨wr.heap.size, 0, none⟩) 2 2) [st, k + 1] := DSl.src (d := [st, k + 1]) (sl_whole (sz := 1) (n := 2) (Blk.new wr (u8s [st, k + 1]) 5) rfl (by decide));have hmA := hm.trans hma;have hc := hD.out _ _ k hmA hlt hs2;have hu8 : (u8s [st, k + 1]).toArray = #[.int .u8 (st : Int), .int .u8 ((k : Int) + 1)] := by simp [u8s]
   have hown2 := owns_mod hown hma (fun _ _ e => e);have hkv2 := hkv.fresh hma;rw [hu8] at hc hmA hown2 hkv2;clear hma hs2 hu8;refine hid7 ?_ hown hkv hm hc hmA hown2 hkv2; clear hown hkv hm hc hmA hown2 hkv2; intro hown hkv hm hc hmA hown2 hkv2;clear hD;go_wp2_with fail;refine hc.out.mono ?_;rintro e w2 ⟨r, rfl, hd2, hm2⟩;obtain ⟨ra, rc, rfl, -⟩ := id hd2.src;rw [hdl.out] at hd2 ⊢;have hm02 := hmA.out.trans hm2;have hown3 := owns_mod hown2.out hm2 (fun _ _ e => e);have hkv3 := (hkv2.out.fresh hm2).more hd2;obtain ⟨va2, vc2, w4, hrun, hown4, hmO⟩ := run_app1 Tryz.underlying47 info_key rfl (by decide) hown3 (news := [.int .i64 (st : Int), .int .i64 ((k : Int) + 1), .slice ra (8 * 2) rc, .int .i64 10]) rfl (by intro u hu; simp only [List.mem_cons, List.not_mem_nil, or_false] at hu; rcases hu with rfl | rfl | rfl | rfl <;> rfl) (by omega) (by omega) hm02.size;have hab := Own1.above hown3
   have hblk := Own1.blk hown3;have hmF := hm02.step hmO fun i hi e => by have := (hab i e).1; omega
   have hkv4 := hkv3.keep hmO fun i hi cs hb => by
    obtain ⟨cs', hb'⟩ := hblk i hi;exact absurd (hb.inj hb').2 (by decide)
   have hmc : mkc st f k ++ [.int .i64 (st : Int), .int .i64 ((k : Int) + 1), .slice ra (8 * 2) rc, .int .i64 10] = mkc st (fun j => if j = k then .slice ra (8 * 2) rc else f j) (k + 1) := mkc_more st f k _;rw [hmc] at hown4;clear hd2 hown3 hkv3 hab hblk hmO hmc hm02 hm2 hc hmA hown2 hkv2 hown hkv hm;refine hid3 ?_ hown4 hkv4 hmF; clear hown4 hkv4 hmF; intro hown4 hkv4 hmF
   go_wp2_with (at_builtin; refine Lib.wpList_append_run _ rfl _ _ _ _ rfl _ _ (by rfl) (by rfl) _ _ hrun ?_; clear hrun)
   go_roundw
   case rel => exact ⟨k + 1, _, by omega, by go_num, hown4.out, hkv4.out, hmF.out⟩
   case measure => simp [intOf]; omega
  ·obtain rfl : k = 6 := by omega
   have hf := hfin.out wr va vc f hm (Sl.of_owns hown) hkv;refine hid4 ?_ hf hown hkv hm; clear hf hown hkv hm; intro hf hown hkv hm;go_wp2;exact hf.out
set_option maxHeartbeats 1000000 in
theorem kMaster_bad (st : Int) (h : st < 1 ∨ 8 < st) (n c : Nat) (a : Option Addr) :
  Calls Tryz.prog 28 #[.int .i64 st, .slice a n c] w fun e w' => e = .returned (.tuple #[.slice none 0 0, errno 2]) ∧ w' = w := by
 by_cases h1 : st < 1
 ·go_enter Tryz.func28, Tryz.ntmps28
  go_wp2
  go_ret2
  exact ⟨rfl, rfl⟩
 ·have h8 : 8 < st := by omega
  go_enter Tryz.func28, Tryz.ntmps28;go_wp2
  go_ret2
  exact ⟨rfl, rfl⟩
set_option maxHeartbeats 1000000 in
theorem kMaster_len (st : Int) (h1 : 1 ≤ st) (h8 : st ≤ 8) (n c : Nat) (a : Option Addr) (hn : n ≠ 16) :
  Calls Tryz.prog 28 #[.int .i64 st, .slice a n c] w fun e w' => e = .returned (.tuple #[.slice none 0 0, errno 19]) ∧ w' = w := by
 have g1 : ¬ st < 1 := by omega
 have g2 : ¬ 8 < st := by omega
 have g3 : ¬ (n : Int) = 16 := by omega
 go_enter Tryz.func28, Tryz.ntmps28;go_wp2
 go_ret2
 exact ⟨rfl, rfl⟩
set_option maxHeartbeats 4000000 in
theorem rMaster_ok (st : Nat) (h1 : 1 ≤ st) (h8 : st ≤ 8) (hkv : Src w kv l) (hl : l.length = 16) (bl : Bytes l) :
  Calls Tryz.prog 29 #[.int .i64 (st : Nat), kv] w (KMPost l st w) := by
 have hD := fun W u k (hm : Mod Nowhere w W) (hk : k < 6) (hu : Src W u [st, k + 1]) => rDerive_ok (hkv.fresh hm) hl bl hu (show 2 ≤ 100000 by decide) (bytes_mem.2 fun x hx => by
  simp only [List.mem_cons, List.not_mem_nil, or_false] at hx
  rcases hx with rfl | rfl <;> omega)
 have hdl := fun k => Cy.dk_len l [st, k + 1] 2;obtain ⟨ka, kc, rfl, -⟩ := hkv;rw [hl] at hD ⊢;have hfin : ∀ W va vc f, Mod Nowhere w W → Sl W (.slice va 6 vc) 39 4 6 (mkc st f 6) → KVs W l st f 6 → KMPost l st w (.returned (.tuple #[.slice va 6 vc, errno 0])) W := fun W va vc f hm hs hk => ⟨va, vc, f, rfl, hs, hk, hm⟩;generalize KMPost l st w = R at *;clear hl bl;have hst8 : IntKind.u8.wrap (st : Int) = (st : Int) := by rw [IntKind.wrap_u8]; omega
 have g1 : ¬ (st : Int) < 1 := by omega
 have g2 : ¬ (8 : Int) < (st : Int) := by omega
 refine hid3 ?_ hD hdl hfin; clear hD hdl hfin; intro hD hdl hfin;go_enter Tryz.func29, Tryz.ntmps29;go_wp2
 go_loopw [6, 7] (fun v i wr => ∃ (k : Nat) (f : Nat → Value), k ≤ 6 ∧ i = .int .i64 ((k : Int) + 1) ∧ wr.ownsRow w.heap.size 39 4 v k (mkc st f k) ∧ KVs wr l st f k ∧ Mod Nowhere w wr) (fun _ i _ => 7 - (intOf i).toNat)
 case atStart => exact ⟨0, fun _ => undef, by omega, rfl, World.ownsRow_nil _ _ _ _, fun j hj => by omega, Mod.refl _ _⟩
 case round =>
  obtain ⟨k, f, hk, rfl, hown, hkv, hm⟩ := hrel;obtain ⟨va, vc, rfl, -⟩ := owns_form hown;by_cases hlt : k < 6
  ·have hki : (k : Int) + 1 ≤ 6 := by omega
   have hw8 : IntKind.u8.wrap ((k : Int) + 1) = (k : Int) + 1 := by rw [IntKind.wrap_u8]; omega
   have hma : Mod Nowhere wr (wr.alloc (.cells (u8s [st, k + 1]).toArray 5)) := (Mod.refl _ _).alloc _;have hs2 : Src (wr.alloc (.cells (u8s [st, k + 1]).toArray 5)) (.slice (some ⟨wr.heap.size, 0, none⟩) 2 2) [st, k + 1] := DSl.src (d := [st, k + 1]) (sl_whole (sz := 1) (n := 2) (Blk.new wr (u8s [st, k + 1]) 5) rfl (by decide));have hmA := hm.trans hma;have hc := hD.out _ _ k hmA hlt hs2;have hu8 : (u8s [st, k + 1]).toArray = #[.int .u8 (st : Int), .int .u8 ((k : Int) + 1)] := by simp [u8s]
   have hown2 := owns_mod hown hma (fun _ _ e => e);have hkv2 := hkv.fresh hma;rw [hu8] at hc hmA hown2 hkv2;clear hma hs2 hu8;refine hid7 ?_ hown hkv hm hc hmA hown2 hkv2; clear hown hkv hm hc hmA hown2 hkv2; intro hown hkv hm hc hmA hown2 hkv2;clear hD;go_wp2_with fail;refine hc.out.mono ?_;rintro e w2 ⟨r, rfl, hd2, hm2⟩;obtain ⟨ra, rc, rfl, -⟩ := id hd2.src;rw [hdl.out] at hd2 ⊢;have hm02 := hmA.out.trans hm2;have hown3 := owns_mod hown2.out hm2 (fun _ _ e => e);have hkv3 := (hkv2.out.fresh hm2).more hd2;obtain ⟨va2, vc2, w4, hrun, hown4, hmO⟩ := run_app1 Tryz.underlying47 info_key rfl (by decide) hown3 (news := [.int .i64 (st : Int), .int .i64 ((k : Int) + 1), .slice ra (8 * 2) rc, .int .i64 10]) rfl (by intro u hu; simp only [List.mem_cons, List.not_mem_nil, or_false] at hu; rcases hu with rfl | rfl | rfl | rfl <;> rfl) (by omega) (by omega) hm02.size;have hab := Own1.above hown3
   have hblk := Own1.blk hown3;have hmF := hm02.step hmO fun i hi e => by have := (hab i e).1; omega
   have hkv4 := hkv3.keep hmO fun i hi cs hb => by
    obtain ⟨cs', hb'⟩ := hblk i hi;exact absurd (hb.inj hb').2 (by decide)
   have hmc : mkc st f k ++ [.int .i64 (st : Int), .int .i64 ((k : Int) + 1), .slice ra (8 * 2) rc, .int .i64 10] = mkc st (fun j => if j = k then .slice ra (8 * 2) rc else f j) (k + 1) := mkc_more st f k _;rw [hmc] at hown4;clear hd2 hown3 hkv3 hab hblk hmO hmc hm02 hm2 hc hmA hown2 hkv2 hown hkv hm;refine hid3 ?_ hown4 hkv4 hmF; clear hown4 hkv4 hmF; intro hown4 hkv4 hmF
   go_wp2_with (at_builtin; refine Lib.wpList_append_run _ rfl _ _ _ _ rfl _ _ (by rfl) (by rfl) _ _ hrun ?_; clear hrun)
   go_roundw
   case rel => exact ⟨k + 1, _, by omega, by go_num, hown4.out, hkv4.out, hmF.out⟩
   case measure => simp [intOf]; omega
  ·obtain rfl : k = 6 := by omega
   have hf := hfin.out wr va vc f hm (Sl.of_owns hown) hkv;refine hid4 ?_ hf hown hkv hm; clear hf hown hkv hm; intro hf hown hkv hm;go_wp2;exact hf.out
set_option maxHeartbeats 1000000 in
theorem rMaster_bad (st : Int) (h : st < 1 ∨ 8 < st) (n c : Nat) (a : Option Addr) :
  Calls Tryz.prog 29 #[.int .i64 st, .slice a n c] w fun e w' => e = .returned (.tuple #[.slice none 0 0, errno 2]) ∧ w' = w := by
 by_cases h1 : st < 1
 ·go_enter Tryz.func29, Tryz.ntmps29
  go_wp2
  go_ret2
  exact ⟨rfl, rfl⟩
 ·have h8 : 8 < st := by omega
  go_enter Tryz.func29, Tryz.ntmps29;go_wp2
  go_ret2
  exact ⟨rfl, rfl⟩
set_option maxHeartbeats 1000000 in
theorem rMaster_len (st : Int) (h1 : 1 ≤ st) (h8 : st ≤ 8) (n c : Nat) (a : Option Addr) (hn : n ≠ 16) :
  Calls Tryz.prog 29 #[.int .i64 st, .slice a n c] w fun e w' => e = .returned (.tuple #[.slice none 0 0, errno 19]) ∧ w' = w := by
 have g1 : ¬ st < 1 := by omega
 have g2 : ¬ 8 < st := by omega
 have g3 : ¬ (n : Int) = 16 := by omega
 go_enter Tryz.func29, Tryz.ntmps29;go_wp2
 go_ret2
 exact ⟨rfl, rfl⟩
end
theorem Src.string {w : World} {v : Value} {d : List Nat} (h : Src w v d) : (convert 37 9 v).run Tryz.prog w = .ok (.string (strOfNums (d.map fun x : Nat => (x : Int)))) w := by
 obtain ⟨a, c, rfl, -, -, h3⟩ := h;refine Go.Lib.BytesIn.convert (P := Tryz.prog) (xs := d.map fun x : Nat => (x : Int)) ?_ (by simp) c 37 5 9 Tryz.underlying37 Tryz.underlying5 Tryz.underlying9;intro h0;obtain ⟨b, off, e, hb, hc⟩ := h3 h0;refine ⟨b, off, e, fun i hi => ?_⟩;rw [hc i hi]
 congr 2
 rw [List.getD_eq_getElem?_getD, List.getD_eq_getElem?_getD, List.getElem?_map, List.getElem?_eq_getElem hi]
 rfl
set_option maxHeartbeats 2000000 in
theorem sameKey_ok {w : World} {a b : Option Addr} {c e : Nat} {d : List Nat} (st k : Int) (ha : Src w (.slice a 16 c) d) (hb : Src w (.slice b 16 e) d) :
  Calls Tryz.prog 30 #[.agg #[.int .i64 st, .int .i64 k, .slice a 16 c, .int .i64 10], .agg #[.int .i64 st, .int .i64 k, .slice b 16 e, .int .i64 10]] w fun r w' => r = .returned (.bool true) ∧ Mod Nowhere w w' := by
 have hm : Mod Nowhere w ((w.alloc (.cells #[.int .i64 st, .int .i64 k, .slice a 16 c, .int .i64 10] 39)).alloc (.cells #[.int .i64 st, .int .i64 k, .slice b 16 e, .int .i64 10] 39)) := ((Mod.refl _ w).alloc _).alloc _;have h1 := (ha.fresh hm).string;have h2 := (hb.fresh hm).string;have b1 : Blk ((w.alloc (.cells #[.int .i64 st, .int .i64 k, .slice a 16 c, .int .i64 10] 39)).alloc (.cells #[.int .i64 st, .int .i64 k, .slice b 16 e, .int .i64 10] 39)) w.heap.size [.int .i64 st, .int .i64 k, .slice a 16 c, .int .i64 10] 39 := (Blk.new w [.int .i64 st, .int .i64 k, .slice a 16 c, .int .i64 10] 39).mod ((Mod.refl Nowhere _).alloc _) id
 have b2 : Blk ((w.alloc (.cells #[.int .i64 st, .int .i64 k, .slice a 16 c, .int .i64 10] 39)).alloc (.cells #[.int .i64 st, .int .i64 k, .slice b 16 e, .int .i64 10] 39)) (w.heap.size + 1) [.int .i64 st, .int .i64 k, .slice b 16 e, .int .i64 10] 39 := by
  have := Blk.new (w.alloc (.cells #[.int .i64 st, .int .i64 k, .slice a 16 c, .int .i64 10] 39)) [.int .i64 st, .int .i64 k, .slice b 16 e, .int .i64 10] 39;simpa using this
 generalize strOfNums (d.map fun x : Nat => (x : Int)) = s at *;have y0 := b1.cell 0; have y1 := b1.cell 1; have y2 := b1.cell 2; have y3 := b1.cell 3; have yl := b1.lt;have z0 := b2.cell 0; have z1 := b2.cell 1; have z2 := b2.cell 2; have z3 := b2.cell 3; have zl := b2.lt;simp only [List.getElem?_cons_zero, List.getElem?_cons_succ] at y0 y1 y2 y3 z0 z1 z2 z3;clear ha hb b1 b2;replace hm := Lib.hid hm;go_enter Tryz.func30, Tryz.ntmps30;go_wp2;go_ret;exact ⟨by simp, hm.out⟩
theorem mkc_at (st : Nat) (f : Nat → Value) {k : Nat} (hk : k < 6) : (mkc st f 6).getD (k * 4) default = .int .i64 (st : Int) ∧ (mkc st f 6).getD (k * 4 + 1) default = .int .i64 ((k : Int) + 1) ∧ (mkc st f 6).getD (k * 4 + 2) default = f k ∧ (mkc st f 6).getD (k * 4 + 3) default = .int .i64 10 := by
 rcases (show k = 0 ∨ k = 1 ∨ k = 2 ∨ k = 3 ∨ k = 4 ∨ k = 5 by omega) with rfl | rfl | rfl | rfl | rfl | rfl <;> exact ⟨rfl, rfl, rfl, rfl⟩
theorem mkc_cells {w : World} {va : Option Addr} {vc st : Nat} {f : Nat → Value} (h : Sl w (.slice va 6 vc) 39 4 6 (mkc st f 6)) : ∃ b off, va = some ⟨b, off, none⟩ ∧ b < w.heap.size ∧ 6 ≤ vc ∧ vc ≤ maxLen ∧ ∀ k, k < 6 → ∀ W, Mod Nowhere w W → b < W.heap.size ∧ W.cell? ⟨b, off + k * 4, none⟩ = some (.int .i64 (st : Int)) ∧ W.cell? ⟨b, off + k * 4 + 1, none⟩ = some (.int .i64 ((k : Int) + 1)) ∧ W.cell? ⟨b, off + k * 4 + 2, none⟩ = some (f k) ∧ W.cell? ⟨b, off + k * 4 + 3, none⟩ = some (.int .i64 10) := by
 obtain ⟨b, off, cap, e, hb, h1, h2, hc, -⟩ := h.open (by decide);simp at e;obtain ⟨rfl, rfl⟩ := e;refine ⟨b, off, rfl, hb, h1, h2, fun k hk W hm => ⟨Nat.lt_of_lt_of_le hb hm.size, ?_⟩⟩;obtain ⟨q0, q1, q2, q3⟩ := mkc_at st f hk;have c : ∀ i, i < 24 → W.cell? ⟨b, off + i, none⟩ = some ((mkc st f 6).getD i default) := fun i hi => (hm.cell (p := ⟨b, off + i, none⟩) hb id).trans (hc i hi);exact ⟨by rw [c (k * 4) (by omega), q0], by rw [Nat.add_assoc, c (k * 4 + 1) (by omega), q1], by rw [Nat.add_assoc, c (k * 4 + 2) (by omega), q2], by rw [Nat.add_assoc, c (k * 4 + 3) (by omega), q3]⟩
set_option maxHeartbeats 4000000 in
theorem lawMaster_bad (st : Int) (va : Option Addr) (n vc er : Nat) (w : World) (hn : n ≤ 100)
  (hK : ∀ W, Calls Tryz.prog 28 #[.int .i64 st, .slice va n vc] W fun e w' => e = .returned (.tuple #[.slice none 0 0, errno er]) ∧ w' = W)
  (hR : ∀ W, Calls Tryz.prog 29 #[.int .i64 st, .slice va n vc] W fun e w' => e = .returned (.tuple #[.slice none 0 0, errno er]) ∧ w' = W) :
  Calls Tryz.prog 7 #[.int .i64 st, .slice va n vc] w fun e w' => e = .returned (.bool true) ∧ Mod Nowhere w w' := by
 have hE := fun W => example22_ok W;have g1 : ¬ (100 : Int) < (n : Int) := by omega
 unfold errno at *;refine hid3 ?_ hE hK hR; clear hE hK hR; intro hE hK hR;go_enter Tryz.func7, Tryz.ntmps7;go_wp2_with fail;refine (hK.out w).mono ?_;rintro e w1 ⟨rfl, rfl⟩;go_wp2_with fail;refine (hR.out _).mono ?_;rintro e w1 ⟨rfl, rfl⟩;go_wp2
 go_loopw [9] (fun i wr => i = .int .i64 0 ∧ wr = w1) (fun _ _ => 0)
 case atStart => exact ⟨rfl, rfl⟩
 case round =>
  obtain ⟨rfl, rfl⟩ := hrel;go_wp2_with fail;refine (hE.out _).mono ?_;rintro e w2 ⟨rfl, hm2⟩;replace hm2 := Lib.hid hm2;go_wp2;go_ret;exact ⟨rfl, hm2.out⟩
set_option maxHeartbeats 4000000 in
theorem lawMaster_good (st : Nat) (h1 : 1 ≤ st) (h8 : st ≤ 8) {v : Value} {l : List Nat} (w : World) (hv : Src w v l) (hl : l.length = 16) (bl : Bytes l) :
  Calls Tryz.prog 7 #[.int .i64 (st : Nat), v] w fun e w' => e = .returned (.bool true) ∧ Mod Nowhere w w' := by
 have hE := fun W => example22_ok W;have hK := kMaster_ok st h1 h8 hv hl bl;have hR := fun W (hm : Mod Nowhere w W) => rMaster_ok st h1 h8 (hv.fresh hm) hl bl;obtain ⟨va, vc, rfl, -⟩ := hv;rw [hl] at hK hR ⊢;have hdl := fun k => Cy.dk_len l [st, k + 1] 2;clear hl bl h1 h8;refine hid4 ?_ hE hK hR hdl; clear hE hK hR hdl; intro hE hK hR hdl;go_enter Tryz.func7, Tryz.ntmps7;go_wp2_with fail;refine hK.out.mono ?_;rintro e w1 ⟨ka, kc, f, rfl, hs1, hk1, hm1⟩;have hR1 := hR.out w1 hm1;refine hid4 ?_ hR1 hs1 hk1 hm1; clear hR1 hs1 hk1 hm1; intro hR1 hs1 hk1 hm1;clear hK hR;go_wp2_with fail;refine hR1.out.mono ?_;rintro e w2 ⟨ra, rc, g, rfl, hs2, hk2, hm2⟩
 have hm02 := hm1.out.trans hm2;have hk3 := hk1.out.fresh hm2;obtain ⟨b, o, rfl, bl, b1, b2, hc⟩ := mkc_cells (hs1.out.mod hm2 (fun _ _ e => e.elim));obtain ⟨b', o', rfl, bl', b1', b2', hc'⟩ := mkc_cells hs2;unfold maxLen at b2 b2';clear hs1 hs2 hR1 hk1;refine hid7 ?_ hm02 hk3 hk2 hc hc' hm1 hm2; clear hm02 hk3 hk2 hc hc' hm1 hm2; intro hm02 hk3 hk2 hc hc' hm1 hm2;go_wp2
 go_loopw [9] (fun i wr => ∃ k : Nat, k ≤ 6 ∧ i = .int .i64 k ∧ Mod Nowhere w2 wr) (fun i _ => 6 - (intOf i).toNat)
 case atStart => exact ⟨0, by omega, rfl, Mod.refl _ _⟩
 case round =>
  obtain ⟨k, hk, rfl, hm⟩ := hrel;by_cases hlt : k < 6
  ·have hki : (k : Int) < 6 := by omega
   have hx := hc.out k hlt;have hx' := hc'.out k hlt;obtain ⟨fa, fc, hf, hfd⟩ := hk3.out k hlt;obtain ⟨ga, gc, hg, hgd⟩ := hk2.out k hlt;rw [hf] at hx;rw [hg] at hx';have hS := fun W (hm : Mod Nowhere w2 W) => sameKey_ok (st : Int) ((k : Int) + 1) (hfd.src.fresh hm) (hgd.src.fresh hm);clear hfd hgd hf hg;refine hid4 ?_ hm hx hx' hS; clear hm hx hx' hS; intro hm hx hx' hS;clear hc hc' hk3 hk2;go_wp2_with fail;refine wp_region_calm (fun i v w' => match i with | 0 => (v = .slice (some ⟨b, o, none⟩) 6 kc) | 1 => (v = .int .i64 (k : Int)) | 2 => (v = .pointer (some ⟨b, o + k * 4, none⟩)) | 3 => (v = .agg #[.int .i64 (st : Int), .int .i64 ((k : Int) + 1), .slice fa 16 fc, .int .i64 10]) | 4 => (v = .slice (some ⟨b', o', none⟩) 6 rc) | 5 => (v = .int .i64 (k : Int)) | 6 => (v = .pointer (some ⟨b', o' + k * 4, none⟩)) | 7 => (v = .agg #[.int .i64 (st : Int), .int .i64 ((k : Int) + 1), .slice ga 16 gc, .int .i64 10]) | 8 => (v = .bool true) | 9 => (v = .bool false) | _ => True) ?A_ (by first | assumption | kernel_rfl) (by kernel_rfl) (by kernel_rfl) ?hA_ ?hS_ ?hE_
   case hA_ => intro xs; simp [putAll, List.range, List.range.loop, Act.put] <;> rfl
   case hS_ =>
    refine ⟨?_, ?_, ?_, ?_, ?_, ?_, ?_, ?_, ?_, ?_, trivial⟩
    ·-- 0: t42 := move(t5)
     intro yv w' hR hF K hK;clear hF
     go_simp
     exact hK _ _ (fun _ _ => by first | trivial | rfl | simp [*]) (Mod.refl _ _)
    ·-- 1: t43 := move(t9)
     intro yv w' hR hF K hK;clear hF
     go_simp
     exact hK _ _ (fun _ _ => by first | trivial | rfl | simp [*]) (Mod.refl _ _)
    ·-- 2: t44 := indexAddr(47, t42, t43)
     intro yv w' hR hF K hK;have f0 : (yv 0) = .slice (some ⟨b, o, none⟩) 6 kc := hF 0 (by kernel_rfl) w' (Mod.refl _ _);have f1 : (yv 1) = .int .i64 (k : Int) := hF 1 (by kernel_rfl) w' (Mod.refl _ _);clear hF;generalize yv 0 = y0 at *;subst f0;generalize yv 1 = y1 at *;subst f1
     go_simp
     exact hK _ _ (fun _ _ => by first | trivial | rfl | simp [*]) (Mod.refl _ _)
    ·-- 3: t45 := load(39, t44)
     intro yv w' hR hF K hK;have f2 : (yv 2) = .pointer (some ⟨b, o + k * 4, none⟩) := hF 2 (by kernel_rfl) w' (Mod.refl _ _);clear hF;generalize yv 2 = y2 at *;subst f2;obtain ⟨zl, z0, z1, z2, z3⟩ := hx.out w' (hm.out.drew.trans hR)
     go_simp
     exact hK _ _ (fun _ _ => rfl) (Mod.refl _ _)
    ·-- 4: t46 := move(t7)
     intro yv w' hR hF K hK;clear hF
     go_simp
     exact hK _ _ (fun _ _ => by first | trivial | rfl | simp [*]) (Mod.refl _ _)
    ·-- 5: t47 := move(t9)
     intro yv w' hR hF K hK;clear hF
     go_simp
     exact hK _ _ (fun _ _ => by first | trivial | rfl | simp [*]) (Mod.refl _ _)
    ·-- 6: t48 := indexAddr(47, t46, t47)
     intro yv w' hR hF K hK;have f4 : (yv 4) = .slice (some ⟨b', o', none⟩) 6 rc := hF 4 (by kernel_rfl) w' (Mod.refl _ _);have f5 : (yv 5) = .int .i64 (k : Int) := hF 5 (by kernel_rfl) w' (Mod.refl _ _);clear hF;generalize yv 4 = y4 at *;subst f4;generalize yv 5 = y5 at *;subst f5
     go_simp
     exact hK _ _ (fun _ _ => by first | trivial | rfl | simp [*]) (Mod.refl _ _)
    ·-- 7: t49 := load(39, t48)
     intro yv w' hR hF K hK;have f6 : (yv 6) = .pointer (some ⟨b', o' + k * 4, none⟩) := hF 6 (by kernel_rfl) w' (Mod.refl _ _);clear hF;generalize yv 6 = y6 at *;subst f6;obtain ⟨zl, z0, z1, z2, z3⟩ := hx'.out w' (hm.out.drew.trans hR)
     go_simp
     exact hK _ _ (fun _ _ => rfl) (Mod.refl _ _)
    ·-- 8: t50 := CALL F30 (t45, t49)
     intro yv w' hR hF K hK;have f3 : (yv 3) = .agg #[.int .i64 (st : Int), .int .i64 ((k : Int) + 1), .slice fa 16 fc, .int .i64 10] := hF 3 (by kernel_rfl) w' (Mod.refl _ _);have f7 : (yv 7) = .agg #[.int .i64 (st : Int), .int .i64 ((k : Int) + 1), .slice ga 16 gc, .int .i64 10] := hF 7 (by kernel_rfl) w' (Mod.refl _ _);clear hF;generalize yv 3 = y3 at *;subst f3;generalize yv 7 = y7 at *;subst f7;have hc := hS.out w' (hm.out.drew.trans hR);replace hc := Lib.hid hc
     go_simp
     go_at_call 30
     refine hc.out.mono ?_;rintro e w9 ⟨rfl, hm9⟩;exact hK _ _ (fun _ _ => rfl) hm9
    ·-- 9: t51 := unOp(not, 4, t50)
     intro yv w' hR hF K hK;have f8 : (yv 8) = .bool true := hF 8 (by kernel_rfl) w' (Mod.refl _ _);clear hF;generalize yv 8 = y8 at *;subst f8
     go_simp
     exact hK _ _ (fun _ _ => by first | trivial | rfl | simp [*]) (Mod.refl _ _)
   case hE_ =>
    intro yv w' hR hF;have f0 : (yv 0) = .slice (some ⟨b, o, none⟩) 6 kc := hF 0 (by simp) w' (Mod.refl _ _);have f1 : (yv 1) = .int .i64 (k : Int) := hF 1 (by simp) w' (Mod.refl _ _);have f2 : (yv 2) = .pointer (some ⟨b, o + k * 4, none⟩) := hF 2 (by simp) w' (Mod.refl _ _);have f3 : (yv 3) = .agg #[.int .i64 (st : Int), .int .i64 ((k : Int) + 1), .slice fa 16 fc, .int .i64 10] := hF 3 (by simp) w' (Mod.refl _ _);have f4 : (yv 4) = .slice (some ⟨b', o', none⟩) 6 rc := hF 4 (by simp) w' (Mod.refl _ _);have f5 : (yv 5) = .int .i64 (k : Int) := hF 5 (by simp) w' (Mod.refl _ _);have f6 : (yv 6) = .pointer (some ⟨b', o' + k * 4, none⟩) := hF 6 (by simp) w' (Mod.refl _ _);have f7 : (yv 7) = .agg #[.int .i64 (st : Int), .int .i64 ((k : Int) + 1), .slice ga 16 gc, .int .i64 10] := hF 7 (by simp) w' (Mod.refl _ _)
    have f8 : (yv 8) = .bool true := hF 8 (by simp) w' (Mod.refl _ _);have f9 : (yv 9) = .bool false := hF 9 (by simp) w' (Mod.refl _ _);clear hF;generalize yv 0 = y0 at *;subst f0;generalize yv 1 = y1 at *;subst f1;generalize yv 2 = y2 at *;subst f2;generalize yv 3 = y3 at *;subst f3;generalize yv 4 = y4 at *;subst f4;generalize yv 5 = y5 at *;subst f5;generalize yv 6 = y6 at *;subst f6;generalize yv 7 = y7 at *;subst f7;generalize yv 8 = y8 at *;subst f8;generalize yv 9 = y9 at *;subst f9;have hm4 := hm.out.drew.trans hR;clear hm hx hx' hS;replace hm4 := Lib.hid hm4;go_wp2;go_roundw
    case rel => exact ⟨k + 1, by omega, by go_num, hm4.out⟩
    case measure => simp [intOf]; omega
  ·obtain rfl : k = 6 := by omega
   have hm3 := hm02.out.trans hm;clear hc hc' hk3 hk2;refine hid2 ?_ hm3 hm; clear hm3 hm; intro hm3 hm;go_wp2_with fail;refine (hE.out _).mono ?_;rintro e w4 ⟨rfl, hm4⟩;have hmf := hm3.out.trans hm4;refine hid2 ?_ hmf hm4; clear hmf hm4; intro hmf hm4;go_wp2;go_ret;exact ⟨rfl, hmf.out⟩
set_option maxHeartbeats 4000000 in
theorem lawKeysMaster (st : Int) (v : Value) (d : List Nat) (w : World) (i1 : InBytes w v d) : Calls Tryz.prog 7 #[.int .i64 st, v] w fun e w' => e = .returned (.bool true) ∧ Below w.heap.size w w' := by
 suffices h : Calls Tryz.prog 7 #[.int .i64 st, v] w fun e w' => e = .returned (.bool true) ∧ Mod Nowhere w w' from h.mono fun e w' ⟨a, b⟩ => ⟨a, b.below⟩
 obtain ⟨hs, bd⟩ := i1;by_cases hn : d.length ≤ 100
 ·by_cases hst : st < 1 ∨ 8 < st
  ·obtain ⟨a, c, rfl, -⟩ := hs
   exact lawMaster_bad st a _ c 2 w hn (fun W => kMaster_bad st hst _ c a) (fun W => rMaster_bad st hst _ c a)
  ·by_cases hl : d.length = 16
   ·obtain ⟨s, rfl⟩ : ∃ s : Nat, st = s := ⟨st.toNat, by omega⟩
    exact lawMaster_good s (by omega) (by omega) w hs hl bd
   ·obtain ⟨a, c, rfl, -⟩ := hs
    exact lawMaster_bad st a _ c 19 w hn (fun W => kMaster_len st (by omega) (by omega) _ c a hl) (fun W => rMaster_len st (by omega) (by omega) _ c a hl)
 ·have hE := fun W => example22_ok W
  obtain ⟨a, c, rfl, -⟩ := hs;have g1 : (100 : Int) < (d.length : Int) := by omega
  generalize d.length = n at *;replace hE := Lib.hid hE;go_enter Tryz.func7, Tryz.ntmps7;go_wp2_with fail;refine (hE.out _).mono ?_;rintro e w4 ⟨rfl, hm4⟩;replace hm4 := Lib.hid hm4;go_wp2;go_ret;exact ⟨rfl, hm4.out⟩
end Go.Proofs.YtoehlaeaafalmaaGreat
