/-
  The law RegistryConsistent.
-/
import Derived.Test.YthmahbfmfpjjcaaGreatMHu
import Derived.Test.YthmahbfmfpjjcaaGreatMHb
set_option linter.unusedVariables false
set_option linter.unusedSimpArgs false
set_option maxRecDepth 100000
namespace Go.Proofs.YthmahbfmfpjjcaaGreat
open Go.RowKit
open Jn Vn Rg
attribute [local go_sem] Oper.semAt_some
def EL (w : World) (va : Option Addr) (vc : Nat) (L : List En) : Prop := ∃ xs, ESl w (.slice va L.length vc) xs ∧ exps xs = L.map En.raw
theorem EL.fresh {w w' : World} {va : Option Addr} {vc : Nat} {L : List En} (h : EL w va vc L) (hm : Mod Nowhere w w') : EL w' va vc L := by
 obtain ⟨xs, h1, h2⟩ := h;exact ⟨xs, h1.fresh hm, h2⟩
theorem EPost.el {w w' : World} {L : List En} {e : Ending} (h : EPost w (L.map En.raw) e w') : ∃ va vc, e = .returned (.slice va L.length vc) ∧ EL w' va vc L ∧ Mod Nowhere w w' := by
 obtain ⟨v, xs, rfl, hs, hx, hm⟩ := h;obtain ⟨va, vc, rfl, -⟩ := hs.sl.gen;have hl : xs.length = L.length := by rw [← exps_len, hx, List.length_map]
 rw [hl] at hs ⊢;exact ⟨va, vc, rfl, ⟨xs, hs, hx⟩, hm⟩
theorem EL.ce {w : World} {va : Option Addr} {vc : Nat} {L : List En} (h : EL w va vc L) {k : Nat} (hk : k < L.length) : ∃ b off a1 c1 a2 c2, va = some ⟨b, off, none⟩ ∧ L.length ≤ vc ∧ vc ≤ maxLen ∧ ∀ X, Mod Nowhere w X → (X.cell? ⟨b, off + k * 8, none⟩ = some (.slice a1 L[k].aid.length c1) ∧ X.cell? ⟨b, off + k * 8 + 1, none⟩ = some (.int .i64 L[k].kind) ∧ X.cell? ⟨b, off + k * 8 + 2, none⟩ = some (.int .i64 L[k].st) ∧ X.cell? ⟨b, off + k * 8 + 3, none⟩ = some (.int .i64 L[k].bf) ∧ X.cell? ⟨b, off + k * 8 + 4, none⟩ = some (.int .i64 L[k].pr) ∧ X.cell? ⟨b, off + k * 8 + 5, none⟩ = some (.slice a2 L[k].dom.length c2) ∧ X.cell? ⟨b, off + k * 8 + 6, none⟩ = some (.int .i64 L[k].pk) ∧ X.cell? ⟨b, off + k * 8 + 7, none⟩ = some (.int .i64 L[k].ob) ∧ b < X.heap.size) ∧ DSl X (.slice a1 L[k].aid.length c1) L[k].aid ∧ DSl X (.slice a2 L[k].dom.length c2) L[k].dom := by
 obtain ⟨xs, hs, hx⟩ := h;have hl : xs.length = L.length := by rw [← exps_len, hx, List.length_map]
 have hlt : k < xs.length := by omega
 obtain ⟨b, off, cap', a1, c1, a2, c2, e0, hb, g1, g2, hc, e1, e2⟩ := hs.at_ hlt
 have hxe : xs[k].2 = L[k].raw := by
  have h1 : (exps xs)[k]? = some xs[k].2 := by unfold exps; rw [List.getElem?_map, List.getElem?_eq_getElem hlt]; rfl
  rw [hx, List.getElem?_map, List.getElem?_eq_getElem hk] at h1;simpa using h1.symm
 rw [hl] at e0
 obtain ⟨rfl, rfl⟩ : va = some ⟨b, off, none⟩ ∧ vc = cap' := by
  simp at e0; exact ⟨e0.1, e0.2⟩
 refine ⟨b, off, a1, c1, a2, c2, rfl, by omega, g2, fun X hm => ?_⟩;have hs' := hs.fresh hm;obtain ⟨b', off', cap2, a1', c1', a2', c2', e0', hb', -, -, hc', e1', e2'⟩ := hs'.at_ hlt;simp at e0';obtain ⟨⟨rfl, rfl⟩, -, -⟩ := e0';obtain ⟨q0, q1, q2, q3, q4, q5, q6, q7⟩ := eight hc';obtain ⟨d1, d2⟩ := hs'.data xs[k] (List.getElem_mem hlt);rw [e1] at d1 q0;rw [e2] at d2 q5;rw [hxe] at d1 d2 q0 q1 q2 q3 q4 q5 q6 q7;exact ⟨⟨q0, q1, q2, q3, q4, q5, q6, q7, hb'⟩, d1, d2⟩
theorem cnt_step (p : En → Bool) {L : List En} {k : Nat} (hk : k < L.length) : (L.take (k + 1)).countP p = (L.take k).countP p + (if p L[k] = true then 1 else 0) := by
 rw [List.take_succ_eq_append_getElem hk, List.countP_append, List.countP_cons, List.countP_nil];omega
theorem cnt_le (p : En → Bool) (L : List En) (k : Nat) : (L.take k).countP p ≤ k := Nat.le_trans (List.countP_le_length) (by rw [List.length_take]; omega)
theorem EL.len0 {w : World} {va : Option Addr} {vc : Nat} {L : List En} (h : EL w va vc L) : L.length ≤ vc ∧ vc ≤ maxLen := by
 obtain ⟨xs, h1, h2⟩ := h;have hl : xs.length = L.length := by rw [← exps_len, h2, List.length_map]
 obtain ⟨a, c, e, g1, g2, -⟩ := h1.sl.gen;simp at e;rw [hl] at g1;obtain ⟨-, -, rfl⟩ := e;exact ⟨g1, g2⟩
set_option maxHeartbeats 16000000 in
theorem lawCons_go {w : World} {l : List OpI} {va : Option Addr} {vc : Nat} (i0 : InROps w (.slice va l.length vc) l) (hq : fewB l = true) :
  Calls Tryz.prog 6 #[.slice va l.length vc] w fun e w' => e = .returned (.bool true) ∧ Mod Nowhere w w' := by
 have hF : Calls Tryz.prog 25 #[.slice va l.length vc] w fun e w' => e = .returned (.bool true) ∧ w' = w := by
  have := few26_ok i0;rw [hq] at this;exact this
 have hO := open26_ok w;have hWk := fun W => works_ok W;have hl60 := fewB_len hq;refine hid4 ?_ i0 hF hO hWk; clear i0 hF hO hWk; intro i0 hF hO hWk;go_enter Tryz.func6, Tryz.ntmps6;go_wp2_with fail;refine (hF.out).mono ?_;rintro e w1 ⟨rfl, rfl⟩
 go_upto_region 3 with (fail)
 go_wp2_with fail;refine hO.out.mono ?_;intro e w2 ho;obtain ⟨A, -, rb, rfl, hd, -⟩ := DoSt.new ho;clear ho hO;obtain ⟨k0, k1, k2, kl⟩ := hd.c;obtain ⟨B, hB⟩ : ∃ B, w2.heap.size = B := ⟨_, rfl⟩;rw [hB] at hd k0 k1 k2 kl;refine hid2 ?_ hd hB; clear hd hB; intro hd hB;go_wp2;generalize w2.alloc (.cells #[ptr A.M.mb, ptr A.vb, ptr rb] 48) = w3 at *;rw [hB.out]
 go_loopw [5] (fun i wr => ∃ k : Nat, k ≤ l.length ∧ i = .int .i64 k ∧ DoSt w1 wr A rb B k (rRun mFirst ((l.map OpI.r).take k))) (fun i _ => l.length - (intOf i).toNat)
 case atStart => exact ⟨0, by omega, rfl, hd.out⟩
 case round =>
  obtain ⟨k, hk, rfl, hd⟩ := hrel;clear k0 k1 k2 kl;obtain ⟨k0, k1, k2, kl⟩ := hd.c;by_cases hlt : k < l.length
  ·have hki : (k : Int) < (l.length : Int) := by omega
   obtain ⟨b, off, x0, x1, x2, x3, x4, x5, x6, x7, a1, a2, a3, a4, n1, n2, n3, n4, c1, c2, c3, c4, rfl, g1, g2, hce, hoc⟩ := i0.out.ce hlt
   have hD : ∀ X, Mod Nowhere wr X → Calls Tryz.prog 27 #[.agg #[ptr A.M.mb, ptr A.vb, ptr rb], .agg #[.int .i64 x0, .slice a1 n1 c1, .int .i64 x1, .int .i64 x2, .int .i64 x3, .int .i64 x4, .slice a2 n2 c2, .int .i64 x5, .int .i64 x6, .slice a3 n3 c3, .slice a4 n4 c4, .int .i64 x7]] X (DoR w1 X A rb B k (rRun mFirst ((l.map OpI.r).take (k + 1))) (rPlay (rRun mFirst ((l.map OpI.r).take k)) l[k].r).2) := fun X hX => by
    have := (hd.fresh hX).do_ (by omega) ((i0.out.op hlt).fresh (hd.md.trans hX));rw [hce, rRun_step l hlt] at this;exact this
   obtain ⟨er, her⟩ : ∃ er, (rPlay (rRun mFirst ((l.map OpI.r).take k)) l[k].r).2 = er := ⟨_, rfl⟩;rw [her] at hD;obtain ⟨o0, o1, o2, o3, o4, o5, o6, o7, o8, o9, o10, o11, ol⟩ := hoc wr hd.md;have hdr := (Mod.refl Nowhere wr).drew;have hmd := hd.md;obtain ⟨M', hM'⟩ : ∃ M', rRun mFirst ((l.map OpI.r).take (k + 1)) = M' := ⟨_, rfl⟩;rw [hM'] at hD;refine hid8 ?_ hd hD hoc hce hdr hmd her hM'; clear hd hD hoc hce hdr hmd her hM'; intro hd hD hoc hce hdr hmd her hM';go_wp2_with fail
   go_region_held3 (fun W => W.cell? ⟨B, 0, none⟩ = some (ptr A.M.mb) ∧ W.cell? ⟨B, 1, none⟩ = some (ptr A.vb) ∧ W.cell? ⟨B, 2, none⟩ = some (ptr rb) ∧ W.cell? ⟨b, off + k * 12, none⟩ = some (.int .i64 x0) ∧ W.cell? ⟨b, off + k * 12 + 1, none⟩ = some (.slice a1 n1 c1) ∧ W.cell? ⟨b, off + k * 12 + 2, none⟩ = some (.int .i64 x1) ∧ W.cell? ⟨b, off + k * 12 + 3, none⟩ = some (.int .i64 x2) ∧ W.cell? ⟨b, off + k * 12 + 4, none⟩ = some (.int .i64 x3) ∧ W.cell? ⟨b, off + k * 12 + 5, none⟩ = some (.int .i64 x4) ∧ W.cell? ⟨b, off + k * 12 + 6, none⟩ = some (.slice a2 n2 c2) ∧ W.cell? ⟨b, off + k * 12 + 7, none⟩ = some (.int .i64 x5) ∧ W.cell? ⟨b, off + k * 12 + 8, none⟩ = some (.int .i64 x6) ∧ W.cell? ⟨b, off + k * 12 + 9, none⟩ = some (.slice a3 n3 c3) ∧ W.cell? ⟨b, off + k * 12 + 10, none⟩ = some (.slice a4 n4 c4) ∧ W.cell? ⟨b, off + k * 12 + 11, none⟩ = some (.int .i64 x7)) (simp [*, World.cell?_alloc_some, World.cell?_setCell_far, World.cell?_setCell_other])
    (first | (go_at_call 27; (with_reducible refine (hD.out _ hdr.out).mono ?_); rintro e v1 ⟨rfl, hd2, hS⟩; obtain ⟨j0, j1, j2, jl⟩ := hd2.c; obtain ⟨p0, p1, p2, p3, p4, p5, p6, p7, p8, p9, p10, p11, pl⟩ := hoc.out v1 hd2.md; replace hd2 := Lib.hid hd2; replace hS := Lib.hid hS) | fail)
   go_wp2;go_roundw
   case rel => exact ⟨k + 1, by omega, by go_num, by rw [hM'.out]; exact hd2.out⟩
   case measure => simp [intOf]; omega
  ·have hki : ¬ (k : Int) < (l.length : Int) := by omega
   obtain ⟨M, hM⟩ : ∃ M, rRun mFirst ((l.map OpI.r).take k) = M := ⟨_, rfl⟩;rw [hM] at hd;have hk60 : k ≤ 60 := by omega
   have hinv := hd.inv;clear hM;obtain ⟨now, was, act⟩ := M;obtain ⟨mm, ss, hr⟩ := hd.reg;have hLs := gList_ok hr;clear hr;dsimp only at hLs hinv;have hlaw := hinv.law;have hmd := hd.md;refine hid5 ?_ hd hinv hLs hlaw hmd; clear hd hinv hLs hlaw hmd; intro hd hinv hLs hlaw hmd;go_wp2_with fail;refine hLs.out.mono ?_;intro e w4 hp;obtain ⟨ea, ecap, rfl, hel, hm4⟩ := EPost.el hp;have hd4 := hd.out.fresh hm4;clear hp k0 k1 k2 kl;obtain ⟨k0, k1, k2, kl⟩ := hd4.c;refine hid3 ?_ hel hm4 hd4; clear hel hm4 hd4; intro hel hm4 hd4;go_wp2_with fail
   go_loopw [7, 8, 9] (fun p q i wr => ∃ r : Nat, r ≤ now.length ∧ i = .int .i64 r ∧ p = .int .i64 ((now.take r).countP isIss : Nat) ∧ q = .int .i64 ((now.take r).countP isImp : Nat) ∧ Mod Nowhere w4 wr) (fun _ _ i _ => now.length - (intOf i).toNat)
   case atStart => exact ⟨0, by omega, rfl, by simp, by simp, Mod.refl _ _⟩
   case round =>
    obtain ⟨r, hr, rfl, rfl, rfl, hmr⟩ := hrel;have hd5 := hd4.out.fresh hmr;clear k0 k1 k2 kl;obtain ⟨k0, k1, k2, kl⟩ := hd5.c;obtain ⟨ec1, ec2⟩ := hel.out.len0;by_cases hrt : r < now.length
    ·have hri : (r : Int) < (now.length : Int) := by omega
     obtain ⟨b, off, a1, c1, a2, c2, rfl, -, -, hce⟩ := hel.out.ce hrt;obtain ⟨en, hen⟩ : ∃ en, now[r] = en := ⟨_, rfl⟩;have hmem : en ∈ now := by rw [← hen]; exact List.getElem_mem hrt
     rw [hen] at hce;obtain ⟨hval, ⟨dn, hdf, hdk⟩, hpk⟩ := hlaw.out.1 en hmem;have hok := hinv.out.ok en hmem;have hcI := cnt_step isIss hrt;have hcM := cnt_step isImp hrt;rw [hen] at hcI hcM
     have hprev : ∀ j, r = j + 1 → ∃ ap np cp, (∀ X, Mod Nowhere w4 X → X.cell? ⟨b, off + j * 8, none⟩ = some (.slice ap np cp) ∧ b < X.heap.size) ∧ ∃ cv : Int, cv < 0 ∧ ∀ X, Mod Nowhere w4 X → Calls Tryz.prog 31 #[.slice ap np cp, .slice a1 en.aid.length c1] X fun e w' => e = .returned (.int .i64 cv) ∧ Mod Nowhere X w' := by
      intro j hj;have hjt : j < now.length := by omega
      obtain ⟨b', off', ap, cp, ap2, cp2, e0, -, -, hce'⟩ := hel.out.ce hjt;simp at e0;obtain ⟨rfl, rfl⟩ := e0;refine ⟨ap, _, cp, fun X hm => ⟨(hce' X hm).1.1, (hce' X hm).1.2.2.2.2.2.2.2.2⟩, cmpB now[j].aid en.aid, ?_, fun X hm => ?_⟩
      ·have := (List.pairwise_iff_getElem.1 hinv.out.srt) j r hjt hrt (by omega)
       rw [hen] at this;unfold ltB at this;simpa using this
      ·have hoj := hinv.out.ok now[j] (List.getElem_mem hjt)
       have l1 := hoj.a16;have l2 := hok.a16;exact rCmp_ok (hce' X hm).2.1.src (hce X hm).2.1.src hoj.ba hok.ba (by omega) (by omega)
     have hFd : ∀ X, DoSt w1 X A rb B k ⟨now, was, act⟩ → DSl X (.slice a2 en.dom.length c2) en.dom → Calls Tryz.prog 16 #[ptr rb, .slice a2 en.dom.length c2] X (FPost X (some dn)) := fun X h hs => by
      have := h.find hs.src hok.bd;rw [show rFind (Md.mk now was act).now en.dom = some dn from hdf] at this;exact this
     have hCk : ∀ X, Mod Nowhere w4 X → Calls Tryz.prog 12 #[.agg #[.slice a1 en.aid.length c1, .int .i64 en.kind, .int .i64 en.st, .int .i64 en.bf, .int .i64 en.pr, .slice a2 en.dom.length c2, .int .i64 en.pk, .int .i64 en.ob]] X fun e w' => e = .returned (errno 0) ∧ Mod Nowhere X w' := fun X hm => by
      obtain ⟨-, g1, g2⟩ := hce X hm;have l1 := hok.a16;have l2 := hok.d16;have := rCheck_ok (e := en.raw) ⟨g1.src, g2.src, hok.ba, hok.bd⟩ (by show en.aid.length ≤ 1000; omega) (by show en.dom.length ≤ 1000; omega);rw [← valid_same, hval] at this;exact this
     have hst1 : ∀ X, Mod Nowhere w4 X → (convert 22 9 (.slice a1 en.aid.length c1)).run Tryz.prog X = .ok (.string (strOfNums (en.aid.map fun x : Nat => (x : Int)))) X := fun X hm => (hce X hm).2.1.src.string;have hst2 : ∀ X, Mod Nowhere w4 X → (convert 22 9 (.slice a2 en.dom.length c2)).run Tryz.prog X = .ok (.string (strOfNums (en.dom.map fun x : Nat => (x : Int)))) X := fun X hm => (hce X hm).2.2.src.string;have hst3 := strOf_eq hok.ba hok.bd;obtain ⟨ek, est, ebf, epr, epk, eob, eaid, edom⟩ := en;obtain ⟨dk, dst, dbf, dpr, dpk, dob, daid, ddom⟩ := dn;have hdk : dk = 1 := hdk;subst hdk;dsimp only [En.raw] at *
     generalize strOfNums (eaid.map fun x : Nat => (x : Int)) = s1 at *;generalize strOfNums (edom.map fun x : Nat => (x : Int)) = s2 at *;generalize hn1 : eaid.length = n1 at *;generalize hn2 : edom.length = n2 at *;obtain ⟨⟨q0, q1, q2, q3, q4, q5, q6, q7, ql⟩, D1, D2⟩ := hce wr hmr;have hA := m1 wr [.slice a1 n1 c1, .int .i64 ek, .int .i64 est, .int .i64 ebf, .int .i64 epr, .slice a2 n2 c2, .int .i64 epk, .int .i64 eob] 24;have b10 := Blk.new wr [.slice a1 n1 c1, .int .i64 ek, .int .i64 est, .int .i64 ebf, .int .i64 epr, .slice a2 n2 c2, .int .i64 epk, .int .i64 eob] 24;have hd6 := hd5.fresh hA;have q := hFd _ hd6 (D2.fresh hA)
     clear k0 k1 k2 kl;refine hid12 ?_ hval hdf hpk hok hmem hen hcI hcM hprev hFd hCk hst1; clear hval hdf hpk hok hmem hen hcI hcM hprev hFd hCk hst1; intro hval hdf hpk hok hmem hen hcI hcM hprev hFd hCk hst1;refine hid12 ?_ hst2 hst3 hn1 hn2 D1 D2 hA b10 hd6 q hce hd5; clear hst2 hst3 hn1 hn2 D1 D2 hA b10 hd6 q hce hd5; intro hst2 hst3 hn1 hn2 D1 D2 hA b10 hd6 q hce hd5;replace hmr := Lib.hid hmr
     go_upto_region 16 with (fail)
     obtain ⟨k0, k1, k2, kl⟩ := hd6.out.c;go_wp2_with fail;refine q.out.mono ?_;intro e w7 hp;obtain ⟨a3, c3, a4, c4, rfl, b11, -, -, hm7⟩ := hp.box (re := ⟨1, dst, dbf, dpr, dpk, dob, daid, ddom⟩) rfl;dsimp only at b11 hm7 ⊢;generalize hn3 : daid.length = n3 at *;generalize hn4 : ddom.length = n4 at *;clear hp q;have hd7 := hd6.out.fresh hm7;have hm27 := (hmr.out.trans hA.out).trans hm7;have b12 := b10.out.mod hm7 id;obtain ⟨N10, hN10⟩ : ∃ N, wr.heap.size = N := ⟨_, rfl⟩;obtain ⟨N11, hN11⟩ : ∃ N, w7.heap.size = N := ⟨_, rfl⟩;rw [hN10] at b12;rw [hN11] at b11;clear k0 k1 k2 kl;refine hid9 ?_ b11 hm7 hd7 hm27 b12 hN10 hN11 hn3 hn4; clear b11 hm7 hd7 hm27 b12 hN10 hN11 hn3 hn4; intro b11 hm7 hd7 hm27 b12 hN10 hN11 hn3 hn4
     go_upto_region 17 with (fail)
     rw [hN10.out, hN11.out];generalize w7.alloc (.cells #[.slice a3 n3 c3, .int .i64 1, .int .i64 dst, .int .i64 dbf, .int .i64 dpr, .slice a4 n4 c4, .int .i64 dpk, .int .i64 dob] 24) = W2 at *
     have hcx : ∀ X, Mod Nowhere W2 X → X.cell? ⟨N10, 0, none⟩ = some (.slice a1 n1 c1) ∧ X.cell? ⟨N10, 1, none⟩ = some (.int .i64 ek) ∧ X.cell? ⟨N10, 2, none⟩ = some (.int .i64 est) ∧ X.cell? ⟨N10, 3, none⟩ = some (.int .i64 ebf) ∧ X.cell? ⟨N10, 4, none⟩ = some (.int .i64 epr) ∧ X.cell? ⟨N10, 5, none⟩ = some (.slice a2 n2 c2) ∧ X.cell? ⟨N10, 6, none⟩ = some (.int .i64 epk) ∧ X.cell? ⟨N10, 7, none⟩ = some (.int .i64 eob) ∧ N10 < X.heap.size ∧ X.cell? ⟨N11, 1, none⟩ = some (.int .i64 1) ∧ N11 < X.heap.size := fun X hm => by
      have Y := b12.out.mod hm id;have Z := b11.out.mod hm id;exact ⟨Y.cell 0, Y.cell 1, Y.cell 2, Y.cell 3, Y.cell 4, Y.cell 5, Y.cell 6, Y.cell 7, Y.lt, Z.cell 1, Z.lt⟩
     have hChk : ∀ X, Mod Nowhere W2 X → Calls Tryz.prog 12 #[.agg #[.slice a1 n1 c1, .int .i64 ek, .int .i64 est, .int .i64 ebf, .int .i64 epr, .slice a2 n2 c2, .int .i64 epk, .int .i64 eob]] X fun e w' => e = .returned (errno 0) ∧ Mod Nowhere X w' := fun X hm => hCk.out X (hm27.out.trans hm);clear q0 q1 q2 q3 q4 q5 q6 q7 ql;obtain ⟨x0, x1, x2, x3, x4, x5, x6, x7, xl, y1, yl⟩ := hcx W2 (Mod.refl _ _);obtain ⟨k0, k1, k2, kl⟩ := hd7.out.c;refine hid2 ?_ hcx hChk; clear hcx hChk; intro hcx hChk
     go_cut [85] (fun t wx => t = .bool false ∧ Mod Nowhere W2 wx)
     case first =>
      rcases r with _ | j
      ·skip
       refine wp_region_calm (fun i v w' => match i with | 0 => (v = .agg #[.slice a1 n1 c1, .int .i64 ek, .int .i64 est, .int .i64 ebf, .int .i64 epr, .slice a2 n2 c2, .int .i64 epk, .int .i64 eob]) | 1 => (v = .int .i64 0) | 2 => (v = .bool false) | 3 => (v = .bool false) | 4 => (v = .bool true) | 5 => (v = .bool false) | 6 => (v = .bool false) | 7 => (v = .bool false) | 8 => (v = .pointer (some ⟨N11, 1, none⟩)) | 9 => (v = .int .i64 1) | 10 => (v = .bool false) | 11 => (v = .bool false) | 12 => (v = .bool false) | 13 => (v = .int .i64 0) | 14 => (v = .bool false) | 15 => (v = .bool false) | 26 => (v = .bool false) | 27 => (v = .bool false) | _ => True) ?A_ (by first | assumption | kernel_rfl) (by kernel_rfl) (by kernel_rfl) ?hA_ ?hS_ ?hE_
       case hA_ => intro xs; simp [putAll, List.range, List.range.loop, Act.put] <;> rfl
       case hS_ =>
        refine ⟨?_, ?_, ?_, ?_, ?_, ?_, ?_, ?_, ?_, ?_, ?_, ?_, ?_, ?_, ?_, ?_, ?_, ?_, ?_, ?_, ?_, ?_, ?_, ?_, ?_, ?_, ?_, ?_, trivial⟩
        ·-- 0: t58 := load(24, t10)
         intro yv w' hR hF K hK;clear hF;have hm1 := (Mod.refl Nowhere W2).drew.trans hR;obtain ⟨x0, x1, x2, x3, x4, x5, x6, x7, xl, y1, yl⟩ := hcx.out w' hm1
         go_simp
         exact hK _ _ (fun _ _ => rfl) (Mod.refl _ _)
        ·-- 1: t59 := CALL F12 (t58)
         intro yv w' hR hF K hK;have f0 : (yv 0) = .agg #[.slice a1 n1 c1, .int .i64 ek, .int .i64 est, .int .i64 ebf, .int .i64 epr, .slice a2 n2 c2, .int .i64 epk, .int .i64 eob] := hF 0 (by kernel_rfl) w' (Mod.refl _ _);clear hF;generalize yv 0 = y0 at *;subst f0;have hm1 := (Mod.refl Nowhere W2).drew.trans hR;have hc := hChk.out w' hm1;replace hc := Lib.hid hc
         go_simp
         go_at_call 12
         refine hc.out.mono ?_;rintro e w1 ⟨rfl, hm1'⟩;exact hK _ _ (fun _ _ => rfl) hm1'
        ·-- 2: t60 := binOp(neq, 26, t59, 0:i64, 26)
         intro yv w' hR hF K hK;have f1 : (yv 1) = .int .i64 0 := hF 1 (by kernel_rfl) w' (Mod.refl _ _);clear hF;generalize yv 1 = y1 at *;subst f1
         go_simp
         exact hK _ _ (fun _ _ => by first | trivial | rfl | simp [*]) (Mod.refl _ _)
        ·-- 3: t61 := move(t60)
         intro yv w' hR hF K hK;have f2 : (yv 2) = .bool false := hF 2 (by kernel_rfl) w' (Mod.refl _ _);have f1 : (yv 1) = .int .i64 0 := hF 1 (by kernel_rfl) w' (Mod.refl _ _);clear hF;generalize yv 2 = y2 at *;subst f2;generalize yv 1 = y1 at *;subst f1
         go_simp
         exact hK _ _ (fun _ _ => by first | trivial | rfl | simp [*]) (Mod.refl _ _)
        ·-- 4: t62 := move(t12)   [guard (3, false)]
         intro yv w' hR hF K hK;have f3 : (yv 3) = .bool false := hF 3 (by kernel_rfl) w' (Mod.refl _ _);clear hF;generalize yv 3 = y3 at *;subst f3
         go_simp
         exact hK _ _ (fun _ _ => by first | trivial | rfl | simp [*]) (Mod.refl _ _)
        ·-- 5: t63 := unOp(not, 4, t62)   [guard (3, false)]
         intro yv w' hR hF K hK;have f4 : (yv 4) = .bool true := hF 4 (by kernel_rfl) w' (Mod.refl _ _);have f3 : (yv 3) = .bool false := hF 3 (by kernel_rfl) w' (Mod.refl _ _);clear hF;generalize yv 4 = y4 at *;subst f4;generalize yv 3 = y3 at *;subst f3
         go_simp
         exact hK _ _ (fun _ _ => by first | trivial | rfl | simp [*]) (Mod.refl _ _)
        ·-- 6: t64 := pick(t61, const(Value.bool(true)), t63)
         intro yv w' hR hF K hK;have f3 : (yv 3) = .bool false := hF 3 (by kernel_rfl) w' (Mod.refl _ _);have f5 : (yv 5) = .bool false := hF 5 (by kernel_rfl) w' (Mod.refl _ _);clear hF;generalize yv 3 = y3 at *;subst f3;generalize yv 5 = y5 at *;subst f5
         go_simp
         exact hK _ _ (fun _ _ => by first | trivial | rfl | simp [*]) (Mod.refl _ _)
        ·-- 7: t65 := move(t64)
         intro yv w' hR hF K hK;have f6 : (yv 6) = .bool false := hF 6 (by kernel_rfl) w' (Mod.refl _ _);have f3 : (yv 3) = .bool false := hF 3 (by kernel_rfl) w' (Mod.refl _ _);clear hF;generalize yv 6 = y6 at *;subst f6;generalize yv 3 = y3 at *;subst f3
         go_simp
         exact hK _ _ (fun _ _ => by first | trivial | rfl | simp [*]) (Mod.refl _ _)
        ·-- 8: t66 := fieldAddr(24, t11, 1)   [guard (7, false)]
         intro yv w' hR hF K hK;have f7 : (yv 7) = .bool false := hF 7 (by kernel_rfl) w' (Mod.refl _ _);clear hF;generalize yv 7 = y7 at *;subst f7
         go_simp
         exact hK _ _ (fun _ _ => by first | trivial | rfl | simp [*]) (Mod.refl _ _)
        ·-- 9: t67 := load(3, t66)   [guard (7, false)]
         intro yv w' hR hF K hK;have f8 : (yv 8) = .pointer (some ⟨N11, 1, none⟩) := hF 8 (by kernel_rfl) w' (Mod.refl _ _);have f7 : (yv 7) = .bool false := hF 7 (by kernel_rfl) w' (Mod.refl _ _);clear hF;generalize yv 8 = y8 at *;subst f8;generalize yv 7 = y7 at *;subst f7;have hm1 := (Mod.refl Nowhere W2).drew.trans hR;obtain ⟨x0, x1, x2, x3, x4, x5, x6, x7, xl, y1, yl⟩ := hcx.out w' hm1
         go_simp
         exact hK _ _ (fun _ _ => rfl) (Mod.refl _ _)
        ·-- 10: t68 := binOp(neq, 3, t67, 1:i64, 3)   [guard (7, false)]
         intro yv w' hR hF K hK;have f9 : (yv 9) = .int .i64 1 := hF 9 (by kernel_rfl) w' (Mod.refl _ _);have f7 : (yv 7) = .bool false := hF 7 (by kernel_rfl) w' (Mod.refl _ _);clear hF;generalize yv 9 = y9 at *;subst f9;generalize yv 7 = y7 at *;subst f7
         go_simp
         exact hK _ _ (fun _ _ => by first | trivial | rfl | simp [*]) (Mod.refl _ _)
        ·-- 11: t69 := pick(t65, const(Value.bool(true)), t68)
         intro yv w' hR hF K hK;have f7 : (yv 7) = .bool false := hF 7 (by kernel_rfl) w' (Mod.refl _ _);have f10 : (yv 10) = .bool false := hF 10 (by kernel_rfl) w' (Mod.refl _ _);clear hF;generalize yv 7 = y7 at *;subst f7;generalize yv 10 = y10 at *;subst f10
         go_simp
         exact hK _ _ (fun _ _ => by first | trivial | rfl | simp [*]) (Mod.refl _ _)
        ·-- 12: t70 := move(t69)
         intro yv w' hR hF K hK;have f11 : (yv 11) = .bool false := hF 11 (by kernel_rfl) w' (Mod.refl _ _);have f7 : (yv 7) = .bool false := hF 7 (by kernel_rfl) w' (Mod.refl _ _);clear hF;generalize yv 11 = y11 at *;subst f11;generalize yv 7 = y7 at *;subst f7
         go_simp
         exact hK _ _ (fun _ _ => by first | trivial | rfl | simp [*]) (Mod.refl _ _)
        ·-- 13: t71 := move(t9)   [guard (12, false)]
         intro yv w' hR hF K hK;have f12 : (yv 12) = .bool false := hF 12 (by kernel_rfl) w' (Mod.refl _ _);clear hF;generalize yv 12 = y12 at *;subst f12
         go_simp
         exact hK _ _ (fun _ _ => by first | trivial | rfl | simp [*]) (Mod.refl _ _)
        ·-- 14: t72 := binOp(gtr, 3, t71, 0:i64, 3)   [guard (12, false)]
         intro yv w' hR hF K hK;have f13 : (yv 13) = .int .i64 0 := hF 13 (by kernel_rfl) w' (Mod.refl _ _);have f12 : (yv 12) = .bool false := hF 12 (by kernel_rfl) w' (Mod.refl _ _);clear hF;generalize yv 13 = y13 at *;subst f13;generalize yv 12 = y12 at *;subst f12
         go_simp
         exact hK _ _ (fun _ _ => by first | trivial | rfl | simp [*]) (Mod.refl _ _)
        ·-- 15: t73 := move(t72)   [guard (12, false)]
         intro yv w' hR hF K hK;have f14 : (yv 14) = .bool false := hF 14 (by kernel_rfl) w' (Mod.refl _ _);have f12 : (yv 12) = .bool false := hF 12 (by kernel_rfl) w' (Mod.refl _ _);clear hF;generalize yv 14 = y14 at *;subst f14;generalize yv 12 = y12 at *;subst f12
         go_simp
         exact hK _ _ (fun _ _ => by first | trivial | rfl | simp [*]) (Mod.refl _ _)
        ·-- 16: t74 := move(t6)   [guard (15, true)]
         intro yv w' hR hF K hK;have f15 : (yv 15) = .bool false := hF 15 (by kernel_rfl) w' (Mod.refl _ _);clear hF;generalize yv 15 = y15 at *;subst f15
         go_simp
         exact hK _ _ (fun _ _ => by first | trivial | rfl | simp [*]) (Mod.refl _ _)
        ·-- 17: t75 := move(t9)   [guard (15, true)]
         intro yv w' hR hF K hK;have f15 : (yv 15) = .bool false := hF 15 (by kernel_rfl) w' (Mod.refl _ _);clear hF;generalize yv 15 = y15 at *;subst f15
         go_simp
         exact hK _ _ (fun _ _ => by first | trivial | rfl | simp [*]) (Mod.refl _ _)
        ·-- 18: t76 := binOp(sub, 3, t75, 1:i64, 3)   [guard (15, true)]
         intro yv w' hR hF K hK;have f15 : (yv 15) = .bool false := hF 15 (by kernel_rfl) w' (Mod.refl _ _);clear hF;generalize yv 15 = y15 at *;subst f15
         go_simp
         exact hK _ _ (fun _ _ => by first | trivial | rfl | simp [*]) (Mod.refl _ _)
        ·-- 19: t77 := indexAddr(40, t74, t76)   [guard (15, true)]
         intro yv w' hR hF K hK;have f15 : (yv 15) = .bool false := hF 15 (by kernel_rfl) w' (Mod.refl _ _);clear hF;generalize yv 15 = y15 at *;subst f15
         go_simp
         exact hK _ _ (fun _ _ => by first | trivial | rfl | simp [*]) (Mod.refl _ _)
        ·-- 20: t78 := fieldAddr(24, t77, 0)   [guard (15, true)]
         intro yv w' hR hF K hK;have f15 : (yv 15) = .bool false := hF 15 (by kernel_rfl) w' (Mod.refl _ _);clear hF;generalize yv 15 = y15 at *;subst f15
         go_simp
         exact hK _ _ (fun _ _ => by first | trivial | rfl | simp [*]) (Mod.refl _ _)
        ·-- 21: t79 := load(22, t78)   [guard (15, true)]
         intro yv w' hR hF K hK;have f15 : (yv 15) = .bool false := hF 15 (by kernel_rfl) w' (Mod.refl _ _);clear hF;generalize yv 15 = y15 at *;subst f15
         go_simp
         exact hK _ _ (fun _ _ => by first | trivial | rfl | simp [*]) (Mod.refl _ _)
        ·-- 22: t80 := fieldAddr(24, t10, 0)   [guard (15, true)]
         intro yv w' hR hF K hK;have f15 : (yv 15) = .bool false := hF 15 (by kernel_rfl) w' (Mod.refl _ _);clear hF;generalize yv 15 = y15 at *;subst f15
         go_simp
         exact hK _ _ (fun _ _ => by first | trivial | rfl | simp [*]) (Mod.refl _ _)
        ·-- 23: t81 := load(22, t80)   [guard (15, true)]
         intro yv w' hR hF K hK;have f15 : (yv 15) = .bool false := hF 15 (by kernel_rfl) w' (Mod.refl _ _);clear hF;generalize yv 15 = y15 at *;subst f15
         go_simp
         exact hK _ _ (fun _ _ => by first | trivial | rfl | simp [*]) (Mod.refl _ _)
        ·-- 24: t82 := CALL F31 (t79, t81)   [guard (15, true)]
         intro yv w' hR hF K hK;have f15 : (yv 15) = .bool false := hF 15 (by kernel_rfl) w' (Mod.refl _ _);clear hF;generalize yv 15 = y15 at *;subst f15
         go_simp
         exact hK _ _ (fun _ _ => by first | trivial | rfl | simp [*]) (Mod.refl _ _)
        ·-- 25: t83 := binOp(geq, 3, t82, 0:i64, 3)   [guard (15, true)]
         intro yv w' hR hF K hK;have f15 : (yv 15) = .bool false := hF 15 (by kernel_rfl) w' (Mod.refl _ _);clear hF;generalize yv 15 = y15 at *;subst f15
         go_simp
         exact hK _ _ (fun _ _ => by first | trivial | rfl | simp [*]) (Mod.refl _ _)
        ·-- 26: t84 := pick(t73, t83, const(Value.bool(false)))   [guard (12, false)]
         intro yv w' hR hF K hK;have f15 : (yv 15) = .bool false := hF 15 (by kernel_rfl) w' (Mod.refl _ _);have f12 : (yv 12) = .bool false := hF 12 (by kernel_rfl) w' (Mod.refl _ _);clear hF;generalize yv 15 = y15 at *;subst f15;generalize yv 12 = y12 at *;subst f12
         go_simp
         exact hK _ _ (fun _ _ => by first | trivial | rfl | simp [*]) (Mod.refl _ _)
        ·-- 27: t85 := pick(t70, const(Value.bool(true)), t84)
         intro yv w' hR hF K hK;have f12 : (yv 12) = .bool false := hF 12 (by kernel_rfl) w' (Mod.refl _ _);have f26 : (yv 26) = .bool false := hF 26 (by kernel_rfl) w' (Mod.refl _ _);clear hF;generalize yv 12 = y12 at *;subst f12;generalize yv 26 = y26 at *;subst f26
         go_simp
         exact hK _ _ (fun _ _ => by first | trivial | rfl | simp [*]) (Mod.refl _ _)
       case hE_ =>
        intro yv w' hR hF;have f0 : (yv 0) = .agg #[.slice a1 n1 c1, .int .i64 ek, .int .i64 est, .int .i64 ebf, .int .i64 epr, .slice a2 n2 c2, .int .i64 epk, .int .i64 eob] := hF 0 (by simp) w' (Mod.refl _ _);have f1 : (yv 1) = .int .i64 0 := hF 1 (by simp) w' (Mod.refl _ _);have f2 : (yv 2) = .bool false := hF 2 (by simp) w' (Mod.refl _ _);have f3 : (yv 3) = .bool false := hF 3 (by simp) w' (Mod.refl _ _);have f4 : (yv 4) = .bool true := hF 4 (by simp) w' (Mod.refl _ _);have f5 : (yv 5) = .bool false := hF 5 (by simp) w' (Mod.refl _ _);have f6 : (yv 6) = .bool false := hF 6 (by simp) w' (Mod.refl _ _);have f7 : (yv 7) = .bool false := hF 7 (by simp) w' (Mod.refl _ _)
        have f8 : (yv 8) = .pointer (some ⟨N11, 1, none⟩) := hF 8 (by simp) w' (Mod.refl _ _);have f9 : (yv 9) = .int .i64 1 := hF 9 (by simp) w' (Mod.refl _ _);have f10 : (yv 10) = .bool false := hF 10 (by simp) w' (Mod.refl _ _);have f11 : (yv 11) = .bool false := hF 11 (by simp) w' (Mod.refl _ _);have f12 : (yv 12) = .bool false := hF 12 (by simp) w' (Mod.refl _ _);have f13 : (yv 13) = .int .i64 0 := hF 13 (by simp) w' (Mod.refl _ _);have f14 : (yv 14) = .bool false := hF 14 (by simp) w' (Mod.refl _ _);have f15 : (yv 15) = .bool false := hF 15 (by simp) w' (Mod.refl _ _);have f26 : (yv 26) = .bool false := hF 26 (by simp) w' (Mod.refl _ _);have f27 : (yv 27) = .bool false := hF 27 (by simp) w' (Mod.refl _ _)
        clear hF;generalize yv 0 = y0 at *;subst f0;generalize yv 1 = y1 at *;subst f1;generalize yv 2 = y2 at *;subst f2;generalize yv 3 = y3 at *;subst f3;generalize yv 4 = y4 at *;subst f4;generalize yv 5 = y5 at *;subst f5;generalize yv 6 = y6 at *;subst f6;generalize yv 7 = y7 at *;subst f7;generalize yv 8 = y8 at *;subst f8;generalize yv 9 = y9 at *;subst f9;generalize yv 10 = y10 at *;subst f10;generalize yv 11 = y11 at *;subst f11;generalize yv 12 = y12 at *;subst f12;generalize yv 13 = y13 at *;subst f13;generalize yv 14 = y14 at *;subst f14;generalize yv 15 = y15 at *;subst f15;generalize yv 26 = y26 at *
        subst f26;generalize yv 27 = y27 at *;subst f27;go_wp2_with fail;go_meet
        case rel => exact ⟨rfl, (Mod.refl Nowhere W2).drew.trans hR⟩
      ·obtain ⟨ap, np, cp, hpc, cv, hcv, hcm⟩ := hprev.out j rfl
       have hcn : ¬ (0 : Int) ≤ cv := by omega
       have hcn2 : ¬ cv ≥ 0 := by omega
       have h32 := hlaw.out.2.1;have hj1 : (j : Int) < (now.length : Int) := by omega
       have hj0 : (0 : Int) < ((j + 1 : Nat) : Int) := by omega
       have hj2 : (0 : Int) < (j : Int) + 1 := by omega
       have hsub : IntKind.i64.wrap (((j + 1 : Nat) : Int) - 1) = (j : Int) := by rw [IntKind.wrap_i64]; omega
       have hsub2 : IntKind.i64.wrap ((j : Int) + 1 - 1) = (j : Int) := by rw [IntKind.wrap_i64]; omega
       have hsub3 : IntKind.i64.wrap (j : Int) = (j : Int) := by rw [IntKind.wrap_i64]; omega
       obtain ⟨p0, pl⟩ := hpc W2 hm27.out;have hd0 := (Mod.refl Nowhere W2).drew;refine hid3 ?_ hpc hcm hd0; clear hpc hcm hd0; intro hpc hcm hd0
       go_region_held3 (fun W => W.cell? ⟨N10, 0, none⟩ = some (.slice a1 n1 c1) ∧ W.cell? ⟨N10, 1, none⟩ = some (.int .i64 ek) ∧ W.cell? ⟨N10, 2, none⟩ = some (.int .i64 est) ∧ W.cell? ⟨N10, 3, none⟩ = some (.int .i64 ebf) ∧ W.cell? ⟨N10, 4, none⟩ = some (.int .i64 epr) ∧ W.cell? ⟨N10, 5, none⟩ = some (.slice a2 n2 c2) ∧ W.cell? ⟨N10, 6, none⟩ = some (.int .i64 epk) ∧ W.cell? ⟨N10, 7, none⟩ = some (.int .i64 eob) ∧ W.cell? ⟨N11, 1, none⟩ = some (.int .i64 1) ∧ W.cell? ⟨b, off + j * 8, none⟩ = some (.slice ap np cp)) (simp [*, World.cell?_alloc_some, World.cell?_setCell_far, World.cell?_setCell_other])
        (first
        | (go_at_call 12; (with_reducible refine (hChk.out _ hd0.out).mono ?_); rintro e v1 ⟨rfl, hx1⟩; have hp1 := hd0.out.trans hx1; obtain ⟨g0, g1, g2, g3, g4, g5, g6, g7, gl, f1, fl⟩ := hcx.out v1 hp1; obtain ⟨r1, r2⟩ := hpc.out v1 (hm27.out.trans hp1); replace hp1 := Lib.hid hp1; replace hx1 := Lib.hid hx1)
        | (go_at_call 31; (with_reducible refine (hcm.out _ (hm27.out.trans hp1.out)).mono ?_); rintro e v2 ⟨rfl, hx2⟩; have hp2 := hp1.out.trans hx2; obtain ⟨i0, i1, i2, i3, i4, i5, i6, i7, il, e1, el⟩ := hcx.out v2 hp2; obtain ⟨s1, s2⟩ := hpc.out v2 (hm27.out.trans hp2); replace hp2 := Lib.hid hp2; replace hx2 := Lib.hid hx2)
        | fail)
       go_wp2_with fail;go_meet
       case rel => exact ⟨congrArg Value.bool (decide_eq_false (by omega)), hp2.out⟩
     case rest =>
      obtain ⟨rfl, hmx⟩ := hcut;generalize wc = W3 at *;have hm3 := hm27.out.trans hmx;have hd8 := hd7.out.fresh hmx;clear x0 x1 x2 x3 x4 x5 x6 x7 xl y1 yl k0 k1 k2 kl;obtain ⟨x0, x1, x2, x3, x4, x5, x6, x7, xl, y1, yl⟩ := hcx.out W3 hmx;obtain ⟨k0, k1, k2, kl⟩ := hd8.c;have t1 := hst1.out W3 hm3;have t2 := hst2.out W3 hm3;refine hid3 ?_ hmx hm3 hd8; clear hmx hm3 hd8; intro hmx hm3 hd8
      go_upto_region 19 with (fail)
      go_cut [97] (fun t wx => t = .bool (isIss ⟨ek, est, ebf, epr, epk, eob, eaid, edom⟩) ∧ wx = W3)
      case first =>
       by_cases hk1 : ek = 1
       ·have hkb : ((ek : Int) == 1) = true := by simp [hk1]
        have his : isIss ⟨ek, est, ebf, epr, epk, eob, eaid, edom⟩ = decide (eaid = edom) := by unfold isIss; simp [hk1]
        have h3 := hst3.out;obtain ⟨qd, hqd⟩ : ∃ qd, decide (eaid = edom) = qd := ⟨_, rfl⟩;rw [hqd] at h3 his;refine hid3 ?_ hk1 his hqd; clear hk1 his hqd; intro hk1 his hqd;go_wp2_with fail;go_meet
        case rel => exact ⟨by rw [his.out], rfl⟩
       ·have hkb : ((ek : Int) == 1) = false := beq_eq_false_iff_ne.2 (by omega)
        have his : isIss ⟨ek, est, ebf, epr, epk, eob, eaid, edom⟩ = false := by unfold isIss; simp [hk1]
        refine hid2 ?_ hk1 his; clear hk1 his; intro hk1 his;go_wp2_with fail;go_meet
        case rel => exact ⟨by rw [his.out], rfl⟩
      case rest =>
       obtain ⟨rfl, hw⟩ := hcut;subst hw
       try (generalize wc = W3 at *)
       obtain ⟨ci, hci⟩ : ∃ c, (now.take r).countP isIss = c := ⟨_, rfl⟩;have hcir := cnt_le isIss now r;have hci1 := hcI.out;rw [hci] at hcir hci1 ⊢;obtain ⟨bci, hbci⟩ : ∃ x, isIss ⟨ek, est, ebf, epr, epk, eob, eaid, edom⟩ = x := ⟨_, rfl⟩;rw [hbci] at hci1 ⊢;have h32 := hlaw.out.2.1;refine hid2 ?_ hci hbci; clear hci hbci; intro hci hbci
       go_upto_if 97 with (fail)
       go_cut [7] (fun c wx => c = .int .i64 ((now.take (r + 1)).countP isIss : Nat) ∧ wx = W3)
       case first =>
        cases bci
        ·replace hci1 : (now.take (r + 1)).countP isIss = ci := by simpa using hci1
         replace hci1 := Lib.hid hci1;go_wp2_with fail;go_meet
         case rel => exact ⟨by rw [hci1.out], rfl⟩
        ·replace hci1 : (now.take (r + 1)).countP isIss = ci + 1 := by simpa using hci1
         replace hci1 := Lib.hid hci1;go_wp2_with fail;go_meet
         case rel => exact ⟨by rw [hci1.out]; go_num, rfl⟩
       case rest =>
        obtain ⟨rfl, hw⟩ := hcut;subst hw
        try (generalize wc = W3 at *)
        clear hci1
        go_upto_region 21 with (fail)
        go_cut [103] (fun t wx => t = .bool (isImp ⟨ek, est, ebf, epr, epk, eob, eaid, edom⟩) ∧ wx = W3)
        case first =>
         have hrem : (Int.tmod (epr : Int) 2 == 1) = isImp ⟨ek, est, ebf, epr, epk, eob, eaid, edom⟩ := by
          unfold isImp;rw [Int.tmod_eq_emod_of_nonneg (by omega), Bool.eq_iff_iff];simp;omega
         replace hrem := Lib.hid hrem;go_wp2_with fail;go_meet
         case rel => exact ⟨by first | exact congrArg Value.bool hrem.out | (rw [← hrem.out]) | (simp [← hrem.out]), rfl⟩
        case rest =>
         obtain ⟨rfl, hw⟩ := hcut;subst hw
         try (generalize wc = W3 at *)
         obtain ⟨cm, hcm⟩ : ∃ c, (now.take r).countP isImp = c := ⟨_, rfl⟩;have hcmr := cnt_le isImp now r;have hcm1 := hcM.out;rw [hcm] at hcmr hcm1 ⊢;obtain ⟨bcm, hbcm⟩ : ∃ x, isImp ⟨ek, est, ebf, epr, epk, eob, eaid, edom⟩ = x := ⟨_, rfl⟩;rw [hbcm] at hcm1 ⊢;have h32 := hlaw.out.2.1;refine hid2 ?_ hcm hbcm; clear hcm hbcm; intro hcm hbcm
         go_upto_if 103 with (fail)
         go_cut [8] (fun c wx => c = .int .i64 ((now.take (r + 1)).countP isImp : Nat) ∧ wx = W3)
         case first =>
          cases bcm
          ·replace hcm1 : (now.take (r + 1)).countP isImp = cm := by simpa using hcm1
           replace hcm1 := Lib.hid hcm1;go_wp2_with fail;go_meet
           case rel => exact ⟨by rw [hcm1.out], rfl⟩
          ·replace hcm1 : (now.take (r + 1)).countP isImp = cm + 1 := by simpa using hcm1
           replace hcm1 := Lib.hid hcm1;go_wp2_with fail;go_meet
           case rel => exact ⟨by rw [hcm1.out]; go_num, rfl⟩
         case rest =>
          obtain ⟨rfl, hw⟩ := hcut;subst hw
          try (generalize wc = W3 at *)
          clear hcm1;go_wp2_with fail
          go_loopw [13, 14] (fun p j wr => ∃ q : Nat, q ≤ now.length ∧ j = .int .i64 q ∧ p = .int .i64 ((now.take q).countP (isPak epk) : Nat) ∧ Mod Nowhere W3 wr) (fun _ j _ => now.length - (intOf j).toNat)
          case atStart => exact ⟨0, by omega, rfl, by simp, Mod.refl _ _⟩
          case round =>
           obtain ⟨qq, hq, rfl, rfl, hmq⟩ := hrel;clear x0 x1 x2 x3 x4 x5 x6 x7 xl y1 yl k0 k1 k2 kl t1 t2;obtain ⟨x0, x1, x2, x3, x4, x5, x6, x7, xl, y1, yl⟩ := hcx.out wr (hmx.out.trans hmq);by_cases hqt : qq < now.length
           ·have hqi : (qq : Int) < (now.length : Int) := by omega
            obtain ⟨b', off', a5, c5, a6, c6, e0, -, -, hqc⟩ := hel.out.ce hqt;simp at e0;obtain ⟨rfl, rfl⟩ := e0;have hcq := cnt_step (isPak epk) hqt;have hcr := cnt_le (isPak epk) now qq;obtain ⟨fk, hfk⟩ : ∃ fk, now[qq].kind = fk := ⟨_, rfl⟩;obtain ⟨fp, hfp⟩ : ∃ fp, now[qq].pk = fp := ⟨_, rfl⟩;have hpk' : isPak epk now[qq] = (decide (fk = 3) && decide (fp = epk)) := by unfold isPak; rw [hfk, hfp]
            rw [hpk'] at hcq
            replace hqc : ∀ X, Mod Nowhere W3 X → X.cell? ⟨b, off + qq * 8 + 1, none⟩ = some (.int .i64 fk) ∧ X.cell? ⟨b, off + qq * 8 + 6, none⟩ = some (.int .i64 fp) ∧ b < X.heap.size := fun X hm => by
             obtain ⟨⟨-, z1, -, -, -, -, z6, -, zl⟩, -⟩ := hqc X (hm3.out.trans hm);rw [hfk] at z1;rw [hfp] at z6;exact ⟨z1, z6, zl⟩
            obtain ⟨z1, z6, zl⟩ := hqc wr hmq;obtain ⟨cq, hcqe⟩ : ∃ c, (now.take qq).countP (isPak epk) = c := ⟨_, rfl⟩;rw [hcqe] at hcq hcr ⊢;by_cases hf3 : fk = 3
            ·have hfb : ((fk : Int) == 3) = true := by simp [hf3]
             have hpb : ((fp : Int) == (epk : Int)) = decide (fp = epk) := by by_cases hx : fp = epk <;> simp [hx]; omega
             obtain ⟨bp, hbp⟩ : ∃ x, decide (fp = epk) = x := ⟨_, rfl⟩;rw [hbp] at hpb hcq;rw [decide_eq_true hf3] at hcq;have hdq := hmq.drew;refine hid9 ?_ hmq hqc hcqe hfk hfp hpk' hf3 hbp hdq; clear hmq hqc hcqe hfk hfp hpk' hf3 hbp hdq; intro hmq hqc hcqe hfk hfp hpk' hf3 hbp hdq
             cases bp
             ·have hcq1 : (now.take (qq + 1)).countP (isPak epk) = cq := by simpa using hcq
              replace hcq1 := Lib.hid hcq1;clear hcq;go_wp2_with fail
              go_region_held3 (fun W => W.cell? ⟨b, off + qq * 8 + 1, none⟩ = some (.int .i64 fk) ∧ W.cell? ⟨b, off + qq * 8 + 6, none⟩ = some (.int .i64 fp) ∧ W.cell? ⟨N10, 6, none⟩ = some (.int .i64 epk)) (simp [*, World.cell?_alloc_some, World.cell?_setCell_far, World.cell?_setCell_other])
               (first | fail)
              go_wp2;go_roundw
              case rel => exact ⟨qq + 1, by omega, by go_num, by rw [hcq1.out], hdq.out⟩
              case measure => simp [intOf]; omega
             ·have hcq1 : (now.take (qq + 1)).countP (isPak epk) = cq + 1 := by simpa using hcq
              replace hcq1 := Lib.hid hcq1;clear hcq;go_wp2_with fail
              go_region_held3 (fun W => W.cell? ⟨b, off + qq * 8 + 1, none⟩ = some (.int .i64 fk) ∧ W.cell? ⟨b, off + qq * 8 + 6, none⟩ = some (.int .i64 fp) ∧ W.cell? ⟨N10, 6, none⟩ = some (.int .i64 epk)) (simp [*, World.cell?_alloc_some, World.cell?_setCell_far, World.cell?_setCell_other])
               (first | fail)
              go_wp2;go_roundw
              case rel => exact ⟨qq + 1, by omega, by go_num, by rw [hcq1.out]; go_num, hdq.out⟩
              case measure => simp [intOf]; omega
            ·have hfb : ((fk : Int) == 3) = false := beq_eq_false_iff_ne.2 (by omega)
             have hcq1 : (now.take (qq + 1)).countP (isPak epk) = cq := by rw [hcq, decide_eq_false hf3]; simp
             clear hcq;refine hid8 ?_ hmq hqc hcqe hfk hfp hpk' hf3 hcq1; clear hmq hqc hcqe hfk hfp hpk' hf3 hcq1; intro hmq hqc hcqe hfk hfp hpk' hf3 hcq1;go_wp2_with fail;refine wp_region_calm (fun i v w' => match i with | 0 => (v = .slice (some ⟨b, off, none⟩) now.length ecap) | 1 => (v = .int .i64 qq) | 2 => (v = .pointer (some ⟨b, off + qq * 8, none⟩)) | 3 => (v = .pointer (some ⟨b, off + qq * 8 + 1, none⟩)) | 4 => (v = .int .i64 fk) | 5 => (v = .bool false) | 6 => (v = .bool false) | 15 => (v = .bool false) | _ => True) ?A_27 (by first | assumption | kernel_rfl) (by kernel_rfl) (by kernel_rfl) ?hA_27 ?hS_27 ?hE_27
             case hA_27 => intro xs; simp [putAll, List.range, List.range.loop, Act.put] <;> rfl
             case hS_27 =>
              refine ⟨?_, ?_, ?_, ?_, ?_, ?_, ?_, ?_, ?_, ?_, ?_, ?_, ?_, ?_, ?_, ?_, trivial⟩
              ·-- 0: t112 := move(t6)
               intro yv w' hR hF K hK;clear hF
               go_simp
               exact hK _ _ (fun _ _ => by first | trivial | rfl | simp [*]) (Mod.refl _ _)
              ·-- 1: t113 := move(t14)
               intro yv w' hR hF K hK;clear hF
               go_simp
               exact hK _ _ (fun _ _ => by first | trivial | rfl | simp [*]) (Mod.refl _ _)
              ·-- 2: t114 := indexAddr(40, t112, t113)
               intro yv w' hR hF K hK;have f0 : (yv 0) = .slice (some ⟨b, off, none⟩) now.length ecap := hF 0 (by kernel_rfl) w' (Mod.refl _ _);have f1 : (yv 1) = .int .i64 qq := hF 1 (by kernel_rfl) w' (Mod.refl _ _);clear hF;generalize yv 0 = y0 at *;subst f0;generalize yv 1 = y1 at *;subst f1
               go_simp
               exact hK _ _ (fun _ _ => by first | trivial | rfl | simp [*]) (Mod.refl _ _)
              ·-- 3: t115 := fieldAddr(24, t114, 1)
               intro yv w' hR hF K hK;have f2 : (yv 2) = .pointer (some ⟨b, off + qq * 8, none⟩) := hF 2 (by kernel_rfl) w' (Mod.refl _ _);clear hF;generalize yv 2 = y2 at *;subst f2
               go_simp
               exact hK _ _ (fun _ _ => by first | trivial | rfl | simp [*]) (Mod.refl _ _)
              ·-- 4: t116 := load(3, t115)
               intro yv w' hR hF K hK;have f3 : (yv 3) = .pointer (some ⟨b, off + qq * 8 + 1, none⟩) := hF 3 (by kernel_rfl) w' (Mod.refl _ _);clear hF;generalize yv 3 = y3 at *;subst f3;have hm1 := (Mod.refl Nowhere wr).drew.trans hR;obtain ⟨g1, g6, gl⟩ := hqc.out w' (hmq.out.trans hm1)
               go_simp
               exact hK _ _ (fun _ _ => rfl) (Mod.refl _ _)
              ·-- 5: t117 := binOp(eql, 3, t116, 3:i64, 3)
               intro yv w' hR hF K hK;have f4 : (yv 4) = .int .i64 fk := hF 4 (by kernel_rfl) w' (Mod.refl _ _);clear hF;generalize yv 4 = y4 at *;subst f4
               go_simp
               exact hK _ _ (fun _ _ => by first | trivial | rfl | simp [*]) (Mod.refl _ _)
              ·-- 6: t118 := move(t117)
               intro yv w' hR hF K hK;have f5 : (yv 5) = .bool false := hF 5 (by kernel_rfl) w' (Mod.refl _ _);clear hF;generalize yv 5 = y5 at *;subst f5
               go_simp
               exact hK _ _ (fun _ _ => by first | trivial | rfl | simp [*]) (Mod.refl _ _)
              ·-- 7: t119 := move(t6)   [guard (6, true)]
               intro yv w' hR hF K hK;have f6 : (yv 6) = .bool false := hF 6 (by kernel_rfl) w' (Mod.refl _ _);clear hF;generalize yv 6 = y6 at *;subst f6
               go_simp
               exact hK _ _ (fun _ _ => by first | trivial | rfl | simp [*]) (Mod.refl _ _)
              ·-- 8: t120 := move(t14)   [guard (6, true)]
               intro yv w' hR hF K hK;have f6 : (yv 6) = .bool false := hF 6 (by kernel_rfl) w' (Mod.refl _ _);clear hF;generalize yv 6 = y6 at *;subst f6
               go_simp
               exact hK _ _ (fun _ _ => by first | trivial | rfl | simp [*]) (Mod.refl _ _)
              ·-- 9: t121 := indexAddr(40, t119, t120)   [guard (6, true)]
               intro yv w' hR hF K hK;have f6 : (yv 6) = .bool false := hF 6 (by kernel_rfl) w' (Mod.refl _ _);clear hF;generalize yv 6 = y6 at *;subst f6
               go_simp
               exact hK _ _ (fun _ _ => by first | trivial | rfl | simp [*]) (Mod.refl _ _)
              ·-- 10: t122 := fieldAddr(24, t121, 6)   [guard (6, true)]
               intro yv w' hR hF K hK;have f6 : (yv 6) = .bool false := hF 6 (by kernel_rfl) w' (Mod.refl _ _);clear hF;generalize yv 6 = y6 at *;subst f6
               go_simp
               exact hK _ _ (fun _ _ => by first | trivial | rfl | simp [*]) (Mod.refl _ _)
              ·-- 11: t123 := load(3, t122)   [guard (6, true)]
               intro yv w' hR hF K hK;have f6 : (yv 6) = .bool false := hF 6 (by kernel_rfl) w' (Mod.refl _ _);clear hF;generalize yv 6 = y6 at *;subst f6
               go_simp
               exact hK _ _ (fun _ _ => by first | trivial | rfl | simp [*]) (Mod.refl _ _)
              ·-- 12: t124 := fieldAddr(24, t10, 6)   [guard (6, true)]
               intro yv w' hR hF K hK;have f6 : (yv 6) = .bool false := hF 6 (by kernel_rfl) w' (Mod.refl _ _);clear hF;generalize yv 6 = y6 at *;subst f6
               go_simp
               exact hK _ _ (fun _ _ => by first | trivial | rfl | simp [*]) (Mod.refl _ _)
              ·-- 13: t125 := load(3, t124)   [guard (6, true)]
               intro yv w' hR hF K hK;have f6 : (yv 6) = .bool false := hF 6 (by kernel_rfl) w' (Mod.refl _ _);clear hF;generalize yv 6 = y6 at *;subst f6
               go_simp
               exact hK _ _ (fun _ _ => by first | trivial | rfl | simp [*]) (Mod.refl _ _)
              ·-- 14: t126 := binOp(eql, 3, t123, t125, 3)   [guard (6, true)]
               intro yv w' hR hF K hK;have f6 : (yv 6) = .bool false := hF 6 (by kernel_rfl) w' (Mod.refl _ _);clear hF;generalize yv 6 = y6 at *;subst f6
               go_simp
               exact hK _ _ (fun _ _ => by first | trivial | rfl | simp [*]) (Mod.refl _ _)
              ·-- 15: t127 := pick(t118, t126, const(Value.bool(false)))
               intro yv w' hR hF K hK;have f6 : (yv 6) = .bool false := hF 6 (by kernel_rfl) w' (Mod.refl _ _);clear hF;generalize yv 6 = y6 at *;subst f6
               go_simp
               exact hK _ _ (fun _ _ => by first | trivial | rfl | simp [*]) (Mod.refl _ _)
             case hE_27 =>
              intro yv w' hR hF;have f0 : (yv 0) = .slice (some ⟨b, off, none⟩) now.length ecap := hF 0 (by simp) w' (Mod.refl _ _);have f1 : (yv 1) = .int .i64 qq := hF 1 (by simp) w' (Mod.refl _ _);have f2 : (yv 2) = .pointer (some ⟨b, off + qq * 8, none⟩) := hF 2 (by simp) w' (Mod.refl _ _);have f3 : (yv 3) = .pointer (some ⟨b, off + qq * 8 + 1, none⟩) := hF 3 (by simp) w' (Mod.refl _ _);have f4 : (yv 4) = .int .i64 fk := hF 4 (by simp) w' (Mod.refl _ _);have f5 : (yv 5) = .bool false := hF 5 (by simp) w' (Mod.refl _ _);have f6 : (yv 6) = .bool false := hF 6 (by simp) w' (Mod.refl _ _);have f15 : (yv 15) = .bool false := hF 15 (by simp) w' (Mod.refl _ _)
              clear hF;generalize yv 0 = y0 at *;subst f0;generalize yv 1 = y1 at *;subst f1;generalize yv 2 = y2 at *;subst f2;generalize yv 3 = y3 at *;subst f3;generalize yv 4 = y4 at *;subst f4;generalize yv 5 = y5 at *;subst f5;generalize yv 6 = y6 at *;subst f6;generalize yv 15 = y15 at *;subst f15;have hmf := hmq.out.trans ((Mod.refl Nowhere wr).drew.trans hR);replace hmf := Lib.hid hmf;go_wp2;go_roundw
              case rel => exact ⟨qq + 1, by omega, by go_num, by rw [hcq1.out], hmf.out⟩
              case measure => simp [intOf]; omega
           ·have hqi : ¬ (qq : Int) < (now.length : Int) := by omega
            have hqe : now.take qq = now := List.take_of_length_le (by omega);rw [hqe];clear hqe;have hmw := hm3.out.trans hmq;obtain ⟨cp, hcp⟩ : ∃ c, now.countP (isPak epk) = c := ⟨_, rfl⟩;rw [hcp];by_cases hk1 : ek = 1
            ·have hkb : ((ek : Int) == 1) = true := by simp [hk1]
             have hkc : ((ek : Int) != 1) = false := by simp [hk1]
             refine hid4 ?_ hmq hmw hcp hk1; clear hmq hmw hcp hk1; intro hmq hmw hcp hk1;go_wp2;go_roundw
             case rel => exact ⟨r + 1, by omega, by go_num, rfl, rfl, hmw.out⟩
             case measure => simp [intOf]; omega
            ·have hkb : ((ek : Int) == 1) = false := beq_eq_false_iff_ne.2 (by omega)
             have hkc : ((ek : Int) != 1) = true := by simp; omega
             have hcp1 : cp = 1 := hcp.symm.trans (hpk.out hk1);subst hcp1;refine hid4 ?_ hmq hmw hcp hk1; clear hmq hmw hcp hk1; intro hmq hmw hcp hk1;go_wp2;go_roundw
             case rel => exact ⟨r + 1, by omega, by go_num, rfl, rfl, hmw.out⟩
             case measure => simp [intOf]; omega
    ·have hri : ¬ (r : Int) < (now.length : Int) := by omega
     obtain ⟨-, hL32, hImp, hIss⟩ := hlaw.out;have hre : now.take r = now := List.take_of_length_le (by omega);rw [hre] at *;clear hre;obtain ⟨ci, hci⟩ : ∃ ci, now.countP isIss = ci := ⟨_, rfl⟩;obtain ⟨cm, hcm⟩ : ∃ cm, now.countP isImp = cm := ⟨_, rfl⟩;rw [hci] at hIss ⊢;rw [hcm] at hImp ⊢;have g1 : (now.length : Int) ≤ 32 := by omega
     have g2 : (cm : Int) ≤ 1 := by omega
     have hmd5 := hd5.md;by_cases hz : now.length = 0
     ·have g3 : ((now.length : Int) == 0) = true := by simp [hz]
      refine hid7 ?_ hd5 hmr hci hcm hIss hz hmd5; clear hd5 hmr hci hcm hIss hz hmd5; intro hd5 hmr hci hcm hIss hz hmd5;go_wp2_with fail;refine (hWk.out _).mono ?_;rintro e w5 ⟨rfl, hm5⟩;go_wp2;go_ret;exact ⟨rfl, hmd5.out.trans hm5⟩
     ·have g3 : ((now.length : Int) == 0) = false := beq_eq_false_iff_ne.2 (by omega)
      have hci1 : ci = 1 := hIss (by intro e; rw [e] at hz; exact hz rfl);have g4 : ((ci : Int) == 1) = true := by simp [hci1]
      refine hid8 ?_ hd5 hmr hci hcm hIss hz hci1 hmd5; clear hd5 hmr hci hcm hIss hz hci1 hmd5; intro hd5 hmr hci hcm hIss hz hci1 hmd5;go_wp2_with fail;refine (hWk.out _).mono ?_;rintro e w5 ⟨rfl, hm5⟩;go_wp2;go_ret;exact ⟨rfl, hmd5.out.trans hm5⟩
end Go.Proofs.YthmahbfmfpjjcaaGreat
