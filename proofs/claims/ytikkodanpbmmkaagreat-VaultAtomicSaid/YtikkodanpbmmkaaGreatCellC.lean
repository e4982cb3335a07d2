/-
  The walks over the package cell, fourth part: Clone.
-/
import Derived.Test.YtikkodanpbmmkaaGreatG03
import Derived.Test.YtikkodanpbmmkaaGreatG04
import Derived.Test.YtikkodanpbmmkaaGreatG11
import Derived.Deep.RegionHeld3
import Derived.Deep.Cut
import Derived.Deep.CutRange
import Derived.Deep.DeepCutAuto
set_option linter.unusedVariables false
set_option linter.unusedSimpArgs false
namespace Go.Proofs.YtikkodanpbmmkaaGreat
open Go.RowKit

/-- What Clone leaves: another memory, all of it new, with the same contents. -/
def CloneMem (m : Mem) (w : World) (v : Ending) (w' : World) : Prop :=
  ∃ M : MemAt, v = .returned (ptr M.mb) ∧ MemRep w' M m ∧ (∀ k, M.S k → w.heap.size ≤ k) ∧ Mod Nowhere w w'
theorem owns_base {W : World} {base base' : Nat} {e : TypeId} {size : Nat} {v : Value} {k : Nat} {xs : List Value} (h : W.ownsRow base e size v k xs) (hb : base' ≤ base) : W.ownsRow base' e size v k xs :=
  ⟨h.1, h.2.imp id fun ⟨g, cap, cur, e, hg, r⟩ => ⟨g, cap, cur, e, Nat.le_trans hb hg, r⟩⟩
theorem ints_one (l : List Nat) : ∀ u ∈ ints l, u.oneCell' = true := by
  intro u hu
  obtain ⟨x, _, rfl⟩ := List.mem_map.1 hu
  rfl
theorem clone_rep {w' : World} {m : Mem} {tb wb gb cap : Nat} {cs : List Value} (hok : m.Ok) (h1 : Blk w' tb [.slice (some ⟨wb, 0, none⟩) m.size m.size, .slice (some ⟨gb, 0, none⟩) m.size cap, .int .i64 m.endu, .int .i64 m.writes, .int .i64 m.cuts, .bool m.off, .bool m.pending, .int .i64 m.left] 108)
    (h2 : Blk w' wb (u32s m.words) 151) (h3 : Blk w' gb cs 3) (h4 : m.size ≤ cap) (h5 : cap ≤ maxLen) (h6 : cs.length = cap) (h7 : cs.take m.size = ints m.wear) : MemRep w' ⟨tb, wb, gb, cap, cs.drop m.size⟩ m := by
  refine ⟨hok, fun e => ?_, fun e => ?_, fun e => ?_, h4, h5, by simp; omega, h1, h2, ?_⟩
  · have e : tb = wb := e
    rw [← e] at h2; exact absurd (h1.inj h2).2 (by decide)
  · have e : tb = gb := e
    rw [← e] at h3; exact absurd (h1.inj h3).2 (by decide)
  · have e : wb = gb := e
    rw [← e] at h3; exact absurd (h2.inj h3).2 (by decide)
  · rw [← h7, List.take_append_drop]; exact h3
/-- The words that are copied already. -/
def part32 (l : List Nat) (k : Nat) : List Value := u32s (l.take k) ++ List.replicate (l.length - k) (.int .u32 0)
theorem part32_set (l : List Nat) (k : Nat) (hk : k < l.length) : (part32 l k).set k (.int .u32 (l.getD k 0 : Nat)) = part32 l (k + 1) := by
  unfold part32
  have hl : (u32s (l.take k)).length = k := by simp [u32s]; omega
  obtain ⟨j, hj⟩ : ∃ j, l.length - k = j + 1 := ⟨l.length - k - 1, by omega⟩
  rw [hj, show l.length - (k + 1) = j by omega, List.replicate_succ, List.set_append, if_neg (by omega), hl, Nat.sub_self, List.set_cons_zero, List.take_succ_eq_append_getElem hk]
  rw [List.getD_eq_getElem?_getD, List.getElem?_eq_getElem hk, show u32s (l.take k ++ [l[k]]) = u32s (l.take k) ++ [.int .u32 (l[k] : Nat)] by unfold u32s; rw [List.map_append]; rfl, List.append_assoc]
  rfl
theorem part32_len (l : List Nat) (k : Nat) (hk : k ≤ l.length) : (part32 l k).length = l.length := by simp [part32, u32s]; omega
theorem clone_cut {w X : World} {t wb B n sz : Nat} {s0 s1 c2 c3 c4 c5 c6 c7 rv : Value} {L xs : List Value} {T U E : TypeId} (hb : Blk X t [s0, s1, c2, c3, c4, c5, c6, c7] T) (hx : Blk X wb L U) (ht : wb ≠ t) (ho : X.ownsRow B E sz rv n xs) (hB : t < B) (hm : Mod Nowhere w X) (hw : w.heap.size ≤ t) (v0 v1 : Value) :
    Blk ((X.setCell ⟨t, 0, none⟩ v0).setCell ⟨t, 1, none⟩ v1) t [v0, v1, c2, c3, c4, c5, c6, c7] T ∧ Blk ((X.setCell ⟨t, 0, none⟩ v0).setCell ⟨t, 1, none⟩ v1) wb L U ∧ ((X.setCell ⟨t, 0, none⟩ v0).setCell ⟨t, 1, none⟩ v1).ownsRow B E sz rv n xs ∧ Mod Nowhere w ((X.setCell ⟨t, 0, none⟩ v0).setCell ⟨t, 1, none⟩ v1) := by
  have h1 : Mod (fun k => k = t) X ((X.setCell ⟨t, 0, none⟩ v0).setCell ⟨t, 1, none⟩ v1) := ((Mod.refl (fun k => k = t) X).setCell (p := ⟨t, 0, none⟩) (fun _ => rfl) v0).setCell (p := ⟨t, 1, none⟩) (fun _ => rfl) v1
  exact ⟨(hb.setCell 0 v0).setCell 1 v1, hx.mod h1 ht, owns_mod ho h1 (fun k hk e => by have e : k = t := e; omega), hm.step h1 fun i hi e => by have e : i = t := e; omega⟩
theorem clone_cut2 {w X : World} {t B n sz : Nat} {s0 s1 c2 c3 c4 c5 c6 c7 rv : Value} {L xs : List Value} {A : Array Value} {T E : TypeId} (hb : Blk X t [s0, s1, c2, c3, c4, c5, c6, c7] T) (ho : X.ownsRow B E sz rv n xs) (hB : t < B) (hm : Mod Nowhere w X) (hw : w.heap.size ≤ t) (hBX : B ≤ X.heap.size) (hA : L.toArray = A) (U : TypeId) (p q : Nat) (v1 : Value) :
    Blk (((X.setCell ⟨t, 0, none⟩ (.slice (some ⟨X.heap.size, 0, none⟩) p q)).setCell ⟨t, 1, none⟩ v1).alloc (.cells A U)) t [.slice (some ⟨X.heap.size, 0, none⟩) p q, v1, c2, c3, c4, c5, c6, c7] T ∧ Blk (((X.setCell ⟨t, 0, none⟩ (.slice (some ⟨X.heap.size, 0, none⟩) p q)).setCell ⟨t, 1, none⟩ v1).alloc (.cells A U)) X.heap.size L U ∧ (((X.setCell ⟨t, 0, none⟩ (.slice (some ⟨X.heap.size, 0, none⟩) p q)).setCell ⟨t, 1, none⟩ v1).alloc (.cells A U)).ownsRow B E sz rv n xs ∧ Mod Nowhere w (((X.setCell ⟨t, 0, none⟩ (.slice (some ⟨X.heap.size, 0, none⟩) p q)).setCell ⟨t, 1, none⟩ v1).alloc (.cells A U)) := by
  generalize hv : Value.slice (some ⟨X.heap.size, 0, none⟩) p q = v0
  have h1 : Mod (fun k => k = t) X ((X.setCell ⟨t, 0, none⟩ v0).setCell ⟨t, 1, none⟩ v1) := ((Mod.refl (fun k => k = t) X).setCell (p := ⟨t, 0, none⟩) (fun _ => rfl) v0).setCell (p := ⟨t, 1, none⟩) (fun _ => rfl) v1
  exact ⟨(((hb.setCell 0 v0).setCell 1 v1)).alloc _, Blk.new' (by simp [World.setCell]) hA, owns_mod ho (h1.alloc _) (fun k hk e => by have e : k = t := e; omega), (hm.step h1 fun i hi e => by have e : i = t := e; omega).alloc _⟩
set_option maxRecDepth 100000 in
set_option maxHeartbeats 8000000 in
theorem Clone_ok {w : World} {M : MemAt} {m : Mem} (h : MemRep w M m) : Calls Tryz.prog 62 #[ptr M.mb] w (CloneMem m w) := by
  have hsz := h.sz
  have hmk1 : ∀ w, (Instr.makeSlice 106 (.int .i64 m.size) (.int .i64 m.size)).run Tryz.prog w = .ok (.slice (some ⟨w.heap.size, 0, none⟩) m.size m.size) (w.alloc (.cells (List.replicate m.size (.int .u32 0)).toArray 151)) :=
    run_make_full _ _ _ 4 Tryz.underlying106 info_u32 rfl m.size (by omega) (by omega)
  have k0 := h.f0
  have k1 := h.f1
  have k2 := h.f2
  have k3 := h.f3
  have k4 := h.f4
  have k5 := h.f5
  have k6 := h.f6
  have k7 := h.f7
  have kl := h.bm.lt
  have hwl := h.bw.lt
  have hsl : Sl w (.slice (some ⟨M.rb, 0, none⟩) m.size M.rcap) 3 1 m.size (ints m.wear) := by
    have hl : (ints m.wear).length = m.size := by simp [ints, Mem.size, h.ok.wl]
    exact ⟨by omega, .inr ⟨_, _, _, _, rfl, h.br, h.cap, h.cap2, by simp [hl]; have := h.spare; omega, by simp [← hl]⟩⟩
  have hcl := fun W (hm : Mod Nowhere w W) => Clone_int (hsl.mod hm (fun _ _ => id)) (ints_one _) (by omega)
  have hcM := fun W (hm : Mod Nowhere w W) => h.mod hm (fun _ _ => id)
  have hok := h.ok
  obtain ⟨W0, hW0⟩ : ∃ W0, w.alloc (.cells #[.slice (some ⟨M.wb, 0, none⟩) m.size m.size, .slice (some ⟨M.rb, 0, none⟩) m.size M.rcap, .int .i64 m.endu, .int .i64 m.writes, .int .i64 m.cuts, .bool m.off, .bool m.pending, .int .i64 m.left] 108) = W0 := ⟨_, rfl⟩
  have hm0 : Mod Nowhere w W0 := by rw [← hW0]; exact (Mod.refl _ w).alloc _
  have hb0 : Blk W0 w.heap.size [.slice (some ⟨M.wb, 0, none⟩) m.size m.size, .slice (some ⟨M.rb, 0, none⟩) m.size M.rcap, .int .i64 m.endu, .int .i64 m.writes, .int .i64 m.cuts, .bool m.off, .bool m.pending, .int .i64 m.left] 108 := by rw [← hW0]; exact Blk.new' rfl rfl
  have j0 : W0.cell? ⟨M.mb, 0, none⟩ = some (.slice (some ⟨M.wb, 0, none⟩) m.size m.size) := (hcM W0 hm0).f0
  have j1 : W0.cell? ⟨M.mb, 1, none⟩ = some (.slice (some ⟨M.rb, 0, none⟩) m.size M.rcap) := (hcM W0 hm0).f1
  have j3 := hb0.cell 0
  have j4 := hb0.cell 1
  have jf := hb0.frozen
  have hl0 := hb0.lt
  simp only [List.getElem?_cons_zero, List.getElem?_cons_succ] at j3 j4
  have kl0 : M.mb < W0.heap.size := Nat.lt_of_lt_of_le kl hm0.size
  have hne : M.mb ≠ w.heap.size := by omega
  clear h hsl
  replace hcl := Lib.hid hcl
  replace hok := Lib.hid hok
  replace hcM := Lib.hid hcM
  replace hm0 := Lib.hid hm0
  replace hb0 := Lib.hid hb0
  obtain ⟨n, hn⟩ : ∃ n, m.size = n := ⟨_, rfl⟩
  rw [hn] at hmk1 k0 k1 j0 j1 j3 j4 hb0 hcl hsz hW0
  replace hn := Lib.hid hn
  generalize hA : (List.replicate n (Value.int .u32 0)).toArray = A at hmk1
  replace hA := Lib.hid hA
  go_enter Tryz.func62, Tryz.ntmps62
  go_wp2
  replace hW0 := Lib.hid hW0
  go_cut [] (fun w1 => ∃ (wb : Nat) (ra : Option Addr) (rc : Nat), Blk w1 w.heap.size [.slice (some ⟨wb, 0, none⟩) n n, .slice ra n rc, .int .i64 m.endu, .int .i64 m.writes, .int .i64 m.cuts, .bool m.off, .bool m.pending, .int .i64 m.left] 108 ∧ Blk w1 wb (List.replicate n (.int .u32 0)) 151 ∧ w.heap.size < wb ∧ w1.ownsRow W0.heap.size 3 1 (.slice ra n rc) n (ints m.wear) ∧ Mod Nowhere w w1)
  case first =>
    have hMd : Mod Nowhere W0 W0.drew := (Mod.refl Nowhere W0).drew
    have hMa : Mod Nowhere W0 (W0.alloc (.cells A 151)).drew := ((Mod.refl Nowhere W0).alloc _).drew
    have hxB : Blk (W0.alloc (.cells A 151)).drew W0.heap.size (List.replicate n (.int .u32 0)) 151 := Blk.drew (Blk.new' rfl hA.out)
    have hxA : ∀ w5, Mod Nowhere (W0.alloc (.cells A 151)).drew w5 → Blk w5 W0.heap.size (List.replicate n (.int .u32 0)) 151 := fun w5 hm => hxB.mod hm id
    have hcM1 := hcl.out _ (hm0.out.trans hMd)
    have hcM2 := hcl.out _ (hm0.out.trans hMa)
    replace hxA := Lib.hid hxA
    replace hcM1 := Lib.hid hcM1
    replace hcM2 := Lib.hid hcM2
    clear hxB
    go_region_held3 (fun w' => w'.cell? ⟨M.mb, 0, none⟩ = some (.slice (some ⟨M.wb, 0, none⟩) n n) ∧ w'.cell? ⟨M.mb, 1, none⟩ = some (.slice (some ⟨M.rb, 0, none⟩) n M.rcap)) (simp [*, World.cell?_alloc_some, World.cell?_setCell_far, World.cell?_setCell_other])
      (first
        | (go_at_call 120; (with_reducible refine hcM1.out.mono ?_); rintro e w5 ⟨v5, rfl, hown5, hnil5, hm5⟩; obtain ⟨va5, vc5, rfl, -⟩ := owns_form hown5; have hmW5 : Mod Nowhere W0 w5 := hMd.trans hm5; have hown6 := owns_base (base' := W0.heap.size) hown5 hMd.size; have q0 : w5.cell? ⟨M.mb, 0, none⟩ = some (.slice (some ⟨M.wb, 0, none⟩) n n) := (hmW5.cell (p := ⟨M.mb, 0, none⟩) kl0 id).trans j0; have q1 : w5.cell? ⟨M.mb, 1, none⟩ = some (.slice (some ⟨M.rb, 0, none⟩) n M.rcap) := (hmW5.cell (p := ⟨M.mb, 1, none⟩) kl0 id).trans j1; have hb5 := hb0.out.mod hmW5 id; have q3 := hb5.cell 0; have q4 := hb5.cell 1; simp only [List.getElem?_cons_zero, List.getElem?_cons_succ] at q3 q4; have qf := hb5.frozen; have ql := hb5.lt; have tok : 0 = 0 := rfl; replace hmW5 := Lib.hid hmW5; replace hown6 := Lib.hid hown6; replace hb5 := Lib.hid hb5; clear hnil5 hown5 hm5)
        | (go_at_call 120; (with_reducible refine hcM2.out.mono ?_); rintro e w5 ⟨v5, rfl, hown5, hnil5, hm5⟩; obtain ⟨va5, vc5, rfl, -⟩ := owns_form hown5; have hmW5 : Mod Nowhere W0 w5 := hMa.trans hm5; have hown6 := owns_base (base' := W0.heap.size) hown5 hMa.size; have q0 : w5.cell? ⟨M.mb, 0, none⟩ = some (.slice (some ⟨M.wb, 0, none⟩) n n) := (hmW5.cell (p := ⟨M.mb, 0, none⟩) kl0 id).trans j0; have q1 : w5.cell? ⟨M.mb, 1, none⟩ = some (.slice (some ⟨M.rb, 0, none⟩) n M.rcap) := (hmW5.cell (p := ⟨M.mb, 1, none⟩) kl0 id).trans j1; have hb5 := hb0.out.mod hmW5 id; have q3 := hb5.cell 0; have q4 := hb5.cell 1; simp only [List.getElem?_cons_zero, List.getElem?_cons_succ] at q3 q4; have qf := hb5.frozen; have ql := hb5.lt; have hx5 := hxA.out w5 hm5; replace hmW5 := Lib.hid hmW5; replace hown6 := Lib.hid hown6; replace hb5 := Lib.hid hb5; replace hx5 := Lib.hid hx5; clear hnil5 hown5 hm5)
        | fail)
    · have hf := clone_cut hb5.out hx5.out (by omega) hown6.out hl0 (hm0.out.trans hmW5.out) (Nat.le_refl _) (.slice (some ⟨W0.heap.size, 0, none⟩) n n) (.slice va5 n vc5)
      replace hf := Lib.hid hf
      go_wp2
      go_meet
      case rel => exact ⟨_, _, _, hf.out.1, hf.out.2.1, hl0, hf.out.2.2.1, hf.out.2.2.2⟩
    · have hs5 := hmW5.out.size
      have hf := clone_cut2 hb5.out hown6.out hl0 (hm0.out.trans hmW5.out) (Nat.le_refl _) hs5 (L := List.replicate n (.int .u32 0)) hA.out 151 n n (.slice va5 n vc5)
      replace hf := Lib.hid hf
      go_wp2
      go_meet
      case rel => exact ⟨_, _, _, hf.out.1, hf.out.2.1, by omega, hf.out.2.2.1, hf.out.2.2.2⟩
  case rest =>
    obtain ⟨wb, ra, rc, hbt, hbw, hwb, hor, hmc⟩ := hcut
    have hMc := hcM.out wc hmc
    have p0 : wc.cell? ⟨M.mb, 0, none⟩ = some (.slice (some ⟨M.wb, 0, none⟩) n n) := by rw [← hn.out]; exact hMc.f0
    have hMl := hMc.bm.lt
    have hor2 : (0 : Nat) < n := by omega
    obtain ⟨t, ht⟩ : ∃ t, w.heap.size = t := ⟨_, rfl⟩
    rw [ht] at hbt hwb hne
    rw [ht]
    have hBt : t < W0.heap.size := by omega
    have hst0 : Blk wc wb (part32 m.words 0) 151 := by
      unfold part32
      rw [List.take_zero, show m.words.length - 0 = n by have := hn.out; unfold Mem.size at this; omega]
      exact hbw
    replace ht := Lib.hid ht
    clear hbw hMc p0 hMl k0 k1 k2 k3 k4 k5 k6 k7 j0 j1 j3 j4 jf
    replace hor := Lib.hid hor
    replace hbt := Lib.hid hbt
    replace hmc := Lib.hid hmc
    replace hst0 := Lib.hid hst0
    have hp0 : ∀ W, Mod Nowhere w W → W.cell? ⟨M.mb, 0, none⟩ = some (.slice (some ⟨M.wb, 0, none⟩) n n) := fun W hm => by rw [← hn.out]; exact (hcM.out W hm).f0
    have c0 := hp0 wc hmc.out
    have cl : M.mb < wc.heap.size := (hcM.out wc hmc.out).bm.lt
    replace hp0 := Lib.hid hp0
    go_wp2
    go_loopw [29] (fun i wr => ∃ k : Nat, k ≤ n ∧ i = .int .i64 k ∧ Blk wr wb (part32 m.words k) 151 ∧ Mod (fun b => b = wb) wc wr) (fun i _ => n - (RowKit.intOf i).toNat)
    case atStart => exact ⟨0, by omega, rfl, hst0.out, Mod.refl _ _⟩
    case round =>
      obtain ⟨k, hk, rfl, hbk, hmk⟩ := hrel
      have hmw : Mod Nowhere w wr := hmc.out.step hmk fun i hi e => by have e : i = wb := e; have := ht.out; omega
      by_cases hlt : k < n
      · have hR := hcM.out wr hmw
        have q0 := hp0.out wr hmw
        have q1 := hR.cellW (show k < m.size by rw [hn.out]; exact hlt)
        have ql : M.mb < wr.heap.size := hR.bm.lt
        have ql1 : M.wb < wr.heap.size := hR.bw.lt
        have hbt' := hbt.out.mod hmk (fun e => by have e : t = wb := e; omega)
        have q2 := hbt'.cell 0
        simp only [List.getElem?_cons_zero] at q2
        have ql2 := hbt'.lt
        have hml : m.words.length = n := hn.out
        have q3 : wr.cell? ⟨wb, k, none⟩ = some ((part32 m.words k).getD k default) := by
          rw [hbk.cell, List.getD_eq_getElem?_getD, List.getElem?_eq_getElem (by rw [part32_len _ _ (by omega)]; omega)]; rfl
        have q4 := hbk.frozen
        have ql4 := hbk.lt
        have hset := hbk.setCell k (.int .u32 (m.words.getD k 0 : Nat))
        rw [part32_set _ _ (by omega)] at hset
        have hmk2 := hmk.setCell (p := ⟨wb, k, none⟩) (fun _ => rfl) (.int .u32 (m.words.getD k 0 : Nat))
        have hx1 : M.mb ≠ wb := by have := ht.out; omega
        have hx2 : M.wb ≠ wb := by have := ht.out; have := hwl; omega
        generalize m.words.getD k 0 = x at *
        generalize (part32 m.words k).getD k default = y at *
        clear hR hbt' hbk hmk
        replace hset := Lib.hid hset
        replace hmk2 := Lib.hid hmk2
        replace hmw := Lib.hid hmw
        replace hml := Lib.hid hml
        go_wp2
        go_region_held3 (fun w' => w'.cell? ⟨M.mb, 0, none⟩ = some (.slice (some ⟨M.wb, 0, none⟩) n n) ∧ w'.cell? ⟨t, 0, none⟩ = some (.slice (some ⟨wb, 0, none⟩) n n) ∧ w'.cell? ⟨M.wb, k, none⟩ = some (.int .u32 (x : Int))) (simp [*, World.cell?_alloc_some, World.cell?_setCell_far, World.cell?_setCell_other])
          (first | fail)
        all_goals
          go_wp2
          go_roundw
          case rel => exact ⟨k + 1, by omega, by go_num, hset.out, hmk2.out.drew⟩
          case measure => simp [RowKit.intOf]; omega
      · obtain rfl : k = n := by omega
        obtain ⟨gb, cap, cs, e, -, hgb, h5, h6, h7, h8⟩ := owns_open hor.out (by omega)
        simp only [Value.slice.injEq, true_and] at e
        obtain ⟨rfl, rfl⟩ := e
        have hml : m.words.length = k := hn.out
        rw [show part32 m.words k = u32s m.words by unfold part32; rw [← hml, Nat.sub_self, List.take_length]; simp] at hbk
        have hgw : gb ≠ wb := fun e => by
          rw [e] at hgb
          exact absurd ((hst0.out).inj hgb).2 (by decide)
        have hfin : CloneMem m w (.returned (ptr t)) wr := by
          have hb1 := hbt.out.mod hmk (fun e => by have e : t = wb := e; omega)
          have hb3 := hgb.mod hmk (fun e => hgw e)
          have hrep := clone_rep (m := m) hok.out (by rw [hn.out]; exact hb1) hbk hb3 (by rw [hn.out]; exact h5) h6 (by rw [h7]; omega) (by rw [hn.out, ← h8]; simp)
          have htw := ht.out
          refine ⟨_, rfl, hrep, ?_, hmw⟩
          rintro i (e | e | e)
          · have e : i = t := e; omega
          · have e : i = wb := e; omega
          · have e : i = gb := e
            have hge : W0.heap.size ≤ gb := by
              have := hor.out.lt gb rfl
              exact this.1
            omega
        replace hfin := Lib.hid hfin
        go_wp2
        go_ret
        exact hfin.out
end Go.Proofs.YtikkodanpbmmkaaGreat
