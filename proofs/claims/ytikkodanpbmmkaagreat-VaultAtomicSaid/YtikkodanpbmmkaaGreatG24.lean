/-
  The reference of the vault: changes.
-/
import Derived.Test.YtikkodanpbmmkaaGreatG23
import Derived.Deep.QuietTactic
import Derived.BigQuiet
set_option linter.unusedVariables false
set_option linter.unusedSimpArgs false
namespace Go.Proofs.YtikkodanpbmmkaaGreat
open Go.RowKit
open Jn Vn
attribute [local go_sem] Oper.semAt_some

theorem info_edit : (Tryz.prog.info? 135).map (fun i => (i.zero, i.size, i.bytes)) = some (some (.agg #[.int .i64 0, .bool false, .slice none 0 0]), 3, 40) := by kernel_rfl
set_option maxRecDepth 100000 in
set_option maxHeartbeats 400000 in
theorem rIsItem_ok {w : World} (id : Int) (a : Option Addr) (n c : Nat) (hn : n ≤ 1099511627776) :
    Calls Tryz.prog 104 #[.int .i64 id, .slice a n c] w fun e w' => e = .returned (.bool (validB id n)) ∧ w = w' := by
  unfold validB
  by_cases h1 : 1 ≤ id
  · by_cases h2 : id ≤ 4096
    · by_cases h3 : n ≤ 2048
      · have h3' : (n : Int) ≤ 2048 := by omega
        go_enter Tryz.func104, Tryz.ntmps104
        go_wp2
        go_ret
        exact ⟨ret_bool (by simp [h1, h2, h3]), rfl⟩
      · have h3' : ¬ (n : Int) ≤ 2048 := by omega
        go_enter Tryz.func104, Tryz.ntmps104
        go_wp2
        go_ret
        exact ⟨ret_bool (by simp [h1, h2, h3]), rfl⟩
    · go_enter Tryz.func104, Tryz.ntmps104
      go_wp2
      go_ret
      exact ⟨ret_bool (by simp; omega), rfl⟩
  · go_enter Tryz.func104, Tryz.ntmps104
    go_wp2
    go_ret
    exact ⟨ret_bool (by simp; omega), rfl⟩
theorem step_app {P : Program} {w : World} {ops : Array Oper} {a : Act} {K : Act → World → Prop} {Q : Exit → Act → World → Prop} {E : Prop} {d : Option Tmp} (s x : Operand) {t tn ty : TypeId} {ps : String} {af : Array Edge}
    {vs vx : Value} {v' : Value} {w' : World} (hr : (Builtin.append_ #[t, tn] ty #[vs, vx]).run P w = .ok v' w') (hs : a.eval s = vs) (hx : a.eval x = vx) (h : K (a.put d v') w') :
    if Region.wanted { dst := d, op := .call { callee := .builtin .append, args := #[s, x], argTypes := #[t, tn] }, type := ty, pos := ps, after := af, guard := none } (yielded ops a.tmps) = true then Oper.wp P { dst := d, op := .call { callee := .builtin .append, args := #[s, x], argTypes := #[t, tn] }, type := ty, pos := ps, after := af, guard := none } a w K Q else E :=
  step_append_run rfl s x t tn rfl vs vx hs hx v' w' hr h
/-- The step is taken in this world. -/
theorem step_at {P : Program} {o : Oper} {y : Nat → Option Bool} {a : Act} {K : Act → World → Prop} {Q : Exit → Act → World → Prop} {E : Prop} (W : World)
    (h : if Region.wanted o y = true then Oper.wp P o a W K Q else E) : if Region.wanted o y = true then Oper.wp P o a W K Q else E := h
/-! ### Blocks of states that a call has changed -/
theorem ISl.mod {S : Nat → Prop} {w w' : World} {v : Value} {xs : List Ix} (h : ISl w v xs) (hm : Mod S w w') (hI : Shun S w 126) (hS : Shun S w 5) : ISl w' v xs :=
  ⟨h.sl.mod hm (h.sl.off hI), fun x hx => (h.data x hx).mod hm hS⟩
theorem ESl.mod {S : Nat → Prop} {w w' : World} {v : Value} {xs : List Vx} (h : ESl w v xs) (hm : Mod S w w') (hI : Shun S w 135) (hS : Shun S w 5) : ESl w' v xs :=
  ⟨h.sl.mod hm (h.sl.off hI), fun x hx => (h.data x hx).mod hm hS⟩
def States (w : World) (S : Nat → Prop) : Prop := ∀ k, S k → ∃ cs, Blk w k cs 54
theorem States.shun {w : World} {S : Nat → Prop} (h : States w S) {T : TypeId} (hT : T ≠ 54) : Shun S w T := fun k hk cs hb => by
  obtain ⟨cs', h'⟩ := h k hk
  exact hT (hb.inj h').2
theorem RSt.keep {S : Nat → Prop} {w w' : World} {R : Nat} {iv ev : Value} {xs : List Ix} {es : List Vx} {s : VSt} (h : RSt w R iv ev xs es s) (hm : Mod S w w') (hS : States w S) : RSt w' R iv ev xs es s :=
  ⟨h.it.mod hm (hS.shun (by decide)) (hS.shun (by decide)), h.its, h.ed.mod hm (hS.shun (by decide)) (hS.shun (by decide)), h.eds, h.ok, h.iok, h.len, h.room, h.idle⟩
def outW (W : World) (b : Nat) (c0 c1 c2 c3 : Value) : World := (((W.setCell ⟨b, 0, none⟩ c0).setCell ⟨b, 1, none⟩ c1).setCell ⟨b, 2, none⟩ c2).setCell ⟨b, 3, none⟩ c3
theorem Blk.outW {W : World} {b : Nat} {o0 o1 o2 o3 : Value} {T : TypeId} (h : Blk W b [o0, o1, o2, o3] T) (c0 c1 c2 c3 : Value) : Blk (outW W b c0 c1 c2 c3) b [c0, c1, c2, c3] T :=
  ((((h.setCell 0 c0).conv (show _ = [c0, o1, o2, o3] from rfl)).setCell 1 c1).conv (show _ = [c0, c1, o2, o3] from rfl) |>.setCell 2 c2 |>.conv (show _ = [c0, c1, c2, o3] from rfl)).setCell 3 c3 |>.conv rfl
theorem outW_mod (W : World) (b : Nat) (c0 c1 c2 c3 : Value) : Mod (fun k => k = b) W (outW W b c0 c1 c2 c3) :=
  ((((Mod.refl (fun k => k = b) W).setCell (p := ⟨b, 0, none⟩) (fun _ => rfl) _).setCell (p := ⟨b, 1, none⟩) (fun _ => rfl) _).setCell (p := ⟨b, 2, none⟩) (fun _ => rfl) _).setCell (p := ⟨b, 3, none⟩) (fun _ => rfl) _
/-- A call of the reference that hands back its state ends. -/
theorem st_end {fn : Func} {p u : Tmp} (hfn : fn.results = #[.cell p 54, .tmp u]) {w W W1 : World} {b B R er : Nat} {s' : VSt} {c1 c3 o0 o1 o2 o3 : Value} {csB : List Value} {ys : List Ix} {es : List Vx} {tmps : Array Value} {a : Bool}
    (hp : tmps.getD p undef = ptr b) (hu : tmps.getD u undef = errno er) (hW : Mod Nowhere w W) (hwB : w.heap.size ≤ B) (hwb : w.heap.size ≤ b) (hB : Blk W B csB 54) (hb : Blk W b [o0, o1, o2, o3] 54) (hBb : b ≠ B)
    (hm : Mod (fun k => k = B) W W1) (hst : RSt W R c1 c3 ys es s') (ha : s'.act = a) : bodyPost Tryz.prog fn (RPost w R s' er) .ret ⟨tmps, []⟩ (outW W1 b (.int .i64 R) c1 (.bool a) c3) := by
  have h1 : Blk W1 b [o0, o1, o2, o3] 54 := hb.mod hm hBb
  have hmo := outW_mod W1 b (.int .i64 R) c1 (.bool a) c3
  have hm2 : Mod (fun k => k = B ∨ k = b) W (outW W1 b (.int .i64 R) c1 (.bool a) c3) := (hm.mono fun _ _ h => .inl h).trans (hmo.mono fun _ _ h => .inr h)
  have hst2 := hst.keep hm2 (by
    rintro k (e | e)
    · rw [e]; exact ⟨_, hB⟩
    · rw [e]; exact ⟨_, hb⟩)
  refine bodyPost_ret (ret_state hfn tmps _ b _ _ _ _ hp (h1.outW _ _ _ _)) rfl ⟨_, by rw [hu], hst2.same ha, hW.step hm2 fun i hi e => ?_⟩
  rcases e with e | e <;> omega
/-- The edits with one more. -/
theorem ESl.snoc {W : World} {B n : Nat} {u : Value} {es : List Vx} {x : Vx} (hn : n = es.length + 1) (hd : ∀ y ∈ es, DSl W y.1 (y.2.2.getD [])) (hx : DSl W x.1 (x.2.2.getD [])) (ho : W.ownsRow B 135 3 u n (ecsCells es ++ ecCells x)) : ESl W u (es ++ [x]) := by
  subst hn
  refine ⟨?_, fun y hy => ?_⟩
  · have h := Sl.of_owns ho
    rw [ecsCells_append, List.length_append, show ecsCells [x] = ecCells x by simp [ecsCells]]
    exact h
  · rcases List.mem_append.1 hy with e | e
    · exact hd y e
    · rw [List.mem_singleton.1 e]; exact hx
/-- append([]Edit{}, edits...). -/
theorem edits_copy {W X : World} {b n ec : Nat} {ea : Option Addr} {es : List Vx} (he : ESl W (.slice ea n ec) es) (hn : n = es.length) (hX : Mod Nowhere W X) (hb : Blk X b [] 135) (hbW : W.heap.size ≤ b) (hl : n ≤ 8000) :
    ∃ va vc X', (Builtin.append_ #[52, 52] 52 #[.slice (some ⟨b, 0, none⟩) 0 0, .slice ea n ec]).run Tryz.prog X = .ok (.slice va n vc) X' ∧ X'.ownsRow W.heap.size 135 3 (.slice va n vc) n (ecsCells es) ∧ Mod (fun k => k = b) X X' ∧ Mod Nowhere W X' := by
  subst hn
  have ho : X.ownsRow W.heap.size 135 3 (.slice (some ⟨b, 0, none⟩) 0 0) 0 [] := ⟨rfl, .inr ⟨b, 0, #[], rfl, hbW, hb, Nat.le_refl _, by decide, rfl, rfl⟩⟩
  have hes := (he.fresh hX)
  have h1 : ∀ y ∈ ecsCells es, y.oneCell' = true := fun y hy => by
    obtain ⟨x, hx, hy⟩ := List.mem_flatMap.1 hy
    obtain ⟨a, c, e, _⟩ := Sl.len (he.data x hx)
    simp only [ecCells, List.mem_cons, List.not_mem_nil, or_false] at hy
    rcases hy with rfl | rfl | rfl
    · rfl
    · rfl
    · rw [e]; rfl
  have hB : W.heap.size ≤ X.heap.size := hX.size
  obtain ⟨i0, hi0, hz0, hz1, hz2⟩ := info_parts info_edit
  by_cases hm : es.length = 0
  · obtain ⟨ua, uc, e, -, -⟩ := hes.sl.len
    have he0 : es = [] := List.eq_nil_of_length_eq_zero hm
    subst he0
    refine ⟨_, 0, X, run_append_empty (P := Tryz.prog) X 52 52 135 i0 Tryz.underlying52 hi0 _ _ 0 0 _ (Nat.le_refl _), ho, Mod.refl _ _, hX⟩
  · obtain ⟨b', off, cap, e, hbl, hm1, hm2, hc, _⟩ := hes.sl.open (by omega)
    have hnews : ∀ j u, (ecsCells es)[j]? = some u → X.cell? ((⟨b', off, none⟩ : Addr).add j) = some u := fun j u hj => by
      have hjl := (List.getElem?_eq_some_iff.1 hj).1
      rw [add_lit, hc j (by rw [← hes.sl.1]; exact hjl), List.getD_eq_getElem?_getD, hj]; rfl
    obtain ⟨g, gc, w', hr, ho2, hg, _, _⟩ := run_append_lies (P := Tryz.prog) X 52 52 W.heap.size 135 i0 (.agg #[.int .i64 0, .bool false, .slice none 0 0]) 3 40 Tryz.underlying52 hi0 hz0 hz1 hz2 rfl (by decide) _ 0 [] ho ⟨b', off, none⟩ es.length cap (ecsCells es) (by rw [hes.sl.1]) hnews h1 (by omega) (by unfold maxLen; omega) (by omega) hB _ rfl
    rw [Nat.zero_add, List.nil_append] at ho2
    rw [Nat.zero_add] at hr
    have hmd : Mod (fun k => k = b) X w' := (Mod.refl _ X).grown hg (fun k hk _ => by simp [Value.ownBlock] at hk; exact hk.symm)
    rw [e]
    exact ⟨_, gc, w', hr, ho2, hmd, hX.step hmd fun i hi e => by have e : i = b := e; omega⟩
/-- append(edits, e). -/
theorem edits_snoc {W X : World} {cb n vc : Nat} {va : Option Addr} {es : List Vx} {x : Vx} (hd : ∀ y ∈ es, DSl W y.1 (y.2.2.getD [])) (hn : n = es.length) (hX : Mod Nowhere W X) (ho : X.ownsRow W.heap.size 135 3 (.slice va n vc) n (ecsCells es)) (hcb : Blk X cb (ecCells x) 135) (hx : DSl W x.1 (x.2.2.getD [])) (hl : n ≤ 8000) :
    ∃ va' vc' X', (Builtin.append_ #[52, 52] 52 #[.slice va n vc, .slice (some ⟨cb, 0, none⟩) 1 1]).run Tryz.prog X = .ok (.slice va' (n + 1) vc') X' ∧ ESl X' (.slice va' (n + 1) vc') (es ++ [x]) ∧ Mod Nowhere W X' := by
  subst hn
  obtain ⟨a, c, e, -⟩ := Sl.len hx
  have hs : Sl X (.slice (some ⟨cb, 0, none⟩) 1 1) 135 3 1 (ecCells x) := Sl.whole hcb rfl (by decide)
  obtain ⟨va', vcap', w', S, h1, h2, h3, h4, h5⟩ := append_ty (ty := 52) Tryz.underlying52 info_edit rfl (by decide) ho hs (by
    intro u hu
    simp only [ecCells, List.mem_cons, List.not_mem_nil, or_false] at hu
    rcases hu with rfl | rfl | rfl
    · rfl
    · rfl
    · rw [e]; rfl) (by unfold maxLen; omega) (by omega) hX.size
  have hm : Mod Nowhere W w' := hX.step h3 fun i hi e => by have := h4 i e; omega
  exact ⟨va', vcap', w', h1, ESl.snoc rfl (fun y hy => (hd y hy).fresh hm) (hx.fresh hm) h2, hm⟩
set_option maxRecDepth 100000 in
set_option maxHeartbeats 8000000 in
theorem rChange_ok {w : World} {v u : Value} {R Z : Nat} {s : VSt} {r : Rec} (h : RRep w v R s) (hR : Z / 2 = R) (hu : DSl w u (r.2.getD [])) (hr : ROk r) (hn : s.l.length ≤ 8000) :
    Calls Tryz.prog 132 #[v, .agg #[.int .i64 r.1, .bool r.2.isNone, u]] w (RPost w R (vChange Z s r).1 (vChange Z s r).2) := by
  obtain ⟨iv, ev, xs, es, rfl, hs⟩ := h.ex
  clear h
  have hel : es.length ≤ 8000 := by have := hs.eds_len; omega
  obtain ⟨ia, ic, rfl, -⟩ := hs.it.sl.gen
  obtain ⟨ea, ec, rfl, g1, g2, g3⟩ := hs.ed.sl.gen
  obtain ⟨ua, uc, rfl, -⟩ := Sl.len hu
  obtain ⟨rid, rd⟩ := r
  dsimp only at *
  generalize hrg : rd.isNone = rg
  generalize hrl : (rd.getD []).length = rl at *
  generalize hact : s.act = act
  obtain ⟨W0, hW0⟩ : ∃ W0, ((w.alloc (.cells #[.int .i64 R, .slice ia xs.length ic, .bool act, .slice ea es.length ec] 54)).alloc (.cells #[.int .i64 rid, .bool rg, .slice ua rl uc] 135)).alloc (.cells #[.int .i64 0, .slice none 0 0, .bool false, .slice none 0 0] 54) = W0 := ⟨_, rfl⟩
  have hm0 : Mod Nowhere w W0 := by rw [← hW0]; exact (((Mod.refl _ w).alloc _).alloc _).alloc _
  have hb1 : Blk W0 w.heap.size [.int .i64 R, .slice ia xs.length ic, .bool act, .slice ea es.length ec] 54 := by rw [← hW0]; exact ((Blk.new' rfl rfl).alloc _).alloc _
  have hb2 : Blk W0 (w.heap.size + 1) [.int .i64 rid, .bool rg, .slice ua rl uc] 135 := by rw [← hW0]; exact (Blk.new' (by simp) rfl).alloc _
  have hb3 : Blk W0 (w.heap.size + 1 + 1) [.int .i64 0, .slice none 0 0, .bool false, .slice none 0 0] 54 := by rw [← hW0]; exact Blk.new' (by simp) rfl
  have hz0 : W0.heap.size = w.heap.size + 1 + 1 + 1 := by rw [← hW0]; simp
  have k13 := hb1.cell 3
  have k20 := hb2.cell 0
  have k21 := hb2.cell 1
  have k22 := hb2.cell 2
  have l1 := hb1.lt
  have l2 := hb2.lt
  simp only [List.getElem?_cons_zero, List.getElem?_cons_succ] at k13 k20 k21 k22
  have heW := hs.ed.fresh hm0
  have huW := hu.fresh hm0
  obtain ⟨x0, hx0⟩ : ∃ x0 : Vx, (.slice ua rl uc, (rid, rd)) = x0 := ⟨_, rfl⟩
  have hec : ecCells x0 = [.int .i64 rid, .bool rg, .slice ua rl uc] := by rw [← hx0, ← hrg]; rfl
  have hx : DSl W0 x0.1 (x0.2.2.getD []) := by rw [← hx0]; exact huW
  replace hs := Lib.hid hs
  replace hu := Lib.hid hu
  replace hm0 := Lib.hid hm0
  replace hb1 := Lib.hid hb1
  replace hb2 := Lib.hid hb2
  replace hb3 := Lib.hid hb3
  replace hz0 := Lib.hid hz0
  replace heW := Lib.hid heW
  replace huW := Lib.hid huW
  replace hx0 := Lib.hid hx0
  replace hec := Lib.hid hec
  replace hx := Lib.hid hx
  replace hrg := Lib.hid hrg
  replace hrl := Lib.hid hrl
  replace hact := Lib.hid hact
  replace hr := Lib.hid hr
  replace hR := Lib.hid hR
  go_enter Tryz.func132, Tryz.ntmps132
  go_wp2

  replace hW0 := Lib.hid hW0
  generalize hBw : w.heap.size = B at *
  replace hBw := Lib.hid hBw
  go_cut [6] (fun v w1 => ∃ (va : Option Addr) (vc : Nat), v = .slice va (es.length + 1) vc ∧ ESl w1 (.slice va (es.length + 1) vc) (es ++ [x0]) ∧ Mod Nowhere W0 w1)
  case first =>
    have d0 : Mod Nowhere W0 W0 := Mod.refl Nowhere W0
    have d1 : Mod Nowhere W0 (W0.alloc (.cells #[] 135)).drew := (d0.alloc _).drew
    have d2 : Mod Nowhere W0 ((W0.alloc (.cells #[] 135)).alloc (.cells #[.int .i64 rid, .bool rg, .slice ua rl uc] 135)).drew := ((d0.alloc _).alloc _).drew
    have d3 : Mod Nowhere W0 ((W0.alloc (.cells #[.int .i64 rid, .bool rg, .slice ua rl uc] 135)).alloc (.cells #[] 135)).drew := ((d0.alloc _).alloc _).drew
    have e1 : Blk (W0.alloc (.cells #[] 135)).drew W0.heap.size [] 135 := Blk.drew (Blk.new' rfl rfl)
    have e2 : Blk ((W0.alloc (.cells #[] 135)).alloc (.cells #[.int .i64 rid, .bool rg, .slice ua rl uc] 135)).drew W0.heap.size [] 135 := Blk.drew (Blk.alloc (Blk.new' rfl rfl) _)
    have e2c : Blk ((W0.alloc (.cells #[] 135)).alloc (.cells #[.int .i64 rid, .bool rg, .slice ua rl uc] 135)).drew (W0.heap.size + 1) (ecCells x0) 135 := by rw [hec.out]; exact Blk.drew (Blk.new' (by simp) rfl)
    have e3c : Blk ((W0.alloc (.cells #[.int .i64 rid, .bool rg, .slice ua rl uc] 135)).alloc (.cells #[] 135)).drew W0.heap.size (ecCells x0) 135 := by rw [hec.out]; exact Blk.drew (Blk.alloc (Blk.new' rfl rfl) _)
    have e3 : Blk ((W0.alloc (.cells #[.int .i64 rid, .bool rg, .slice ua rl uc] 135)).alloc (.cells #[] 135)).drew (W0.heap.size + 1) [] 135 := Blk.drew (Blk.new' (by simp) rfl)
    obtain ⟨vaA, vcA, wA, rA, oA, mA, nA⟩ := edits_copy heW.out rfl d1 e1 (Nat.le_refl _) hel
    obtain ⟨vaB, vcB, wB, rB, oB, mB, nB⟩ := edits_copy heW.out rfl d2 e2 (Nat.le_refl _) hel
    obtain ⟨vaC, vcC, wC, rC, oC, mC, nC⟩ := edits_copy heW.out rfl d3 e3 (by omega) hel
    have cA : Blk (wA.alloc (.cells #[.int .i64 rid, .bool rg, .slice ua rl uc] 135)) wA.heap.size (ecCells x0) 135 := by rw [hec.out]; exact Blk.new' rfl rfl
    have cB : Blk wB (W0.heap.size + 1) (ecCells x0) 135 := e2c.mod mB (fun e => by have e : W0.heap.size + 1 = W0.heap.size := e; omega)
    have cC : Blk wC W0.heap.size (ecCells x0) 135 := e3c.mod mC (fun e => by have e : W0.heap.size = W0.heap.size + 1 := e; omega)
    obtain ⟨vaD, vcD, wD, rD, oD, nD⟩ := edits_snoc heW.out.data rfl (nA.alloc (.cells #[.int .i64 rid, .bool rg, .slice ua rl uc] 135)) (owns_mod oA ((Mod.refl Nowhere wA).alloc (.cells #[.int .i64 rid, .bool rg, .slice ua rl uc] 135)) (fun _ _ => id)) cA hx.out hel
    obtain ⟨vaE, vcE, wE, rE, oE, nE⟩ := edits_snoc heW.out.data rfl nB oB cB hx.out hel
    obtain ⟨vaF, vcF, wF, rF, oF, nF⟩ := edits_snoc heW.out.data rfl nC oC cC hx.out hel
    have q3wA : wA.cell? ⟨B, 3, none⟩ = some (.slice ea es.length ec) := (nA.cell (p := ⟨B, 3, none⟩) l1 id).trans k13
    have q0wA : wA.cell? ⟨B + 1, 0, none⟩ = some (.int .i64 rid) := (nA.cell (p := ⟨B + 1, 0, none⟩) l2 id).trans k20
    have q1wA : wA.cell? ⟨B + 1, 1, none⟩ = some (.bool rg) := (nA.cell (p := ⟨B + 1, 1, none⟩) l2 id).trans k21
    have q2wA : wA.cell? ⟨B + 1, 2, none⟩ = some (.slice ua rl uc) := (nA.cell (p := ⟨B + 1, 2, none⟩) l2 id).trans k22
    have q3wB : wB.cell? ⟨B, 3, none⟩ = some (.slice ea es.length ec) := (nB.cell (p := ⟨B, 3, none⟩) l1 id).trans k13
    have q0wB : wB.cell? ⟨B + 1, 0, none⟩ = some (.int .i64 rid) := (nB.cell (p := ⟨B + 1, 0, none⟩) l2 id).trans k20
    have q1wB : wB.cell? ⟨B + 1, 1, none⟩ = some (.bool rg) := (nB.cell (p := ⟨B + 1, 1, none⟩) l2 id).trans k21
    have q2wB : wB.cell? ⟨B + 1, 2, none⟩ = some (.slice ua rl uc) := (nB.cell (p := ⟨B + 1, 2, none⟩) l2 id).trans k22
    have q3wC : wC.cell? ⟨B, 3, none⟩ = some (.slice ea es.length ec) := (nC.cell (p := ⟨B, 3, none⟩) l1 id).trans k13
    have q0wC : wC.cell? ⟨B + 1, 0, none⟩ = some (.int .i64 rid) := (nC.cell (p := ⟨B + 1, 0, none⟩) l2 id).trans k20
    have q1wC : wC.cell? ⟨B + 1, 1, none⟩ = some (.bool rg) := (nC.cell (p := ⟨B + 1, 1, none⟩) l2 id).trans k21
    have q2wC : wC.cell? ⟨B + 1, 2, none⟩ = some (.slice ua rl uc) := (nC.cell (p := ⟨B + 1, 2, none⟩) l2 id).trans k22
    have q3wD : wD.cell? ⟨B, 3, none⟩ = some (.slice ea es.length ec) := (nD.cell (p := ⟨B, 3, none⟩) l1 id).trans k13
    have q0wD : wD.cell? ⟨B + 1, 0, none⟩ = some (.int .i64 rid) := (nD.cell (p := ⟨B + 1, 0, none⟩) l2 id).trans k20
    have q1wD : wD.cell? ⟨B + 1, 1, none⟩ = some (.bool rg) := (nD.cell (p := ⟨B + 1, 1, none⟩) l2 id).trans k21
    have q2wD : wD.cell? ⟨B + 1, 2, none⟩ = some (.slice ua rl uc) := (nD.cell (p := ⟨B + 1, 2, none⟩) l2 id).trans k22
    have q3wE : wE.cell? ⟨B, 3, none⟩ = some (.slice ea es.length ec) := (nE.cell (p := ⟨B, 3, none⟩) l1 id).trans k13
    have q0wE : wE.cell? ⟨B + 1, 0, none⟩ = some (.int .i64 rid) := (nE.cell (p := ⟨B + 1, 0, none⟩) l2 id).trans k20
    have q1wE : wE.cell? ⟨B + 1, 1, none⟩ = some (.bool rg) := (nE.cell (p := ⟨B + 1, 1, none⟩) l2 id).trans k21
    have q2wE : wE.cell? ⟨B + 1, 2, none⟩ = some (.slice ua rl uc) := (nE.cell (p := ⟨B + 1, 2, none⟩) l2 id).trans k22
    have q3wF : wF.cell? ⟨B, 3, none⟩ = some (.slice ea es.length ec) := (nF.cell (p := ⟨B, 3, none⟩) l1 id).trans k13
    have q0wF : wF.cell? ⟨B + 1, 0, none⟩ = some (.int .i64 rid) := (nF.cell (p := ⟨B + 1, 0, none⟩) l2 id).trans k20
    have q1wF : wF.cell? ⟨B + 1, 1, none⟩ = some (.bool rg) := (nF.cell (p := ⟨B + 1, 1, none⟩) l2 id).trans k21
    have q2wF : wF.cell? ⟨B + 1, 2, none⟩ = some (.slice ua rl uc) := (nF.cell (p := ⟨B + 1, 2, none⟩) l2 id).trans k22
    have hfD : ∃ (va : Option Addr) (vc : Nat), Value.slice vaD (es.length + 1) vcD = .slice va (es.length + 1) vc ∧ ESl wD (.slice va (es.length + 1) vc) (es ++ [x0]) ∧ Mod Nowhere W0 wD := ⟨_, _, rfl, oD, nD⟩
    have hfE : ∃ (va : Option Addr) (vc : Nat), Value.slice vaE (es.length + 1) vcE = .slice va (es.length + 1) vc ∧ ESl wE (.slice va (es.length + 1) vc) (es ++ [x0]) ∧ Mod Nowhere W0 wE := ⟨_, _, rfl, oE, nE⟩
    have hfF : ∃ (va : Option Addr) (vc : Nat), Value.slice vaF (es.length + 1) vcF = .slice va (es.length + 1) vc ∧ ESl wF (.slice va (es.length + 1) vc) (es ++ [x0]) ∧ Mod Nowhere W0 wF := ⟨_, _, rfl, oF, nF⟩
    replace hfD := Lib.hid hfD
    replace hfE := Lib.hid hfE
    replace hfF := Lib.hid hfF
    replace rA := Lib.hid rA
    replace rB := Lib.hid rB
    replace rC := Lib.hid rC
    replace rD := Lib.hid rD
    replace rE := Lib.hid rE
    replace rF := Lib.hid rF
    clear e1 e2 e2c e3c e3 d0 d1 d2 d3 oA oB oC oD oE oF mA mB mC nA nB nC nD nE nF cA cB cC heW hx huW hx0 hec
    go_region_held3 (fun w' => w'.cell? ⟨B, 3, none⟩ = some (.slice ea es.length ec) ∧ w'.cell? ⟨B + 1, 0, none⟩ = some (.int .i64 rid) ∧ w'.cell? ⟨B + 1, 1, none⟩ = some (.bool rg) ∧ w'.cell? ⟨B + 1, 2, none⟩ = some (.slice ua rl uc)) (simp [*, World.cell?_alloc_some, World.cell?_setCell_far, World.cell?_setCell_other])
      (first
        | (with_reducible refine step_at ((W0.alloc (.cells #[] 135)).drew) ?_; with_reducible refine step_app (.tmp 8) (.tmp 10) rA.out (by with_unfolding_all rfl) (by with_unfolding_all rfl) ?_)
        | (with_reducible refine step_at (((W0.alloc (.cells #[] 135)).alloc (.cells #[.int .i64 rid, .bool rg, .slice ua rl uc] 135)).drew) ?_; with_reducible refine step_app (.tmp 8) (.tmp 10) rB.out (by with_unfolding_all rfl) (by with_unfolding_all rfl) ?_)
        | (with_reducible refine step_at (((W0.alloc (.cells #[.int .i64 rid, .bool rg, .slice ua rl uc] 135)).alloc (.cells #[] 135)).drew) ?_; with_reducible refine step_app (.tmp 8) (.tmp 10) rC.out (by with_unfolding_all rfl) (by with_unfolding_all rfl) ?_)
        | (with_reducible refine step_at (wA.alloc (.cells #[.int .i64 rid, .bool rg, .slice ua rl uc] 135)) ?_; with_reducible refine step_app (.tmp 11) (.tmp 13) rD.out (by with_unfolding_all rfl) (by with_unfolding_all rfl) ?_)
        | (with_reducible refine step_at wB ?_; with_reducible refine step_app (.tmp 11) (.tmp 13) rE.out (by with_unfolding_all rfl) (by with_unfolding_all rfl) ?_)
        | (with_reducible refine step_at wC ?_; with_reducible refine step_app (.tmp 11) (.tmp 13) rF.out (by with_unfolding_all rfl) (by with_unfolding_all rfl) ?_)
        | fail)
    all_goals
      go_wp2
      go_meet
      case rel => first | exact hfD.out | exact hfE.out | exact hfF.out
  case rest =>
    obtain ⟨va, vc, rfl, hed, hm1⟩ := hcut
    have hmw := hm0.out.trans hm1
    have hsc := hs.out.fresh hmw
    have hrec : recs (es ++ [x0]) = s.l ++ [(rid, rd)] := by
      have := hs.out.eds
      rw [← hx0.out, ← this]; simp [recs]
    have hokl : ∀ r ∈ recs (es ++ [x0]), ROk r := by
      rw [hrec]
      intro r h
      rcases List.mem_append.1 h with h | h
      · exact hs.out.ok r h
      · rw [List.mem_singleton.1 h]; exact hr.out
    have hll : (es ++ [x0]).length ≤ 8001 := by simp; omega
    have hNd := fun W (hm : Mod Nowhere wc W) => rNeed_ok (hed.fresh hm) hokl (by omega)
    have hSn := fun W (hm : Mod Nowhere wc W) => rSeen_ok (hsc.it.fresh hm) hsc.its (hed.fresh hm) hokl (by omega)
    have hIF : IOk (sets s.f (recs (es ++ [x0]))) := hsc.iok.sets _ hokl
    rw [hrec] at hNd hSn hIF
    have hb1c := hb1.out.mod hm1 id
    have hb2c := hb2.out.mod hm1 id
    have hb3c := hb3.out.mod hm1 id
    obtain ⟨F, hF⟩ : ∃ F, sets s.f (s.l ++ [(rid, rd)]) = F := ⟨_, rfl⟩
    obtain ⟨nd, hnd⟩ : ∃ nd, Vn.need (s.l ++ [(rid, rd)]) = nd := ⟨_, rfl⟩
    rw [hF] at hSn hIF
    rw [hnd] at hNd
    have l3 : B + 1 + 1 < wc.heap.size := hb3c.lt
    have hwB : w.heap.size ≤ B := by have := hBw.out; omega
    have hso : ((rid, rd) : Rec).2.isSome = true ↔ rg = false := by
      have := hrg.out
      rw [← this]; cases rd <;> simp
    have hv : vChange Z s (rid, rd) = if act = true ∧ 4096 < nd then (s, 11) else if rg = false ∧ R < wt F then (s, 10) else if act = true then ({ s with l := s.l ++ [(rid, rd)] }, 0) else ({ s with f := F }, 0) := by
      unfold vChange
      rw [hact.out, hnd, hF, hR.out]
      simp only [hso]
    have stI : ∀ (W : World) (ys : List Ix) (yv : Value), Mod Nowhere wc W → ISl W yv ys → its ys = itemsOf F → act = false → RSt W R yv (.slice ea es.length ec) ys es { s with f := F } := fun W ys yv hm hi hy ha =>
      ⟨hi, hy, (hsc.fresh hm).ed, hsc.eds, hsc.ok, hIF, hsc.len, hsc.room, hsc.idle⟩
    have stE : ∀ (W : World), Mod Nowhere wc W → act = true → RSt W R (.slice ia xs.length ic) (.slice va (es.length + 1) vc) xs (es ++ [x0]) { s with l := s.l ++ [(rid, rd)] } := fun W hm ha =>
      ⟨(hsc.fresh hm).it, hsc.its, hed.fresh hm, hrec, by rw [← hrec]; exact hokl, hsc.iok, by show (s.l ++ [(rid, rd)]).length ≤ 9000; simp; omega, hsc.room, fun e => by have e : s.act = false := e; rw [hact.out, ha] at e; cases e⟩
    have st0 : ∀ (W : World), Mod Nowhere wc W → RSt W R (.slice ia xs.length ic) (.slice ea es.length ec) xs es s := fun W hm => hsc.fresh hm
    replace hso := Lib.hid hso
    replace hv := Lib.hid hv
    replace stI := Lib.hid stI
    replace stE := Lib.hid stE
    replace st0 := Lib.hid st0
    replace hsc := Lib.hid hsc
    replace hmw := Lib.hid hmw
    replace hed := Lib.hid hed
    replace hNd := Lib.hid hNd
    replace hSn := Lib.hid hSn
    replace hIF := Lib.hid hIF
    replace hF := Lib.hid hF
    replace hnd := Lib.hid hnd
    replace hrec := Lib.hid hrec
    replace hokl := Lib.hid hokl
    replace hb1c := Lib.hid hb1c
    replace hb2c := Lib.hid hb2c
    replace hb3c := Lib.hid hb3c
    replace hm1 := Lib.hid hm1
    have hcells : ∀ W, Mod Nowhere wc W → (W.cell? ⟨B, 0, none⟩ = some (.int .i64 R) ∧ W.cell? ⟨B, 1, none⟩ = some (.slice ia xs.length ic) ∧ W.cell? ⟨B, 2, none⟩ = some (.bool act) ∧ W.cell? ⟨B, 3, none⟩ = some (.slice ea es.length ec)) ∧ W.cell? ⟨B + 1, 1, none⟩ = some (.bool rg) ∧
        (W.cell? ⟨B + 1 + 1, 0, none⟩ = some (.int .i64 0) ∧ W.cell? ⟨B + 1 + 1, 1, none⟩ = some (.slice none 0 0) ∧ W.cell? ⟨B + 1 + 1, 2, none⟩ = some (.bool false) ∧ W.cell? ⟨B + 1 + 1, 3, none⟩ = some (.slice none 0 0)) ∧ (∀ o, W.frozen? ⟨B, o, none⟩ = false) ∧ (∀ o, W.frozen? ⟨B + 1 + 1, o, none⟩ = false) ∧ B + 1 + 1 < W.heap.size := fun W hm => by
      have g1 := hb1c.out.mod hm id
      have g2 := hb2c.out.mod hm id
      have g3 := hb3c.out.mod hm id
      exact ⟨⟨g1.cell 0, g1.cell 1, g1.cell 2, g1.cell 3⟩, g2.cell 1, ⟨g3.cell 0, g3.cell 1, g3.cell 2, g3.cell 3⟩, g1.frozen, g3.frozen, g3.lt⟩
    replace hcells := Lib.hid hcells
    clear k13 k20 k21 k22
    cases act
    · obtain ⟨⟨u0, u1, u2, u3⟩, u4, ⟨u5, u6, u7, u8⟩, u9, u10, u11⟩ := hcells.out wc (Mod.refl _ _)
      have hS := hSn.out wc (Mod.refl _ _)
      replace hS := Lib.hid hS
      go_wp2_with fail
      refine hS.out.mono ?_
      rintro e w2 ⟨v2, ys, rfl, hi2, hy2, hm2'⟩
      have hm2 := ((Mod.refl _ _)).trans hm2'
      obtain ⟨ya, yc, rfl, -⟩ := hi2.sl.gen
      clear u0 u1 u2 u3 u4 u5 u6 u7 u8 u9 u10 u11 hS hm2'
      obtain ⟨⟨u0, u1, u2, u3⟩, u4, ⟨u5, u6, u7, u8⟩, u9, u10, u11⟩ := hcells.out w2 hm2
      have v0 : B < w2.heap.size := by omega
      have v1 : B + 1 < w2.heap.size := by omega
      have hWt := fun W (hm : Mod Nowhere w2 W) => rWeight_ok (hi2.fresh hm) (by rw [← its_len, hy2]; have := itemsOf_len F; omega) (by rw [hy2]; exact itemsOf_short hIF.out)
      rw [hy2, wtI_itemsOf] at hWt
      replace hWt := Lib.hid hWt
      replace hi2 := Lib.hid hi2
      replace hy2 := Lib.hid hy2
      replace hm2 := Lib.hid hm2
      cases rg
      · by_cases hfu : R < wt F
        · have hfi : (R : Int) < (wt F : Nat) := by omega
          generalize hwF : wt F = wF at *
          replace hwF := Lib.hid hwF
          go_wp2_with fail
          go_quiet ((go_at_call 106; exact Calls.quiet_of_same ((hWt.out _ ((Mod.refl Nowhere _).drewN _)).mono fun _ _ h => ⟨h.1, h.2.symm⟩)))
          go_wp2
          have hw2 : Mod Nowhere wc (w2.drewN nq) := hm2.out.drewN nq
          have hvv : vChange Z s (rid, rd) = (s, 10) := by rw [hv.out]; simp [hwF.out, hfu]
          rw [hvv]
          exact st_end rfl rfl rfl (hmw.out.trans hw2) hwB (by omega) (hb1c.out.mod hw2 id) (hb3c.out.mod hw2 id) (by omega) (Mod.refl _ _) (st0.out _ hw2) (by exact hact.out)
        · have hfi : ¬ (R : Int) < (wt F : Nat) := by omega
          generalize hwF : wt F = wF at *
          replace hwF := Lib.hid hwF
          go_wp2_with fail
          go_quiet ((go_at_call 106; exact Calls.quiet_of_same ((hWt.out _ ((Mod.refl Nowhere _).drewN _)).mono fun _ _ h => ⟨h.1, h.2.symm⟩)))
          go_wp2
          have hw2 : Mod Nowhere wc (w2.drewN nq) := hm2.out.drewN nq
          have hvv : vChange Z s (rid, rd) = ({ s with f := F }, 0) := by rw [hv.out]; simp [hwF.out, hfu]
          rw [hvv]
          exact st_end rfl rfl rfl (hmw.out.trans hw2) hwB (by omega) (hb1c.out.mod hw2 id) (hb3c.out.mod hw2 id) (by omega) ((Mod.refl (fun k => k = B) _).setCell (p := ⟨B, 1, none⟩) (fun _ => rfl) _) (stI.out _ _ _ hw2 (hi2.out.fresh ((Mod.refl Nowhere _).drewN _)) hy2.out (by first | rfl | trivial)) (by exact hact.out)
      · go_wp2_with fail
        go_quiet (fail)
        go_wp2
        have hw2 : Mod Nowhere wc (w2.drewN nq) := hm2.out.drewN nq
        have hvv : vChange Z s (rid, rd) = ({ s with f := F }, 0) := by rw [hv.out]; simp
        rw [hvv]
        exact st_end rfl rfl rfl (hmw.out.trans hw2) hwB (by omega) (hb1c.out.mod hw2 id) (hb3c.out.mod hw2 id) (by omega) ((Mod.refl (fun k => k = B) _).setCell (p := ⟨B, 1, none⟩) (fun _ => rfl) _) (stI.out _ _ _ hw2 (hi2.out.fresh ((Mod.refl Nowhere _).drewN _)) hy2.out (by first | rfl | trivial)) (by exact hact.out)
    · obtain ⟨⟨z0, z1, z2, z3⟩, z4, ⟨z5, z6, z7, z8⟩, z9, z10, z11⟩ := hcells.out wc (Mod.refl _ _)
      have hN := hNd.out wc (Mod.refl _ _)
      replace hN := Lib.hid hN
      by_cases hnb : 4096 < nd
      · have hni : (4096 : Int) < (nd : Nat) := by omega
        go_wp2_with fail
        refine hN.out.mono ?_
        rintro e w2 ⟨rfl, hm2⟩
        clear z0 z1 z2 z3 z4 z5 z6 z7 z8 z9 z10 z11 hN
        obtain ⟨⟨u0, u1, u2, u3⟩, u4, ⟨u5, u6, u7, u8⟩, u9, u10, u11⟩ := hcells.out w2 hm2
        have v0 : B < w2.heap.size := by omega
        have v1 : B + 1 < w2.heap.size := by omega
        replace hm2 := Lib.hid hm2
        go_wp2
        have hvv : vChange Z s (rid, rd) = (s, 11) := by rw [hv.out]; simp [hnb]
        rw [hvv]
        exact st_end rfl rfl rfl (hmw.out.trans hm2.out) hwB (by omega) (hb1c.out.mod hm2.out id) (hb3c.out.mod hm2.out id) (by omega) (Mod.refl _ _) (st0.out _ hm2.out) (by exact hact.out)
      · have hni : ¬ (4096 : Int) < (nd : Nat) := by omega
        have hnn : ¬ 4096 < nd := hnb
        go_wp2_with fail
        refine hN.out.mono ?_
        rintro e w1 ⟨rfl, hmN⟩
        clear z0 z1 z2 z3 z4 z5 z6 z7 z8 z9 z10 z11 hN
        obtain ⟨⟨u0, u1, u2, u3⟩, u4, ⟨u5, u6, u7, u8⟩, u9, u10, u11⟩ := hcells.out w1 hmN
        have hS := hSn.out w1 hmN
        replace hS := Lib.hid hS
        go_wp2_with fail
        refine hS.out.mono ?_
        rintro e w2 ⟨v2, ys, rfl, hi2, hy2, hm2'⟩
        have hm2 := (hmN).trans hm2'
        obtain ⟨ya, yc, rfl, -⟩ := hi2.sl.gen
        clear u0 u1 u2 u3 u4 u5 u6 u7 u8 u9 u10 u11 hS hm2'
        obtain ⟨⟨u0, u1, u2, u3⟩, u4, ⟨u5, u6, u7, u8⟩, u9, u10, u11⟩ := hcells.out w2 hm2
        have v0 : B < w2.heap.size := by omega
        have v1 : B + 1 < w2.heap.size := by omega
        have hWt := fun W (hm : Mod Nowhere w2 W) => rWeight_ok (hi2.fresh hm) (by rw [← its_len, hy2]; have := itemsOf_len F; omega) (by rw [hy2]; exact itemsOf_short hIF.out)
        rw [hy2, wtI_itemsOf] at hWt
        replace hWt := Lib.hid hWt
        replace hi2 := Lib.hid hi2
        replace hy2 := Lib.hid hy2
        replace hm2 := Lib.hid hm2
        cases rg
        · by_cases hfu : R < wt F
          · have hfi : (R : Int) < (wt F : Nat) := by omega
            generalize hwF : wt F = wF at *
            replace hwF := Lib.hid hwF
            go_wp2_with fail
            go_quiet ((go_at_call 106; exact Calls.quiet_of_same ((hWt.out _ ((Mod.refl Nowhere _).drewN _)).mono fun _ _ h => ⟨h.1, h.2.symm⟩)))
            go_wp2
            have hw2 : Mod Nowhere wc (w2.drewN nq) := hm2.out.drewN nq
            have hvv : vChange Z s (rid, rd) = (s, 10) := by rw [hv.out]; simp [hwF.out, hfu, hnn]
            rw [hvv]
            exact st_end rfl rfl rfl (hmw.out.trans hw2) hwB (by omega) (hb1c.out.mod hw2 id) (hb3c.out.mod hw2 id) (by omega) (Mod.refl _ _) (st0.out _ hw2) (by exact hact.out)
          · have hfi : ¬ (R : Int) < (wt F : Nat) := by omega
            generalize hwF : wt F = wF at *
            replace hwF := Lib.hid hwF
            go_wp2_with fail
            go_quiet ((go_at_call 106; exact Calls.quiet_of_same ((hWt.out _ ((Mod.refl Nowhere _).drewN _)).mono fun _ _ h => ⟨h.1, h.2.symm⟩)))
            go_wp2
            have hw2 : Mod Nowhere wc (w2.drewN nq) := hm2.out.drewN nq
            have hvv : vChange Z s (rid, rd) = ({ s with l := s.l ++ [(rid, rd)] }, 0) := by rw [hv.out]; simp [hwF.out, hfu, hnn]
            rw [hvv]
            exact st_end rfl rfl rfl (hmw.out.trans hw2) hwB (by omega) (hb1c.out.mod hw2 id) (hb3c.out.mod hw2 id) (by omega) ((Mod.refl (fun k => k = B) _).setCell (p := ⟨B, 3, none⟩) (fun _ => rfl) _) (stE.out _ hw2 (by first | rfl | trivial)) (by exact hact.out)
        · go_wp2_with fail
          go_quiet (fail)
          go_wp2
          have hw2 : Mod Nowhere wc (w2.drewN nq) := hm2.out.drewN nq
          have hvv : vChange Z s (rid, rd) = ({ s with l := s.l ++ [(rid, rd)] }, 0) := by rw [hv.out]; simp [hnn]
          rw [hvv]
          exact st_end rfl rfl rfl (hmw.out.trans hw2) hwB (by omega) (hb1c.out.mod hw2 id) (hb3c.out.mod hw2 id) (by omega) ((Mod.refl (fun k => k = B) _).setCell (p := ⟨B, 3, none⟩) (fun _ => rfl) _) (stE.out _ hw2 (by first | rfl | trivial)) (by exact hact.out)
end Go.Proofs.YtikkodanpbmmkaaGreat
/-
  The reference of the vault: its calls.
-/
namespace Go.Proofs.YtikkodanpbmmkaaGreat
open Go.RowKit
open Jn Vn
attribute [local go_sem] Oper.semAt_some

/-- A copy of the bytes of a source, laid on a new empty row. -/
theorem copy_src {W X : World} {b : Nat} {u : Value} {d : List Nat} (hu : Src W u d) (hl : d.length ≤ 1099511627776) (hX : Mod Nowhere W X) (hb : Blk X b [] 5) (hbW : W.heap.size ≤ b) (ty : TypeId) :
    ∃ va vc X', (Builtin.append_ #[58, 58] ty #[.slice (some ⟨b, 0, none⟩) 0 0, u]).run Tryz.prog X = .ok (.slice va d.length vc) X' ∧ DSl X' (.slice va d.length vc) d ∧ Mod Nowhere W X' := by
  obtain ⟨va, vc, X', h1, h2, h3⟩ := append_src (base := W.heap.size) (v := .slice (some ⟨b, 0, none⟩) 0 0) ⟨rfl, .inr ⟨b, 0, #[], rfl, hbW, hb, Nat.le_refl _, by decide, rfl, rfl⟩⟩ (hu.fresh hX) hl hX.size ty
  exact ⟨va, vc, X', h1, Sl.of_owns h2, hX.step h3 fun i hi e => by have e : W.heap.size ≤ i := e; omega⟩
/-- The two blocks that a call of the reference begins with. -/
theorem two_blocks (w : World) (R : Nat) (i e : Value) (a : Bool) {W : World} (h : (w.alloc (.cells #[.int .i64 R, i, .bool a, e] 54)).alloc (.cells #[.int .i64 0, .slice none 0 0, .bool false, .slice none 0 0] 54) = W) :
    Mod Nowhere w W ∧ Blk W w.heap.size [.int .i64 R, i, .bool a, e] 54 ∧ Blk W (w.heap.size + 1) [.int .i64 0, .slice none 0 0, .bool false, .slice none 0 0] 54 ∧ W.heap.size = w.heap.size + 1 + 1 := by
  rw [← h]
  exact ⟨((Mod.refl _ w).alloc _).alloc _, (Blk.new' rfl rfl).alloc _, Blk.new' (by simp) rfl, by simp⟩
/-- The cells of the two blocks. -/
theorem two_cells {W : World} {B : Nat} {c0 c1 c2 c3 o0 o1 o2 o3 : Value} (h1 : Blk W B [c0, c1, c2, c3] 54) (h2 : Blk W (B + 1) [o0, o1, o2, o3] 54) :
    (W.cell? ⟨B, 0, none⟩ = some c0 ∧ W.cell? ⟨B, 1, none⟩ = some c1 ∧ W.cell? ⟨B, 2, none⟩ = some c2 ∧ W.cell? ⟨B, 3, none⟩ = some c3) ∧
    (W.cell? ⟨B + 1, 0, none⟩ = some o0 ∧ W.cell? ⟨B + 1, 1, none⟩ = some o1 ∧ W.cell? ⟨B + 1, 2, none⟩ = some o2 ∧ W.cell? ⟨B + 1, 3, none⟩ = some o3) ∧ (∀ o, W.frozen? ⟨B, o, none⟩ = false) ∧ (∀ o, W.frozen? ⟨B + 1, o, none⟩ = false) ∧ B < W.heap.size ∧ B + 1 < W.heap.size :=
  ⟨⟨h1.cell 0, h1.cell 1, h1.cell 2, h1.cell 3⟩, ⟨h2.cell 0, h2.cell 1, h2.cell 2, h2.cell 3⟩, h1.frozen, h2.frozen, h1.lt, h2.lt⟩
set_option maxRecDepth 100000 in
set_option maxHeartbeats 2000000 in
theorem rPut_ok {w : World} {v u : Value} {R Z : Nat} {s : VSt} {d : List Nat} (h : RRep w v R s) (hR : Z / 2 = R) (nd : Int) (hu : Src w u d) (hb : Bytes d) (hdn : d.length ≤ 1099511627776) (hn : s.l.length ≤ 8000) :
    Calls Tryz.prog 82 #[v, .int .i64 nd, u] w (RPost w R (vPut Z s nd d).1 (vPut Z s nd d).2) := by
  have h0 := h
  have hu0 := hu
  obtain ⟨iv, ev, xs, es, rfl, hs⟩ := h.ex
  obtain ⟨ia, ic, rfl, -⟩ := hs.it.sl.gen
  obtain ⟨ea, ec, rfl, -⟩ := hs.ed.sl.gen
  obtain ⟨ua, uc, rfl, -⟩ := hu
  have hI := fun W => rIsItem_ok (w := W) nd ua d.length uc hdn
  obtain ⟨act, hact⟩ : ∃ act, s.act = act := ⟨_, rfl⟩
  rw [hact] at h0 ⊢
  obtain ⟨W0, hW0⟩ : ∃ W0, (w.alloc (.cells #[.int .i64 R, .slice ia xs.length ic, .bool act, .slice ea es.length ec] 54)).alloc (.cells #[.int .i64 0, .slice none 0 0, .bool false, .slice none 0 0] 54) = W0 := ⟨_, rfl⟩
  obtain ⟨hm0, hb1, hb2, hz⟩ := two_blocks _ _ _ _ _ hW0
  obtain ⟨⟨k0, k1, k2, k3⟩, ⟨k4, k5, k6, k7⟩, k8, k9, k10, k11⟩ := two_cells hb1 hb2
  unfold vPut
  obtain ⟨bv, hbv⟩ : ∃ bv, validB nd d.length = bv := ⟨_, rfl⟩
  rw [hbv] at hI ⊢
  cases bv
  · have hs0 := hs.fresh hm0
    replace hI := Lib.hid hI
    replace hs0 := Lib.hid hs0
    replace hm0 := Lib.hid hm0
    replace hb1 := Lib.hid hb1
    replace hb2 := Lib.hid hb2
    replace hact := Lib.hid hact
    clear h h0 hs hz hu0
    go_enter Tryz.func82, Tryz.ntmps82
    go_wp2_with fail
    replace hW0 := Lib.hid hW0
    refine (hI.out _).mono ?_
    rintro e w1 ⟨rfl, rfl⟩
    go_wp2
    exact st_end rfl rfl rfl hm0.out (Nat.le_refl _) (by omega) hb1.out hb2.out (by omega) (Mod.refl _ _) hs0.out (by exact hact.out)
  · have hok := validB_ok hbv hb
    obtain ⟨hrok, hid⟩ := hok
    obtain ⟨va, vc, X, rA, hdX, hmX⟩ := copy_src (b := W0.heap.size) (hu0.fresh hm0) hdn (((Mod.refl Nowhere W0).alloc (.cells #[] 5)).drew) (Blk.drew (Blk.new' rfl rfl)) (Nat.le_refl _) 58
    have hCh := rChange_ok (r := (nd.toNat, some d)) ((h0.fresh hm0).fresh hmX) hR (show DSl X (.slice va d.length vc) (((nd.toNat, some d) : Rec).2.getD []) from hdX) hrok hn
    rw [show (((nd.toNat, some d) : Rec).1 : Int) = nd from hid, show ((nd.toNat, some d) : Rec).2.isNone = false from rfl] at hCh
    obtain ⟨⟨p0, p1, p2, p3⟩, ⟨p4, p5, p6, p7⟩, p8, p9, p10, p11⟩ := two_cells (hb1.mod hmX id) (hb2.mod hmX id)
    have hcl : ∀ W, Mod Nowhere X W → _ := fun W hm => two_cells ((hb1.mod hmX id).mod hm id) ((hb2.mod hmX id).mod hm id)
    have hmwX := hm0.trans hmX
    have hbX1 := hb1.mod hmX id
    have hbX2 := hb2.mod hmX id
    obtain ⟨s', hs'⟩ : ∃ s', (vChange Z s (nd.toNat, some d)).1 = s' := ⟨_, rfl⟩
    obtain ⟨er, her⟩ : ∃ er, (vChange Z s (nd.toNat, some d)).2 = er := ⟨_, rfl⟩
    rw [if_pos rfl, hs', her]
    rw [hs', her] at hCh
    generalize d.length = dl at *
    replace hCh := Lib.hid hCh
    replace hI := Lib.hid hI
    replace hcl := Lib.hid hcl
    replace hm0 := Lib.hid hm0
    replace hb1 := Lib.hid hb1
    replace hb2 := Lib.hid hb2
    replace hbX1 := Lib.hid hbX1
    replace hbX2 := Lib.hid hbX2
    replace hmwX := Lib.hid hmwX
    replace hact := Lib.hid hact
    replace rA := Lib.hid rA
    replace hs' := Lib.hid hs'
    replace her := Lib.hid her
    clear h h0 hs hu0 hdX hmX hrok hid hz
    go_enter Tryz.func82, Tryz.ntmps82
    go_wp2_with fail
    replace hW0 := Lib.hid hW0
    generalize hBw : w.heap.size = B at *
    replace hBw := Lib.hid hBw
    refine (hI.out _).mono ?_
    rintro e w1 ⟨rfl, rfl⟩
    go_wp2_with fail
    go_region_held3 (fun w' => w'.cell? ⟨B, 0, none⟩ = some (.int .i64 R) ∧ w'.cell? ⟨B, 1, none⟩ = some (.slice ia xs.length ic) ∧ w'.cell? ⟨B, 2, none⟩ = some (.bool act) ∧ w'.cell? ⟨B, 3, none⟩ = some (.slice ea es.length ec)) (simp [*, World.cell?_alloc_some, World.cell?_setCell_far, World.cell?_setCell_other])
      (first
        | (go_at_call 132; (with_reducible refine hCh.out.mono ?_); rintro e w5 ⟨v5, rfl, hr5, hm5⟩; obtain ⟨iv5, ev5, ys5, es5, rfl, hs5⟩ := hr5.ex; obtain ⟨a5, c5, rfl, -⟩ := hs5.it.sl.gen; obtain ⟨b5, d5, rfl, -⟩ := hs5.ed.sl.gen; obtain ⟨⟨q0, q1, q2, q3⟩, ⟨q4, q5, q6, q7⟩, q8, q9, q10, q11⟩ := hcl.out w5 hm5; replace hs5 := Lib.hid hs5; replace hm5 := Lib.hid hm5; clear hr5)
        | (with_reducible refine step_at ((W0.alloc (.cells #[] 5)).drew) ?_; with_reducible refine step_app (.tmp 15) (.tmp 16) rA.out (by with_unfolding_all rfl) (by with_unfolding_all rfl) ?_)
        | fail)
    go_wp2
    exact st_end rfl rfl rfl (hmwX.out.trans hm5.out) (by have := hBw.out; omega) (by have := hBw.out; omega) (hbX1.out.mod hm5.out id) (hbX2.out.mod hm5.out id) (by omega) (Mod.refl _ _) hs5.out rfl
end Go.Proofs.YtikkodanpbmmkaaGreat
