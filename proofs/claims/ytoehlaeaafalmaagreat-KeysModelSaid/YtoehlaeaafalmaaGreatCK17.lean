/-
  Keys: the law's agrees: whether keys show a list.
-/
import Derived.Test.YtoehlaeaafalmaaGreatCK15
set_option linter.unusedVariables false
set_option linter.unusedSimpArgs false
set_option maxHeartbeats 16000000
set_option maxRecDepth 100000
namespace Go.Proofs.YtoehlaeaafalmaaGreat
open Go.RowKit
open Jn Vn Rg Ky
attribute [local go_sem] Oper.semAt_some
theorem Jj (l:List Nat):(Cy.chk l).length = 3:=rfl
theorem ZcA (l:List Nat):Bytes (Cy.chk l):=fun k=>by
 rw [gd0];by_cases hk:k < (Cy.chk l).length
 ·rw [List.getElem?_eq_getElem hk];exact Cy.encB_lt l Cy.zeros _ (List.mem_of_mem_take (List.getElem_mem hk))
 ·rw [List.getElem?_eq_none (by omega)]
  decide
structure AgS (X:World) (kb mb:Nat) (A:VAt) (m:Mem) (s:VSt) (B:Nat) (va:Option Addr) (vc:Nat) (L:List KEn):Prop where
 ky:KyR X kb mb A m s
 bx:Blk X B [.slice va L.length vc] 32
 rl:RL X va vc L
def AgR (kb mb:Nat) (A:VAt) (m:Mem) (s:VSt) (B:Nat) (va:Option Addr) (vc:Nat) (L:List KEn) (X Y:World):Prop:=Mod (OneB mb) X Y∧(AgS X kb mb A m s B va vc L→AgS Y kb mb A m s B va vc L)
section
variable {kb mb : Nat} {A : VAt} {m : Mem} {s : VSt} {B : Nat} {va : Option Addr} {vc : Nat} {L : List KEn} {X Y : World}
theorem AgR.refl (kb mb:Nat) (A:VAt) (m:Mem) (s:VSt) (B:Nat) (va:Option Addr) (vc:Nat) (L:List KEn) (X:World):AgR kb mb A m s B va vc L X X:=⟨Mod.refl _ _,id⟩
theorem AgR.trans (kb mb:Nat) (A:VAt) (m:Mem) (s:VSt) (B:Nat) (va:Option Addr) (vc:Nat) (L:List KEn) (X Y Z:World) (h:AgR kb mb A m s B va vc L X Y) (k:AgR kb mb A m s B va vc L Y Z):AgR kb mb A m s B va vc L X Z:=⟨h.1.trans k.1,fun x=>k.2 (h.2 x)⟩
theorem AgS.fresh (h:AgS X kb mb A m s B va vc L) (hm:Mod Nowhere X Y):AgS Y kb mb A m s B va vc L:=⟨h.ky.fresh hm,h.bx.mod hm id,h.rl.fresh hm⟩
theorem AgR.calm (hm:Mod Nowhere X Y):AgR kb mb A m s B va vc L X Y:=⟨hm.nowhere,fun h=>h.fresh hm⟩
theorem Jk (hmi:MapIs X mb) (U:TypeId):Shun (OneB mb) X U:=fun k e cs hb=>by
 obtain ⟨n,f,hf⟩:=hmi;have e:k = mb:=e;rw [e] at hb;exact Ze hf.map hb
theorem AgS.look (h:AgS X kb mb A m s B va vc L) (hk:KyR Y kb mb A m s) (hm:Mod (OneB mb) X Y):AgR kb mb A m s B va vc L X Y :=
 ⟨hm,fun _=>⟨hk,h.bx.only h.ky.map hm,h.rl.mod hm (Jk h.ky.map _) (Jk h.ky.map _)⟩⟩
theorem Sl.only {w w':World} {v:Value} {T:TypeId} {sz n:Nat} {xs:List Value} (h:Sl w v T sz n xs) (hmi:MapIs w mb) (hm:Mod (OneB mb) w w'):Sl w' v T sz n xs:=h.mod hm (h.off (Jk hmi _))
theorem AgS.c (h:AgS X kb mb A m s B va vc L):X.cell? ⟨B,0,none⟩ = some (.slice va L.length vc)∧B < X.heap.size:=⟨h.bx.cell 0,h.bx.lt⟩
theorem AgS.sets (h:AgS X kb mb A m s B va vc L):Calls Tryz.prog 22 #[ptr kb] X fun e w'=>∃ sa sc,e = .returned (.slice sa (pSets (kl (view s))).length sc)∧Sl w' (.slice sa (pSets (kl (view s))).length sc) 3 1 (pSets (kl (view s))).length (ints (pSets (kl (view s))))∧AgR kb mb A m s B va vc L X w':=by
 refine (Zb6 h.ky).mono fun e w' ⟨v,a,b,c,d,f⟩=>?_;obtain ⟨sa,sc,rfl,-⟩:=Sl.len b;exact ⟨sa,sc,a,b,h.look d f⟩
theorem AgS.rsets (h:AgS X kb mb A m s B va vc L) (hlen:L.length≤1000):Calls Tryz.prog 44 #[.agg #[.slice va L.length vc]] X fun e w'=>∃ sa sc,e = .returned (.slice sa (rSets none L).length sc)∧Sl w' (.slice sa (rSets none L).length sc) 3 1 (rSets none L).length (ints (rSets none L))∧Mod Nowhere X w':=by
 refine (Zhx h.rl hlen).mono fun e w' ⟨v,a,b,c⟩=>?_;obtain ⟨sa,sc,rfl,-⟩:=Sl.len b;exact ⟨sa,sc,a,b,c⟩
theorem AgS.info (h:AgS X kb mb A m s B va vc L) (j:Int) (hj:I64 j):Calls Tryz.prog 23 #[ptr kb,.int .i64 j] X fun e w'=>∃ ia ic xs,e = .returned (.slice ia (pInfo (kl (view s)) j).length ic)∧ISl w' (.slice ia (pInfo (kl (view s)) j).length ic) xs∧xs.map (·.2) = pInfo (kl (view s)) j∧AgR kb mb A m s B va vc L X w':=by
 refine (Zca h.ky j hj).mono fun e w' ⟨v,xs,a,b,c,d,f⟩=>?_;obtain ⟨ia,ic,rfl,-⟩:=Sl.len b.sl;have hl:xs.length = (pInfo (kl (view s)) j).length:=by rw [← c,List.length_map]
 rw [hl] at a b;exact ⟨ia,ic,xs,a,b,c,h.look d f⟩
theorem AgS.rinfo (h:AgS X kb mb A m s B va vc L) (hK:KL L) (hlen:L.length≤1000) (j:Int):Calls Tryz.prog 45 #[.agg #[.slice va L.length vc],.int .i64 j] X fun e w'=>∃ ia ic xs,e = .returned (.slice ia (rInfo L j).length ic)∧ISl w' (.slice ia (rInfo L j).length ic) xs∧xs.map (·.2) = rInfo L j∧Mod Nowhere X w':=by
 refine (Zhz h.rl hK hlen j).mono fun e w' ⟨v,xs,a,b,c,d⟩=>?_;obtain ⟨ia,ic,rfl,-⟩:=Sl.len b.sl;have hl:xs.length = (rInfo L j).length:=by rw [← c,List.length_map]
 rw [hl] at a b;exact ⟨ia,ic,xs,a,b,c,d⟩
end
def kSn (o:Option KEn):Int:=(((o.map (·.set)).getD 0:Nat):Int)
def kKn (o:Option KEn):Int:=(((o.map (·.kind)).getD 0:Nat):Int)
def kLn (o:Option KEn):Int:=(((o.map (·.lim)).getD 0:Nat):Int)
section
variable {kb mb : Nat} {A : VAt} {m : Mem} {s : VSt} {B : Nat} {va : Option Addr} {vc : Nat} {L : List KEn} {X Y : World}
theorem AgS.get (h:AgS X kb mb A m s B va vc L) (j i:Int) (hj:I64 j) (hi:I64 i):Calls Tryz.prog 21 #[ptr kb,.int .i64 j,.int .i64 i] X fun e w'=>∃ ua uc,e = .returned (.tuple #[.agg #[.int .i64 (kSn (kfind (kl (view s)) j i)),.int .i64 (kKn (kfind (kl (view s)) j i)),.slice ua (valOf (kfind (kl (view s)) j i)).length uc,.int .i64 (kLn (kfind (kl (view s)) j i))],.bool (kfind (kl (view s)) j i).isSome])∧DSl w' (.slice ua (valOf (kfind (kl (view s)) j i)).length uc) (valOf (kfind (kl (view s)) j i))∧AgR kb mb A m s B va vc L X w':=by
 refine (ZgK h.ky j i hj hi).mono fun e w' ⟨u,a,b,d,f⟩=>?_;obtain ⟨ua,uc,rfl,-⟩:=Sl.len b;exact ⟨ua,uc,a,b,h.look d f⟩
theorem AgS.rget (h:AgS X kb mb A m s B va vc L) (hK:KL L) (hlen:L.length≤1000) (j i:Int):Calls Tryz.prog 47 #[.agg #[.slice va L.length vc],.int .i64 j,.int .i64 i] X fun e w'=>∃ ua uc,e = .returned (.tuple #[.agg #[.int .i64 (kSn (kfind L j i)),.int .i64 (kKn (kfind L j i)),.slice ua (valOf (kfind L j i)).length uc,.int .i64 (kLn (kfind L j i))],.bool (kfind L j i).isSome])∧DSl w' (.slice ua (valOf (kfind L j i)).length uc) (valOf (kfind L j i))∧Mod Nowhere X w':=by
 refine (Zhr h.rl hK hlen j i).mono fun e w' ⟨u,a,b,d⟩=>?_;obtain ⟨ua,uc,rfl,-⟩:=Sl.len b;exact ⟨ua,uc,a,b,d⟩
end
theorem ISl.at_ {w:World} {ia:Option Addr} {n ic:Nat} {xs:List IxV} (h:ISl w (.slice ia n ic) xs) {k:Nat} (hk:k < n):∃ b off a c e,ia = some ⟨b,off,none⟩∧n≤ic∧ic≤maxLen∧(xs.map (·.2))[k]? = some e∧∀ W,Mod Nowhere w W →
  b < W.heap.size∧W.cell? ⟨b,off + k * 4,none⟩ = some (.int .i64 (e.set:Int))∧W.cell? ⟨b,off + k * 4 + 1,none⟩ = some (.int .i64 (e.kind:Int))∧W.cell? ⟨b,off + k * 4 + 2,none⟩ = some (.int .i64 (e.tries:Int))∧W.cell? ⟨b,off + k * 4 + 3,none⟩ = some (.slice a 3 c)∧DSl W (.slice a 3 c) (Cy.chk e.val):=by
 have hn:n = xs.length:=by
  obtain ⟨a,c,e,-⟩:=h.sl.len;simp at e;exact e.2.1
 subst hn;obtain ⟨b,off,cap,e,hb,h1,h2,hc,-⟩:=h.sl.open (by omega);simp at e;obtain ⟨rfl,rfl⟩:=e;have hd:=h.data xs[k] (List.getElem_mem hk);obtain ⟨a,c,e1,-⟩:=Sl.len hd;rw [Jj] at e1;rw [e1] at hd;refine ⟨b,off,a,c,xs[k].2,rfl,h1,h2,by rw [List.getElem?_map,List.getElem?_eq_getElem hk];rfl,fun W hm=>?_⟩
 have cc:∀ j,j < 4→W.cell? ⟨b,off + k * 4 + j,none⟩ = some ((inCells xs[k]).getD j default):=fun j hj=>by
  rw [Nat.add_assoc,hm.cell (p:=⟨b,off + (k * 4 + j),none⟩) hb id,hc (k * 4 + j) (by omega),Zb8 xs k hk j hj]
 have hic:inCells xs[k] = [.int .i64 (xs[k].2.set:Int),.int .i64 (xs[k].2.kind:Int),.int .i64 (xs[k].2.tries:Int),.slice a 3 c]:=by unfold inCells;rw [e1]
 rw [hic] at cc;exact ⟨Nat.lt_of_lt_of_le hb hm.size,cc 0 (by omega),cc 1 (by omega),cc 2 (by omega),cc 3 (by omega),hd.fresh hm⟩
theorem ZhN {w:World} {kb mb:Nat} {A:VAt} {m:Mem} {s:VSt} {va:Option Addr} {vc:Nat} {L:List KEn} (h:KyR w kb mb A m s) (hr:RL w va vc L) (hK:KL L) (hlen:L.length≤1000) :
  Calls Tryz.prog 15 #[ptr kb,.agg #[.slice va L.length vc]] w fun e w'=>∃ b,e = .returned (.bool b)∧(kl (view s) = L→b = true)∧KyR w' kb mb A m s∧Mod (OneB mb) w w':=by
 obtain ⟨l1,l2⟩:=hr.len0;unfold maxLen at l2;have hm0:Mod Nowhere w (w.alloc (.cells #[.slice va L.length vc] 32)):=(Mod.refl _ w).alloc _;have hb0:=Blk.new w [.slice va L.length vc] 32;have hag:AgS (w.alloc (.cells #[.slice va L.length vc] 32)) kb mb A m s w.heap.size va vc L:=⟨h.fresh hm0,hb0,hr.fresh hm0⟩;have hKY:=kl_KL h.it
 have hYL:kl (view s) = L→pSets (kl (view s)) = rSets none L∧(∀ j,pInfo (kl (view s)) j = rInfo L j)∧∀ j i,kfind (kl (view s)) j i = kfind L j i:=fun e=>by
  rw [← e];exact ⟨Zfk hKY,Zbd hKY,fun _ _=>rfl⟩
 have hfin:∀ W b,AgR kb mb A m s w.heap.size va vc L (w.alloc (.cells #[.slice va L.length vc] 32)) W→(kl (view s) = L→b = true)→∃ b',Ending.returned (.bool b) = .returned (.bool b')∧(kl (view s) = L→b' = true)∧KyR W kb mb A m s∧Mod (OneB mb) w W:=fun W b hR hb=>⟨b,rfl,hb,(hR.2 hag).ky,(hm0.nowhere (S:=OneB mb)).trans hR.1⟩;have c1:=fun X (q:AgS X kb mb A m s w.heap.size va vc L)=>q.sets;have c2:=fun X (q:AgS X kb mb A m s w.heap.size va vc L)=>q.rsets hlen;have c3:=fun X (q:AgS X kb mb A m s w.heap.size va vc L) (j:Int) hj=>q.info j hj;have c4:=fun X (q:AgS X kb mb A m s w.heap.size va vc L) (j:Int)=>q.rinfo hK hlen j;have c5:=fun X (q:AgS X kb mb A m s w.heap.size va vc L) (j i:Int) hj hi=>q.get j i hj hi
 have c6:=fun X (q:AgS X kb mb A m s w.heap.size va vc L) (j i:Int)=>q.rget hK hlen j i;have hc:=fun X (q:AgS X kb mb A m s w.heap.size va vc L)=>q.c;have hp8:(pSets (kl (view s))).length≤8:=Nat.le_trans (List.length_filter_le _ _) (by decide);have hr8:(rSets none L).length≤1000:=Nat.le_trans (Ji none L) hlen;have hpi:∀ j,(pInfo (kl (view s)) j).length≤6:=fun j=>Nat.le_trans (List.length_filterMap_le _ _) (by decide);have hri:∀ j,(rInfo L j).length≤1000:=fun j=>Nat.le_trans (List.length_filter_le _ _) hlen
 have hps:∀ j,∀ e ∈ pInfo (kl (view s)) j,(e.set:Int) = j:=fun j e he=>by
  rw [Zbd hKY] at he;exact of_decide_eq_true (List.mem_filter.1 he).2
 have hrs:∀ j,∀ e ∈ rInfo L j,(e.set:Int) = j:=fun j e he=>of_decide_eq_true (List.mem_filter.1 he).2;generalize kl (view s) = Y at *
 have hq0:Y = L→decide (((pSets Y).map fun k:Nat=>(k:Int)) = ((rSets none L).map fun k:Nat=>(k:Int))) = true:=fun e=>by
  rw [(hYL e).1];exact decide_eq_true rfl
 have cI:∀ X u v,Sl X u 3 1 (pSets Y).length (ints (pSets Y))→Sl X v 3 1 (rSets none L).length (ints (rSets none L))→Calls Tryz.prog 33 #[u,v] X fun e w'=>e = .returned (.bool (decide (((pSets Y).map fun k:Nat=>(k:Int)) = ((rSets none L).map fun k:Nat=>(k:Int)))))∧Mod Nowhere X w':=fun X u v hu hv =>
  Zco (X8 hu) (X8 hv) (by rw [List.length_map];omega) (by rw [List.length_map];omega)
 generalize decide (((pSets Y).map fun k:Nat=>(k:Int)) = ((rSets none L).map fun k:Nat=>(k:Int))) = q0 at *;generalize hn1:(pSets Y).length = n1 at *;generalize hn2:(rSets none L).length = n2 at *;generalize ints (pSets Y) = t1 at *;generalize ints (rSets none L) = t2 at *;generalize hB:w.heap.size = B at *;generalize hn:L.length = n at *;clear h hr hm0 hb0 hn1 hn2;refine hid12 ?_ c1 c2 c3 c4 c5 c6 cI hag hYL hfin hc hps;clear c1 c2 c3 c4 c5 c6 cI hag hYL hfin hc hps;intro c1 c2 c3 c4 c5 c6 cI hag hYL hfin hc hps;refine hid8 ?_ hrs hq0 hK hKY hpi hri hn hB;clear hrs hq0 hK hKY hpi hri hn hB;intro hrs hq0 hK hKY hpi hri hn hB
 go_enter Tryz.func15,Tryz.ntmps15
 -- WALK
 go_upto_region 1 with (fail)
 generalize w.alloc (.cells #[.slice va n vc] 32) = W1 at *;rw [hB.out];have hag1:=hag.out.fresh (Mod.refl Nowhere W1).drew;replace hag1:=Lib.hid hag1;go_wp2_with fail;refine YX (fun i v W0=>∀ w',(AgR kb mb A m s B va vc L) W0 w'→match i with | 0=>(v = ptr kb) | 1=>(∃ (sa:Option Addr) (sc:Nat),v = .slice sa n1 sc∧Sl w' (.slice sa n1 sc) 3 1 n1 t1) | 2=>(v = .agg #[.slice va n vc]) | 3=>(∃ (sa:Option Addr) (sc:Nat),v = .slice sa n2 sc∧Sl w' (.slice sa n2 sc) 3 1 n2 t2) | 4=>(v = .bool q0) | 5=>(v = .bool (!q0)) | _=>True) (AgR kb mb A m s B va vc L) ?A_ (by first | assumption | kernel_rfl) (by kernel_rfl) (by kernel_rfl) (AgR.refl _ _ _ _ _ _ _ _ _) (AgR.trans _ _ _ _ _ _ _ _ _) (fun i v w1 w2 h hR Z hZ=>h Z (AgR.trans _ _ _ _ _ _ _ _ _ _ _ _ hR hZ)) ?hA_ ?hS_ ?hE_
 case hA_=>intro xs;simp [putAll,List.range,List.range.loop,Act.put] <;> rfl
 case hS_ =>
  refine ⟨?_,?_,?_,?_,?_,?_,trivial⟩
  ·-- 0: t14:=move(t0)
   intro yv w' hR hF K hK;clear hF
   go_simp
   exact hK _ _ (fun _ _=>by first | trivial | rfl | simp [*]) (AgR.refl _ _ _ _ _ _ _ _ _ _)
  ·-- 1: t15:=CALL F22 (t14)
   intro yv w' hR hF K hK;have f0:(yv 0) = ptr kb:=hF 0 (by kernel_rfl) w' (AgR.refl _ _ _ _ _ _ _ _ _ w');clear hF;generalize yv 0 = y0 at *;subst f0;have q:=hR.2 hag1.out;have hc1:=c1.out w' q;replace hc1:=Lib.hid hc1
   go_simp
   go_at_call 22
   refine hc1.out.mono ?_;rintro e w9 ⟨sa,sc,rfl,hs9,hr9⟩;exact hK _ _ (fun W hW=>⟨sa,sc,rfl,hs9.only (hr9.2 q).ky.map hW.1⟩) hr9
  ·-- 2: t16:=load(32,t3)
   intro yv w' hR hF K hK;clear hF;obtain ⟨z0,zl⟩:=hc.out w' (hR.2 hag1.out)
   go_simp
   exact hK _ _ (fun _ _=>rfl) (AgR.refl _ _ _ _ _ _ _ _ _ _)
  ·-- 3: t17:=CALL F44 (t16)
   intro yv w' hR hF K hK;have f2:(yv 2) = .agg #[.slice va n vc]:=hF 2 (by kernel_rfl) w' (AgR.refl _ _ _ _ _ _ _ _ _ w');have f1:∃ (sa:Option Addr) (sc:Nat),(yv 1) = .slice sa n1 sc∧Sl w' (.slice sa n1 sc) 3 1 n1 t1:=hF 1 (by kernel_rfl) w' (AgR.refl _ _ _ _ _ _ _ _ _ w');clear hF;generalize yv 2 = y2 at *;subst f2;generalize yv 1 = y1 at *;have q:=hR.2 hag1.out;have hc1:=c2.out w' q;replace hc1:=Lib.hid hc1
   go_simp
   go_at_call 44
   refine hc1.out.mono ?_;rintro e w9 ⟨sa,sc,rfl,hs9,hm9⟩;exact hK _ _ (fun W hW=>⟨sa,sc,rfl,hs9.only (q.fresh hm9).ky.map hW.1⟩) (AgR.calm hm9)
  ·-- 4: t18:=CALL F33 (t15,t17)
   intro yv w' hR hF K hK;have f1:∃ (sa:Option Addr) (sc:Nat),(yv 1) = .slice sa n1 sc∧Sl w' (.slice sa n1 sc) 3 1 n1 t1:=hF 1 (by kernel_rfl) w' (AgR.refl _ _ _ _ _ _ _ _ _ w');have f3:∃ (sa:Option Addr) (sc:Nat),(yv 3) = .slice sa n2 sc∧Sl w' (.slice sa n2 sc) 3 1 n2 t2:=hF 3 (by kernel_rfl) w' (AgR.refl _ _ _ _ _ _ _ _ _ w');clear hF;generalize yv 1 = y1 at *;generalize yv 3 = y3 at *;obtain ⟨sa,sc,rfl,hs1⟩:=f1;obtain ⟨ta,tc,rfl,hs2⟩:=f3;have hc1:=cI.out w' _ _ hs1 hs2;replace hc1:=Lib.hid hc1
   go_simp
   go_at_call 33
   refine hc1.out.mono ?_;rintro e w9 ⟨rfl,hm9⟩;exact hK _ _ (fun _ _=>rfl) (AgR.calm hm9)
  ·-- 5: t19:=unOp(not,4,t18)
   intro yv w' hR hF K hK;have f4:(yv 4) = .bool q0:=hF 4 (by kernel_rfl) w' (AgR.refl _ _ _ _ _ _ _ _ _ w');clear hF;generalize yv 4 = y4 at *;subst f4
   go_simp
   exact hK _ _ (fun _ _=>by first | trivial | rfl | simp [*]) (AgR.refl _ _ _ _ _ _ _ _ _ _)
 case hE_ =>
  intro yv w' hR hF;have f0:(yv 0) = ptr kb:=hF 0 (by simp) w' (AgR.refl _ _ _ _ _ _ _ _ _ w');have f1:∃ (sa:Option Addr) (sc:Nat),(yv 1) = .slice sa n1 sc∧Sl w' (.slice sa n1 sc) 3 1 n1 t1:=hF 1 (by simp) w' (AgR.refl _ _ _ _ _ _ _ _ _ w');have f2:(yv 2) = .agg #[.slice va n vc]:=hF 2 (by simp) w' (AgR.refl _ _ _ _ _ _ _ _ _ w');have f3:∃ (sa:Option Addr) (sc:Nat),(yv 3) = .slice sa n2 sc∧Sl w' (.slice sa n2 sc) 3 1 n2 t2:=hF 3 (by simp) w' (AgR.refl _ _ _ _ _ _ _ _ _ w');have f4:(yv 4) = .bool q0:=hF 4 (by simp) w' (AgR.refl _ _ _ _ _ _ _ _ _ w');have f5:(yv 5) = .bool (!q0):=hF 5 (by simp) w' (AgR.refl _ _ _ _ _ _ _ _ _ w')
  clear hF;generalize yv 0 = y0 at *;subst f0;generalize yv 1 = y1 at *;generalize yv 2 = y2 at *;subst f2;generalize yv 3 = y3 at *;generalize yv 4 = y4 at *;subst f4;generalize yv 5 = y5 at *;subst f5;have hR1:=AgR.trans _ _ _ _ _ _ _ _ _ W1 _ _ (AgR.calm (Mod.refl Nowhere W1).drew) hR;clear f1 f3 hR;replace hR1:=Lib.hid hR1
  cases hqq:q0 with
  | false =>
   have hf:=hfin.out w' false hR1.out (fun e=>by have:=hq0.out e;rw [hqq] at this;cases this);replace hf:=Lib.hid hf;go_wp2;go_ret;exact hf.out
  | true =>
   clear hqq;rw [Bool.not_true];go_wp2
   go_loopw [5] (fun v wr=>∃ j:Nat,j≤10∧v = .int .i64 j∧AgR kb mb A m s B va vc L W1 wr) (fun v _=>10 - (intOf v).toNat)
   case atStart=>exact ⟨0,by omega,rfl,hR1.out⟩
   case round =>
    obtain ⟨j,hj,rfl,hR2⟩:=hrel;by_cases hlt:j < 10
    ·have hji:(j:Int)≤9:=by omega
     have hj64:I64 (j:Int):=by unfold I64;omega
     have hag2:=(hR2.2 hag.out).fresh (Mod.refl Nowhere wr).drew;have e3:=fun X q=>c3.out X q (j:Int) hj64;have e4:=fun X q=>c4.out X q (j:Int);have e5:=fun X q (i:Int) hi=>c5.out X q (j:Int) i hj64 hi;have e6:=fun X q (i:Int)=>c6.out X q (j:Int) i;have e7:Y = L→pInfo Y j = rInfo L j:=fun e=>(hYL.out e).2.1 j;have e8:Y = L→∀ i,kfind Y j i = kfind L j i:=fun e i=>(hYL.out e).2.2 j i;have e9:=hps.out (j:Int);have e10:=hrs.out (j:Int);have g3:=hpi.out (j:Int);have g4:=hri.out (j:Int);generalize pInfo Y (j:Int) = pI at *;generalize rInfo L (j:Int) = rI at *;obtain ⟨n3,hn3⟩:∃ x,pI.length = x:=⟨_,rfl⟩
     obtain ⟨n4,hn4⟩:∃ x,rI.length = x:=⟨_,rfl⟩;rw [hn3] at e3 g3;rw [hn4] at e4 g4;have hR3:=AgR.trans _ _ _ _ _ _ _ _ _ W1 _ _ hR2 (AgR.calm (Mod.refl Nowhere wr).drew);refine hid12 ?_ hag2 e3 e4 e5 e6 e7 e8 e9 e10 hR2 hR3 hn3;clear hag2 e3 e4 e5 e6 e7 e8 e9 e10 hR2 hR3 hn3;intro hag2 e3 e4 e5 e6 e7 e8 e9 e10 hR2 hR3 hn3;replace hn4:=Lib.hid hn4;go_wp2_with fail
     refine YX (fun i v W0=>∀ w',(AgR kb mb A m s B va vc L) W0 w'→match i with | 0=>(v = ptr kb) | 1=>(v = .int .i64 (j:Int)) | 2=>(∃ (ia:Option Addr) (ic:Nat) (xs:List IxV),v = .slice ia n3 ic∧ISl w' (.slice ia n3 ic) xs∧xs.map (·.2) = pI) | 3=>(v = .agg #[.slice va n vc]) | 4=>(v = .int .i64 (j:Int)) | 5=>(∃ (ia:Option Addr) (ic:Nat) (xs:List IxV),v = .slice ia n4 ic∧ISl w' (.slice ia n4 ic) xs∧xs.map (·.2) = rI) | 6=>(∃ (ia:Option Addr) (ic:Nat) (xs:List IxV),v = .slice ia n3 ic∧ISl w' (.slice ia n3 ic) xs∧xs.map (·.2) = pI) | 7=>(∃ (ia:Option Addr) (ic:Nat) (xs:List IxV),v = .slice ia n4 ic∧ISl w' (.slice ia n4 ic) xs∧xs.map (·.2) = rI) | _=>True) (AgR kb mb A m s B va vc L) ?A_6_1 (by first | assumption | kernel_rfl) (by kernel_rfl) (by kernel_rfl) (AgR.refl _ _ _ _ _ _ _ _ _) (AgR.trans _ _ _ _ _ _ _ _ _) (fun i v w1 w2 h hR Z hZ=>h Z (AgR.trans _ _ _ _ _ _ _ _ _ _ _ _ hR hZ)) ?hA_6_1 ?hS_6_1 ?hE_6_1
     case hA_6_1=>intro xs;simp [putAll,List.range,List.range.loop,Act.put] <;> rfl
     case hS_6_1 =>
      refine ⟨?_,?_,?_,?_,?_,?_,?_,?_,trivial⟩
      ·-- 0: t24:=move(t0)
       intro yv w' hR hF K hK;clear hF
       go_simp
       exact hK _ _ (fun _ _=>by first | trivial | rfl | simp [*]) (AgR.refl _ _ _ _ _ _ _ _ _ _)
      ·-- 1: t25:=move(t5)
       intro yv w' hR hF K hK;clear hF
       go_simp
       exact hK _ _ (fun _ _=>by first | trivial | rfl | simp [*]) (AgR.refl _ _ _ _ _ _ _ _ _ _)
      ·-- 2: t26:=CALL F23 (t24,t25)
       intro yv w' hR hF K hK;have f0:(yv 0) = ptr kb:=hF 0 (by kernel_rfl) w' (AgR.refl _ _ _ _ _ _ _ _ _ w');have f1:(yv 1) = .int .i64 (j:Int):=hF 1 (by kernel_rfl) w' (AgR.refl _ _ _ _ _ _ _ _ _ w');clear hF;generalize yv 0 = y0 at *;subst f0;generalize yv 1 = y1 at *;subst f1;have q:=hR.2 hag2.out;have hc1:=e3.out w' q;replace hc1:=Lib.hid hc1
       go_simp
       go_at_call 23
       refine hc1.out.mono ?_;rintro e w9 ⟨ia,ic,xs,rfl,hs9,hx9,hr9⟩;exact hK _ _ (fun W hW=>⟨ia,ic,xs,rfl,hs9.only (hr9.2 q).ky.map hW.1,hx9⟩) hr9
      ·-- 3: t27:=load(32,t3)
       intro yv w' hR hF K hK;clear hF;obtain ⟨z0,zl⟩:=hc.out w' (hR.2 hag2.out)
       go_simp
       exact hK _ _ (fun _ _=>rfl) (AgR.refl _ _ _ _ _ _ _ _ _ _)
      ·-- 4: t28:=move(t5)
       intro yv w' hR hF K hK;clear hF
       go_simp
       exact hK _ _ (fun _ _=>by first | trivial | rfl | simp [*]) (AgR.refl _ _ _ _ _ _ _ _ _ _)
      ·-- 5: t29:=CALL F45 (t27,t28)
       intro yv w' hR hF K hK;have f3:(yv 3) = .agg #[.slice va n vc]:=hF 3 (by kernel_rfl) w' (AgR.refl _ _ _ _ _ _ _ _ _ w');have f4:(yv 4) = .int .i64 (j:Int):=hF 4 (by kernel_rfl) w' (AgR.refl _ _ _ _ _ _ _ _ _ w')
       have f2:∃ (ia:Option Addr) (ic:Nat) (xs:List IxV),(yv 2) = .slice ia n3 ic∧ISl w' (.slice ia n3 ic) xs∧xs.map (·.2) = pI:=hF 2 (by kernel_rfl) w' (AgR.refl _ _ _ _ _ _ _ _ _ w')
       clear hF;generalize yv 3 = y3 at *;subst f3;generalize yv 4 = y4 at *;subst f4;generalize yv 2 = y2 at *;have q:=hR.2 hag2.out;have hc1:=e4.out w' q;replace hc1:=Lib.hid hc1
       go_simp
       go_at_call 45
       refine hc1.out.mono ?_;rintro e w9 ⟨ia,ic,xs,rfl,hs9,hx9,hm9⟩;exact hK _ _ (fun W hW=>⟨ia,ic,xs,rfl,hs9.only (q.fresh hm9).ky.map hW.1,hx9⟩) (AgR.calm hm9)
      ·-- 6: t6:=assign(t26)
       intro yv w' hR hF K hK
       have f2:∃ (ia:Option Addr) (ic:Nat) (xs:List IxV),(yv 2) = .slice ia n3 ic∧ISl w' (.slice ia n3 ic) xs∧xs.map (·.2) = pI:=hF 2 (by kernel_rfl) w' (AgR.refl _ _ _ _ _ _ _ _ _ w')
       have f5:∃ (ia:Option Addr) (ic:Nat) (xs:List IxV),(yv 5) = .slice ia n4 ic∧ISl w' (.slice ia n4 ic) xs∧xs.map (·.2) = rI:=hF 5 (by kernel_rfl) w' (AgR.refl _ _ _ _ _ _ _ _ _ w')
       have f0:(yv 0) = ptr kb:=hF 0 (by kernel_rfl) w' (AgR.refl _ _ _ _ _ _ _ _ _ w');have f1:(yv 1) = .int .i64 (j:Int):=hF 1 (by kernel_rfl) w' (AgR.refl _ _ _ _ _ _ _ _ _ w');clear hF;generalize yv 2 = y2 at *;generalize yv 5 = y5 at *;generalize yv 0 = y0 at *;subst f0;generalize yv 1 = y1 at *;subst f1;obtain ⟨ia,ic,xs,rfl,hs9,hx9⟩:=f2;have q:=hR.2 hag2.out
       go_simp
       exact hK _ _ (fun W hW=>⟨ia,ic,xs,rfl,hs9.only q.ky.map hW.1,hx9⟩) (AgR.refl _ _ _ _ _ _ _ _ _ _)
      ·-- 7: t7:=assign(t29)
       intro yv w' hR hF K hK
       have f5:∃ (ia:Option Addr) (ic:Nat) (xs:List IxV),(yv 5) = .slice ia n4 ic∧ISl w' (.slice ia n4 ic) xs∧xs.map (·.2) = rI:=hF 5 (by kernel_rfl) w' (AgR.refl _ _ _ _ _ _ _ _ _ w')
       have f6:∃ (ia:Option Addr) (ic:Nat) (xs:List IxV),(yv 6) = .slice ia n3 ic∧ISl w' (.slice ia n3 ic) xs∧xs.map (·.2) = pI:=hF 6 (by kernel_rfl) w' (AgR.refl _ _ _ _ _ _ _ _ _ w')
       have f0:(yv 0) = ptr kb:=hF 0 (by kernel_rfl) w' (AgR.refl _ _ _ _ _ _ _ _ _ w');have f1:(yv 1) = .int .i64 (j:Int):=hF 1 (by kernel_rfl) w' (AgR.refl _ _ _ _ _ _ _ _ _ w')
       have f2:∃ (ia:Option Addr) (ic:Nat) (xs:List IxV),(yv 2) = .slice ia n3 ic∧ISl w' (.slice ia n3 ic) xs∧xs.map (·.2) = pI:=hF 2 (by kernel_rfl) w' (AgR.refl _ _ _ _ _ _ _ _ _ w')
       have f3:(yv 3) = .agg #[.slice va n vc]:=hF 3 (by kernel_rfl) w' (AgR.refl _ _ _ _ _ _ _ _ _ w');have f4:(yv 4) = .int .i64 (j:Int):=hF 4 (by kernel_rfl) w' (AgR.refl _ _ _ _ _ _ _ _ _ w');clear hF;generalize yv 5 = y5 at *;generalize yv 6 = y6 at *;generalize yv 0 = y0 at *;subst f0;generalize yv 1 = y1 at *;subst f1;generalize yv 2 = y2 at *;generalize yv 3 = y3 at *;subst f3;generalize yv 4 = y4 at *;subst f4;obtain ⟨ia,ic,xs,rfl,hs9,hx9⟩:=f5;have q:=hR.2 hag2.out
       go_simp
       exact hK _ _ (fun W hW=>⟨ia,ic,xs,rfl,hs9.only q.ky.map hW.1,hx9⟩) (AgR.refl _ _ _ _ _ _ _ _ _ _)
     case hE_6_1 =>
      intro yv w' hR hF;have f0:(yv 0) = ptr kb:=hF 0 (by simp) w' (AgR.refl _ _ _ _ _ _ _ _ _ w');have f1:(yv 1) = .int .i64 (j:Int):=hF 1 (by simp) w' (AgR.refl _ _ _ _ _ _ _ _ _ w')
      have f2:∃ (ia:Option Addr) (ic:Nat) (xs:List IxV),(yv 2) = .slice ia n3 ic∧ISl w' (.slice ia n3 ic) xs∧xs.map (·.2) = pI:=hF 2 (by simp) w' (AgR.refl _ _ _ _ _ _ _ _ _ w')
      have f3:(yv 3) = .agg #[.slice va n vc]:=hF 3 (by simp) w' (AgR.refl _ _ _ _ _ _ _ _ _ w');have f4:(yv 4) = .int .i64 (j:Int):=hF 4 (by simp) w' (AgR.refl _ _ _ _ _ _ _ _ _ w')
      have f5:∃ (ia:Option Addr) (ic:Nat) (xs:List IxV),(yv 5) = .slice ia n4 ic∧ISl w' (.slice ia n4 ic) xs∧xs.map (·.2) = rI:=hF 5 (by simp) w' (AgR.refl _ _ _ _ _ _ _ _ _ w')
      have f6:∃ (ia:Option Addr) (ic:Nat) (xs:List IxV),(yv 6) = .slice ia n3 ic∧ISl w' (.slice ia n3 ic) xs∧xs.map (·.2) = pI:=hF 6 (by simp) w' (AgR.refl _ _ _ _ _ _ _ _ _ w')
      have f7:∃ (ia:Option Addr) (ic:Nat) (xs:List IxV),(yv 7) = .slice ia n4 ic∧ISl w' (.slice ia n4 ic) xs∧xs.map (·.2) = rI:=hF 7 (by simp) w' (AgR.refl _ _ _ _ _ _ _ _ _ w')
      clear hF;generalize yv 0 = y0 at *;subst f0;generalize yv 1 = y1 at *;subst f1;generalize yv 2 = y2 at *;generalize yv 3 = y3 at *;subst f3;generalize yv 4 = y4 at *;subst f4;generalize yv 5 = y5 at *;generalize yv 6 = y6 at *;generalize yv 7 = y7 at *;obtain ⟨ia,ic,xs,rfl,i1,i2⟩:=f6;obtain ⟨ja,jc,ys,rfl,k1,k2⟩:=f7;have hR4:=AgR.trans _ _ _ _ _ _ _ _ _ W1 _ _ hR3.out hR;clear f2 f5 hR;by_cases hn34:n3 = n4
      case neg =>
       have hni:((n3:Int) != (n4:Int)) = true:=by simpa using fun e=>hn34 (by omega)
       have hne:¬ Y = L:=fun e=>hn34 (by rw [← hn3.out,← hn4.out,e7.out e]);have hf:=hfin.out w' false hR4 (fun e=>absurd e hne);refine hid7 ?_ hf i1 k1 i2 k2 hR4 hne;clear hf i1 k1 i2 k2 hR4 hne;intro hf i1 k1 i2 k2 hR4 hne;clear hn34;go_wp2;go_ret;exact hf.out
      subst hn34;refine hid5 ?_ i1 i2 k1 k2 hR4;clear i1 i2 k1 k2 hR4;intro i1 i2 k1 k2 hR4;go_wp2
      go_loopw [8] (fun v wr=>∃ k:Nat,k≤n3∧v = .int .i64 k∧AgR kb mb A m s B va vc L W1 wr∧ISl wr (.slice ia n3 ic) xs∧ISl wr (.slice ja n3 jc) ys) (fun v _=>n3 - (intOf v).toNat)
      case atStart=>exact ⟨0,by omega,rfl,hR4.out,i1.out,k1.out⟩
      case round =>
       clear i1 k1 hR4;obtain ⟨k,hk,rfl,hRk,i1,k1⟩:=hrel;by_cases hkt:k < n3
       ·have hki:(k:Int) < (n3:Int):=by omega
        obtain ⟨b1,o1,p1,r1,x1,rfl,u1,u2,m1,at1⟩:=i1.at_ hkt;obtain ⟨b2,o2,p2,r2,x2,rfl,u3,u4,m2,at2⟩:=k1.at_ hkt;have hs1:(x1.set:Int) = (j:Int):=e9.out x1 (by rw [← i2.out];exact List.mem_of_getElem? m1);have hs2:(x2.set:Int) = (j:Int):=e10.out x2 (by rw [← k2.out];exact List.mem_of_getElem? m2)
        have heq:Y = L→x1.kind = x2.kind∧x1.tries = x2.tries∧x1.val = x2.val:=fun e=>by
         rw [i2.out,e7.out e,← k2.out,m2] at m1
         cases m1
         exact ⟨rfl,rfl,rfl⟩
        rw [hs1] at at1;rw [hs2] at at2;have hQ:Y = L→decide (Cy.chk x1.val = Cy.chk x2.val) = true:=fun e=>by rw [(heq e).2.2];exact decide_eq_true rfl
        have cS:∀ X,Mod Nowhere wr X→Calls Tryz.prog 46 #[.slice p1 3 r1,.slice p2 3 r2] X fun e w'=>e = .returned (.bool (decide (Cy.chk x1.val = Cy.chk x2.val)))∧Mod Nowhere X w':=fun X hX=>by
         obtain ⟨-,-,-,-,-,d1⟩:=at1 X hX;obtain ⟨-,-,-,-,-,d2⟩:=at2 X hX;exact Zg7 d1.src d2.src (ZcA _) (ZcA _) (by rw [Jj];decide) (by rw [Jj];decide)
        generalize decide (Cy.chk x1.val = Cy.chk x2.val) = Q at *;have at1':∀ W,Mod Nowhere wr W→_:=fun W hW=>(fun h=>⟨h.1,h.2.1,h.2.2.1,h.2.2.2.1,h.2.2.2.2.1,True.intro⟩:_∧_∧_∧_∧_∧_→_∧_∧_∧_∧_∧True) (at1 W hW);have at2':∀ W,Mod Nowhere wr W→_:=fun W hW=>(fun h=>⟨h.1,h.2.1,h.2.2.1,h.2.2.2.1,h.2.2.2.2.1,True.intro⟩:_∧_∧_∧_∧_∧_→_∧_∧_∧_∧_∧True) (at2 W hW);clear at1 at2 hs1 hs2 m1 m2;have at1:=at1';have at2:=at2';clear at1' at2';generalize x1.kind = a1 at *;generalize x2.kind = a2 at *;generalize x1.tries = d1 at *
        generalize x2.tries = d2 at *;refine hid8 ?_ at1 at2 heq hQ cS i1 k1 hRk;clear at1 at2 heq hQ cS i1 k1 hRk;intro at1 at2 heq hQ cS i1 k1 hRk;by_cases hk:a1 = a2
        case neg =>
         have hkb:((a1:Int) != (a2:Int)) = true:=by simpa using fun e=>hk (by omega)
         obtain ⟨g0,g1,g2,g3,g4,-⟩:=at1.out wr (Mod.refl _ _);obtain ⟨q0,q1,q2,q3,q4,-⟩:=at2.out wr (Mod.refl _ _);go_wp2_with fail
         go_quiet (fail)
         have hf:=fun n=>hfin.out _ false (AgR.trans _ _ _ _ _ _ _ _ _ _ _ _ hRk.out (AgR.calm (kb:=kb) (mb:=mb) (A:=A) (m:=m) (s:=s) (B:=B) (va:=va) (vc:=vc) (L:=L) ((Mod.refl Nowhere wr).drewN n))) (fun e=>absurd (heq.out e).1 hk);clear hk;replace hf:=Lib.hid hf;go_wp2;go_ret;exact hf.out _
        subst hk;by_cases ht:d1 = d2
        case neg =>
         have htb:((d1:Int) != (d2:Int)) = true:=by simpa using fun e=>ht (by omega)
         obtain ⟨g0,g1,g2,g3,g4,-⟩:=at1.out wr (Mod.refl _ _);obtain ⟨q0,q1,q2,q3,q4,-⟩:=at2.out wr (Mod.refl _ _);go_wp2_with fail
         go_quiet (fail)
         have hf:=fun n=>hfin.out _ false (AgR.trans _ _ _ _ _ _ _ _ _ _ _ _ hRk.out (AgR.calm (kb:=kb) (mb:=mb) (A:=A) (m:=m) (s:=s) (B:=B) (va:=va) (vc:=vc) (L:=L) ((Mod.refl Nowhere wr).drewN n))) (fun e=>absurd (heq.out e).2.1 ht);clear ht;replace hf:=Lib.hid hf;go_wp2;go_ret;exact hf.out _
        subst ht;obtain ⟨g0,g1,g2,g3,g4,-⟩:=at1.out wr (Mod.refl _ _);obtain ⟨q0,q1,q2,q3,q4,-⟩:=at2.out wr (Mod.refl _ _);have hdr:=(Mod.refl Nowhere wr).drew;have cS1:=cS.out _ hdr;refine hid2 ?_ hdr cS1;clear hdr cS1;intro hdr cS1;go_wp2_with fail
        go_region_held3 (fun W=>W.cell? ⟨b1,o1 + k * 4,none⟩ = some (.int .i64 (j:Int))∧W.cell? ⟨b1,o1 + k * 4 + 1,none⟩ = some (.int .i64 (a1:Int))∧W.cell? ⟨b1,o1 + k * 4 + 2,none⟩ = some (.int .i64 (d1:Int))∧W.cell? ⟨b1,o1 + k * 4 + 3,none⟩ = some (.slice p1 3 r1)∧W.cell? ⟨b2,o2 + k * 4,none⟩ = some (.int .i64 (j:Int))∧W.cell? ⟨b2,o2 + k * 4 + 1,none⟩ = some (.int .i64 (a1:Int))∧W.cell? ⟨b2,o2 + k * 4 + 2,none⟩ = some (.int .i64 (d1:Int))∧W.cell? ⟨b2,o2 + k * 4 + 3,none⟩ = some (.slice p2 3 r2)) (simp [*,World.cell?_alloc_some,World.cell?_setCell_far,World.cell?_setCell_other])
         (first | (go_at_call 46;(with_reducible refine cS1.out.mono ?_);rintro e w9 ⟨rfl,hm9⟩;have hmx:=hdr.out.trans hm9;obtain ⟨u0,u1,u2,u3,u4,-⟩:=at1.out w9 hmx;obtain ⟨v0,v1,v2,v3,v4,-⟩:=at2.out w9 hmx;replace hmx:=Lib.hid hmx;replace hm9:=Lib.hid hm9) | fail)
        have hRx:=AgR.trans _ _ _ _ _ _ _ _ _ _ _ _ hRk.out (AgR.calm (kb:=kb) (mb:=mb) (A:=A) (m:=m) (s:=s) (B:=B) (va:=va) (vc:=vc) (L:=L) hmx.out);have i1':=i1.out.fresh hmx.out;have k1':=k1.out.fresh hmx.out;refine hid3 ?_ i1' k1' hRx;clear i1' k1' hRx;intro i1' k1' hRx
        cases hqq:Q with
        | false =>
         have hf:=hfin.out _ false hRx.out (fun e=>by have:=hQ.out e;rw [hqq] at this;cases this);replace hf:=Lib.hid hf;go_wp2;go_ret;exact hf.out
        | true =>
         go_wp2;go_roundw
         case rel=>exact ⟨k + 1,by omega,by go_num,hRx.out,i1'.out,k1'.out⟩
         case measure=>simp [intOf];omega
       ·obtain rfl:k = n3:=by omega
        replace hRk:=Lib.hid hRk;clear i1 k1;go_wp2
        go_loopw [9] (fun v wr=>∃ i:Nat,i≤8∧v = .int .i64 i∧AgR kb mb A m s B va vc L W1 wr) (fun v _=>8 - (intOf v).toNat)
        case atStart=>exact ⟨0,by omega,rfl,hRk.out⟩
        case round =>
         clear hRk;obtain ⟨i,hi,rfl,hRi⟩:=hrel;by_cases hit:i < 8
         ·have hii:(i:Int)≤7:=by omega
          have hi64:I64 (i:Int):=by unfold I64;omega
          have hagi:=hRi.2 hag.out;have q5:=e5.out wr hagi (i:Int) hi64;have q6:=fun X q=>e6.out X q (i:Int);have heq:Y = L→kfind Y j i = kfind L j i:=fun e=>e8.out e i;generalize kfind Y (j:Int) (i:Int) = oY at *;generalize kfind L (j:Int) (i:Int) = oL at *;have hSK:=fun X u v (hu:Src X u (valOf oY)) (hv:Src X v (valOf oL))=>ZhM (w:=X) (u:=u) (v:=v) (kSn oY) (kKn oY) (kLn oY) (kSn oL) (kKn oL) (kLn oL) hu hv;have hs:Y = L→oY.isSome = oL.isSome∧kSn oY = kSn oL∧kKn oY = kKn oL∧kLn oY = kLn oL∧valOf oY = valOf oL:=fun e=>by rw [heq e];exact ⟨rfl,rfl,rfl,rfl,rfl⟩
          generalize kSn oY = s1 at *;generalize kKn oY = s2 at *;generalize kLn oY = s3 at *;generalize kSn oL = s4 at *;generalize kKn oL = s5 at *;generalize kLn oL = s6 at *;generalize valOf oY = vY at *;generalize valOf oL = vL at *;generalize oY.isSome = iY at *;generalize oL.isSome = iL at *;obtain ⟨y1,hy1⟩:∃ x,vY.length = x:=⟨_,rfl⟩;obtain ⟨y2,hy2⟩:∃ x,vL.length = x:=⟨_,rfl⟩;rw [hy1] at q5;rw [hy2] at q6;clear heq;refine hid8 ?_ q5 q6 hSK hs hagi hRi hy1 hy2;clear q5 q6 hSK hs hagi hRi hy1 hy2;intro q5 q6 hSK hs hagi hRi hy1 hy2;go_wp2_with fail;refine q5.out.mono ?_;rintro e w5 ⟨ua,uc,rfl,du,hr5⟩;have mA:Mod Nowhere w5 (w5.alloc (.cells #[.int .i64 s1,.int .i64 s2,.slice ua y1 uc,.int .i64 s3] 39)):=(Mod.refl _ _).alloc _
          have bA:=Blk.new w5 [.int .i64 s1,.int .i64 s2,.slice ua y1 uc,.int .i64 s3] 39;have hag6:=(hr5.2 hagi.out).fresh mA;have hR6:=AgR.trans _ _ _ _ _ _ _ _ _ W1 _ _ (AgR.trans _ _ _ _ _ _ _ _ _ W1 _ _ hRi.out hr5) (AgR.calm mA);have du6:=du.fresh mA;clear hr5 du;refine hid5 ?_ mA bA hag6 hR6 du6;clear mA bA hag6 hR6 du6;intro mA bA hag6 hR6 du6
          go_upto_region 18 with (fail)
          generalize hw6:w5.alloc (.cells #[.int .i64 s1,.int .i64 s2,.slice ua y1 uc,.int .i64 s3] 39) = w6 at *;generalize hN1:w5.heap.size = N1 at *;clear hw6 hN1 mA;obtain ⟨z0,zl⟩:=hc.out w6 hag6.out;have q7:=q6.out w6 hag6.out;replace q7:=Lib.hid q7;go_wp2_with fail;refine q7.out.mono ?_;rintro e w7 ⟨va2,vc2,rfl,dv,hm7⟩;have mA:Mod Nowhere w7 (w7.alloc (.cells #[.int .i64 s4,.int .i64 s5,.slice va2 y2 vc2,.int .i64 s6] 39)):=(Mod.refl _ _).alloc _;have bB:=Blk.new w7 [.int .i64 s4,.int .i64 s5,.slice va2 y2 vc2,.int .i64 s6] 39;have bA8:=(bA.out.mod hm7 id).mod mA id;have hR8:=AgR.trans _ _ _ _ _ _ _ _ _ W1 _ _ hR6.out (AgR.calm (hm7.trans mA))
          have du8:=du6.out.fresh (hm7.trans mA);have dv8:=dv.fresh mA;clear z0 zl dv;refine hid7 ?_ hm7 mA bB bA8 hR8 du8 dv8;clear hm7 mA bB bA8 hR8 du8 dv8;intro hm7 mA bB bA8 hR8 du8 dv8
          go_upto_region 19 with (fail)
          generalize hw8:w7.alloc (.cells #[.int .i64 s4,.int .i64 s5,.slice va2 y2 vc2,.int .i64 s6] 39) = w8 at *;generalize hN2:w7.heap.size = N2 at *;clear hw8 hN2 mA hm7;have z0:=bA8.out.cell 0;have z1:=bA8.out.cell 1;have z2:=bA8.out.cell 2;have z3:=bA8.out.cell 3;have zl:=bA8.out.lt;have x0:=bB.out.cell 0;have x1:=bB.out.cell 1;have x2:=bB.out.cell 2;have x3:=bB.out.cell 3;have xl:=bB.out.lt;simp only [gz0,gs0] at z0 z1 z2 z3 x0 x1 x2 x3;by_cases hb:iY = iL
          case neg =>
           have hne:¬ Y = L:=fun e=>hb (hs.out e).1;have hf:=hfin.out w8 false hR8.out (fun e=>absurd e hne);refine hid2 ?_ hf hne;clear hf hne;intro hf hne;go_wp2;go_ret;exact hf.out
          subst hb;have q8:=hSK.out w8 _ _ du8.out.src dv8.out.src;replace q8:=Lib.hid q8;go_wp2_with fail;refine q8.out.mono ?_;rintro e w9 ⟨bq,rfl,hbq,hm9⟩;have hR9:=AgR.trans _ _ _ _ _ _ _ _ _ W1 _ _ hR8.out (AgR.calm hm9)
          cases bq with
          | false =>
           have hne:¬ Y = L:=fun e=>by
            obtain ⟨-,r1,r2,r3,r4⟩:=hs.out e;have:=hbq r1 r2 r3 r4
            cases this
           have hf:=hfin.out w9 false hR9 (fun e=>absurd e hne);clear hbq;refine hid4 ?_ hf hne hm9 hR9;clear hf hne hm9 hR9;intro hf hne hm9 hR9;go_wp2;go_ret;exact hf.out
          | true =>
           clear hbq;refine hid2 ?_ hm9 hR9;clear hm9 hR9;intro hm9 hR9;go_wp2;go_roundw
           case rel=>exact ⟨i + 1,by omega,by go_num,hR9.out⟩
           case measure=>simp [intOf];omega
         ·obtain rfl:i = 8:=by omega
          replace hRi:=Lib.hid hRi;go_wp2;go_roundw
          case rel=>exact ⟨j + 1,by omega,by go_num,hRi.out⟩
          case measure=>simp [intOf];omega
    ·obtain rfl:j = 10:=by omega
     have hf:=hfin.out _ true hR2 (fun _=>rfl);refine hid2 ?_ hf hR2;clear hf hR2;intro hf hR2;go_wp2;go_ret;exact hf.out
end Go.Proofs.YtoehlaeaafalmaaGreat
