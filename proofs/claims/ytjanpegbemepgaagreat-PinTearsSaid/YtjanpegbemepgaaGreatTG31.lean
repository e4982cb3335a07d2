/-
  The PINs: opening, small functions.
-/
import Derived.Test.YtjanpegbemepgaaGreatTG29
set_option linter.unusedVariables false
set_option linter.unusedSimpArgs false
set_option maxRecDepth 100000
namespace Go.Proofs.YtjanpegbemepgaaGreat
open Go.RowKit
open Jn Vn
attribute [local go_sem] Oper.semAt_some
def PnAt (w:World) (pb vb:Nat):Prop:=Blk w pb [ptr vb] 69
theorem PnAt.fresh {w w':World} {pb vb:Nat} (h:PnAt w pb vb) (hm:Mod Nowhere w w'):PnAt w' pb vb:=Blk.mod h hm (fun e=>e)
def Says (w:World) (vb:Nat) (al:Bool):Prop:=∀ W,Mod Nowhere w W→Calls Tryz.prog 59 #[ptr vb] W fun e w'=>e = .returned (.bool al)∧Mod Nowhere W w'
theorem VRep.says {w:World} {A:VAt} {m:Mem} {s:VSt} (h:VRep w A m s):Says w A.vb true:=fun W hm=>vAlive_rep (h.fresh hm)
theorem Shut.says {w:World} {vb er:Nat} {eb:Int→Nat→Nat} (h:Shut w (ptr vb) er eb):Says w vb false:=fun W hm=>h.alive W hm
theorem Says.fresh {w w':World} {vb:Nat} {al:Bool} (h:Says w vb al) (hm:Mod Nowhere w w'):Says w' vb al:=fun W h1=>h W (hm.trans h1)
def readyE (al:Bool):Nat:=if al = true then 0 else 7
set_option maxHeartbeats 1000000 in
theorem pinOpen_ok {w:World} {vb:Nat} (h:Says w vb true):Calls Tryz.prog 22 #[ptr vb] w fun e w'=>∃ pb,e = .returned (.tuple #[ptr pb,errno 0])∧PnAt w' pb vb∧w.heap.size≤pb∧Mod Nowhere w w':=by
 have h1:=h w (Mod.refl _ _);refine hid2 ?_ h1 h;clear h1 h;intro h1 h;go_enter Tryz.func22,Tryz.ntmps22;go_wp2_with fail;refine (h1.out).mono ?_;rintro e w1 ⟨rfl,hm1⟩;have hm2:=hm1.alloc (.cells #[ptr vb] 69);have hs:=hm1.size;replace hm2:=Lib.hid hm2;go_wp2
 go_ret2
 exact ⟨_,rfl,Blk.new' rfl rfl,hs,hm2.out⟩
set_option maxHeartbeats 1000000 in
theorem pinReady_ok {w:World} {pb vb:Nat} {al:Bool} (hp:PnAt w pb vb) (h:Says w vb al):Calls Tryz.prog 32 #[ptr pb] w fun e w'=>e = .returned (errno (readyE al))∧Mod Nowhere w w':=by
 have h1:=h w (Mod.refl _ _);have c0:=Blk.cell hp 0;have cl:=Blk.lt hp;simp only [List.getElem?_cons_zero] at c0;refine hid2 ?_ h1 h;clear h1 h;intro h1 h
 cases al
 all_goals
  go_enter Tryz.func32,Tryz.ntmps32;go_wp2_with fail;refine (h1.out).mono ?_;rintro e w1 ⟨rfl,hm1⟩;go_wp2;go_ret;exact ⟨rfl,hm1⟩
def fitsB (n:Nat) (lo hi:Int):Bool:=decide (lo≤(n:Int)) && decide ((n:Int)≤hi)
set_option maxHeartbeats 1000000 in
theorem pinFits_ok {w:World} (a:Option Addr) (n c:Nat) (lo hi:Int):Calls Tryz.prog 60 #[.slice a n c,.int .i64 lo,.int .i64 hi] w fun e w'=>e = .returned (.bool (fitsB n lo hi))∧w = w':=by
 unfold fitsB;by_cases h1:lo≤(n:Int)
 ·by_cases h2:(n:Int)≤hi
  all_goals
   go_enter Tryz.func60,Tryz.ntmps60;go_wp2;go_ret;exact ⟨ret_bool (by simp [h1,h2]),rfl⟩
 ·go_enter Tryz.func60,Tryz.ntmps60;go_wp2;go_ret;exact ⟨ret_bool (by simp;omega),rfl⟩
end Go.Proofs.YtjanpegbemepgaaGreat
/-
 The PINs: definitions as items, and back.
-/
namespace Go.Proofs.YtjanpegbemepgaaGreat
open Go.RowKit
open Jn Vn
attribute [local go_sem] Oper.semAt_some
def pinV (d:PinD) (u1 u2:Value):Value:=.agg #[.int .i64 d.id,u1,.int .i64 d.limit,.int .i64 d.lo,.int .i64 d.hi,u2,.int .i64 d.cl]
def pinCells (d:PinD) (u1 u2:Value):List Value:=[.int .i64 d.id,u1,.int .i64 d.limit,.int .i64 d.lo,.int .i64 d.hi,u2,.int .i64 d.cl]
set_option maxHeartbeats 4000000 in
theorem pinDecode_ok {w:World} {v:Value} {d:PinD} (hd:POk d) (hv:DSl w v (pinB d)):Calls Tryz.prog 68 #[.int .i64 d.id,v] w fun e w'=>∃ u1 u2,e = .returned (pinV d u1 u2)∧DSl w' u1 d.value∧DSl w' u2 d.code∧Mod Nowhere w w':=by
 have hlen:=pinB_len d;have hv0:Sl w v 5 1 (pinB d).length (u8s (pinB d)):=hv;have h16:=hd.short;obtain ⟨b,off,cap,rfl,hb,hc1,hc2,hcell,-⟩:=hv0.open (by omega);obtain ⟨o1,hr1,hs1⟩:=hv0.from_ Tryz.underlying31 info_cl_u8 5 (by omega);obtain ⟨o2,hr2,hs2⟩:=hs1.from_ Tryz.underlying31 info_cl_u8 d.value.length (by omega);have hr1':∀ W,(Instr.slice 31 (.slice (some ⟨b,off,none⟩) (pinB d).length cap) (some (.int .i64 5)) none none).run Tryz.prog W = .ok (.slice (some ⟨b,o1,none⟩) ((pinB d).length - 5) (cap - 5)) W:=hr1;clear hr1;have hs3:=hs1.upto d.value.length (cap - 5) (by omega) (by omega) (Nat.le_refl _);have hr3:=run_uptoN (P:=Tryz.prog) Tryz.underlying31 info_cl_u8 b o1 ((pinB d).length - 5) (cap - 5) d.value.length (by omega)
 have k0:=hcell 0 (by omega);have k1:=hcell 1 (by omega);have k2:=hcell 2 (by omega);have k3:=hcell 3 (by omega);have k4:=hcell 4 (by omega);rw [Nat.add_zero] at k0
 have g:∀ i,i < 5→(u8s (pinB d)).getD i default = .int .u8 ([d.limit,d.lo,d.hi,d.cl,d.value.length].getD i 0:Nat):=fun i hi=>by
  rw [u8s_at _ _ (by omega)]
  congr 2
  unfold pinB;rw [List.getD_eq_getElem?_getD,List.getElem?_append_left (by simpa using hi),← List.getD_eq_getElem?_getD]
 rw [g 0 (by omega)] at k0;rw [g 1 (by omega)] at k1;rw [g 2 (by omega)] at k2;rw [g 3 (by omega)] at k3;rw [g 4 (by omega)] at k4;simp only [List.getD_cons_zero,List.getD_cons_succ] at k0 k1 k2 k3 k4;have hl15:=hd.l15;have hhi:=hd.hi;have hv1:=hd.v1;have hv2:=hd.v2;have hcl:=hd.cl15
 have d2:DSl w (.slice (some ⟨b,o2,none⟩) ((pinB d).length - 5 - d.value.length) (cap - 5 - d.value.length)) d.code:=by
  have e:((u8s (pinB d)).drop 5).drop d.value.length = u8s d.code:=by rw [u8s_drop,u8s_drop];congr 1;simp [pinB]
  rw [e] at hs2;have e2:(pinB d).length - 5 - d.value.length = d.code.length:=by omega
  rw [e2] at hs2 ⊢;exact hs2
 have d1:DSl w (.slice (some ⟨b,o1,none⟩) d.value.length (cap - 5)) d.value:=by
  have e:((u8s (pinB d)).drop 5).take d.value.length = u8s d.value:=by rw [u8s_drop,u8s_take];congr 1;simp [pinB]
  rw [e] at hs3;exact hs3
 have hn5:(5:Nat)≤(pinB d).length:=by omega
 clear hs1 hs2 hs3 hv hv0 hcell g hd;obtain ⟨n,hn⟩:∃ n,(pinB d).length = n:=⟨_,rfl⟩;rw [hn] at hr1' hr2 hr3 hc1 hn5 d2 hlen h16 ⊢;obtain ⟨id,value,limit,lo,hi,code,cl⟩:=d;unfold pinV;dsimp only at *;obtain ⟨vl,hvl⟩:∃ n,value.length = n:=⟨_,rfl⟩;rw [hvl] at hr2 hr3 d1 d2 k4 hlen hv1 hv2;refine hid5 ?_ d1 d2 hn hvl hlen;clear d1 d2 hn hvl hlen;intro d1 d2 hn hvl hlen;go_enter Tryz.func68,Tryz.ntmps68;go_wp2;have w1:IntKind.i64.wrap (limit:Int) = limit:=by rw [IntKind.wrap_i64];omega
 have w2:IntKind.i64.wrap (lo:Int) = lo:=by rw [IntKind.wrap_i64];omega
 have w3:IntKind.i64.wrap (hi:Int) = hi:=by rw [IntKind.wrap_i64];omega
 have w4:IntKind.i64.wrap (cl:Int) = cl:=by rw [IntKind.wrap_i64];omega
 have i0:(0:Int) < (n:Int):=by omega
 have i1:(1:Int) < (n:Int):=by omega
 have i2:(2:Int) < (n:Int):=by omega
 have i3:(3:Int) < (n:Int):=by omega
 have j0:0 < n:=by omega
 have j1:1 < n:=by omega
 have j2:2 < n:=by omega
 have j3:3 < n:=by omega
 go_region_held3 (fun w'=>w'.cell? ⟨b,off,none⟩ = some (.int .u8 limit)∧w'.cell? ⟨b,off + 1,none⟩ = some (.int .u8 lo)∧w'.cell? ⟨b,off + 2,none⟩ = some (.int .u8 hi)∧w'.cell? ⟨b,off + 3,none⟩ = some (.int .u8 cl)) (simp [*,World.cell?_alloc_some,World.cell?_setCell_far,World.cell?_setCell_other])
  (first | fail)
 clear hr1' hr2 hr3 k0 k1 k2 k3 k4;have hmA:Mod Nowhere w (w.alloc (.cells #[.int .i64 id,.slice (some ⟨b,o1,none⟩) vl (cap - 5),.int .i64 limit,.int .i64 lo,.int .i64 hi,.slice (some ⟨b,o2,none⟩) (n - 5 - vl) (cap - 5 - vl),.int .i64 cl] 35)).drew:=((Mod.refl _ w).alloc _).drew;go_wp2;exact bodyPost_ret (results_cell_row rfl _ _ w.heap.size 35 _ (0,0) _ rfl (heap_alloc_new w _) Tryz.underlying35 rfl (by kernel_rfl)) rfl ⟨_,_,rfl,d1.out.fresh hmA,d2.out.fresh hmA,hmA⟩
end Go.Proofs.YtjanpegbemepgaaGreat
/-
 The PINs: which definitions are valid.
-/
namespace Go.Proofs.YtjanpegbemepgaaGreat
open Go.RowKit
open Jn Vn
attribute [local go_sem] Oper.semAt_some
def unbB (ul:Nat) (cl:Int):Bool:=(decide (ul = 0) && decide (cl = 0)) || (fitsB ul 1 16 && decide (1≤cl) && decide (cl≤15))
def pinValidB (id:Int) (vl:Nat) (limit lo hi:Int) (ul:Nat) (cl:Int):Bool :=
 decide (1≤id) && decide (id≤8) && decide (1≤limit) && decide (limit≤15) && decide (1≤lo) && decide (hi≤16) && fitsB vl lo hi && unbB ul cl
set_option maxHeartbeats 8000000 in
theorem pinValid_ok {w:World} (id:Int) (va:Option Addr) (vl vc:Nat) (limit lo hi:Int) (ua:Option Addr) (ul uc:Nat) (cl:Int) :
  Calls Tryz.prog 33 #[.agg #[.int .i64 id,.slice va vl vc,.int .i64 limit,.int .i64 lo,.int .i64 hi,.slice ua ul uc,.int .i64 cl]] w fun e w'=>e = .returned (.bool (pinValidB id vl limit lo hi ul cl))∧Mod Nowhere w w':=by
 have hF:=fun W a n c lo hi=>pinFits_ok (w:=W) a n c lo hi;have hm0:Mod Nowhere w (w.alloc (.cells #[.int .i64 id,.slice va vl vc,.int .i64 limit,.int .i64 lo,.int .i64 hi,.slice ua ul uc,.int .i64 cl] 35)):=(Mod.refl _ w).alloc _;unfold pinValidB;obtain ⟨ub,hub⟩:∃ ub,unbB ul cl = ub:=⟨_,rfl⟩;obtain ⟨fv,hfv⟩:∃ fv,fitsB vl lo hi = fv:=⟨_,rfl⟩;have hF1:=fun W=>hF W va vl vc lo hi;rw [hub,hfv];simp only [hfv] at hF1;refine hid5 ?_ hF hub hfv hF1 hm0;clear hF hub hfv hF1 hm0;intro hF hub hfv hF1 hm0;go_enter Tryz.func33,Tryz.ntmps33
 go_upto_region 1 with (fail)
 go_cut [3] (fun v wx=>v = .bool ub∧wx = w.alloc (.cells #[.int .i64 id,.slice va vl vc,.int .i64 limit,.int .i64 lo,.int .i64 hi,.slice ua ul uc,.int .i64 cl] 35))
 case first =>
  by_cases c1:ul = 0
  ·subst c1;by_cases c2:cl = 0
   ·subst c2;have t1:((0:Int) == 0) = true:=rfl;obtain rfl:ub = true:=by rw [← hub.out];unfold unbB fitsB;simp
    clear hub;go_wp2;go_meet
    case rel=>exact ⟨by first | rfl | simp [*],rfl⟩
   ·have t2:(cl == 0) = false:=by simpa using c2
    obtain rfl:ub = false:=by rw [← hub.out];unfold unbB fitsB;simp [c2]
    clear hub;have hF2:=fun W=>hF.out W ua 0 uc 1 16;rw [show fitsB 0 1 16 = false by unfold fitsB;simp] at hF2;replace hF2:=Lib.hid hF2;go_wp2_with fail;refine (hF2.out _).mono ?_;rintro e w1 ⟨rfl,rfl⟩;go_wp2;go_meet
    case rel=>exact ⟨by first | rfl | simp [*],rfl⟩
  ·have t1:((ul:Int) == 0) = false:=by simp;omega
   by_cases c3:ul≤16
   ·by_cases c4:1≤cl
    ·by_cases c5:cl≤15
     ·have hv:unbB ul cl = true:=by unfold unbB fitsB;simp [c1,c3,c4,c5];omega
      obtain rfl:ub = true:=by rw [← hub.out];exact hv
      clear hub;have hF2:=fun W=>hF.out W ua ul uc 1 16;rw [show fitsB ul 1 16 = true by unfold fitsB;simp;omega] at hF2;replace hF2:=Lib.hid hF2;go_wp2_with fail;refine (hF2.out _).mono ?_;rintro e w1 ⟨rfl,rfl⟩;go_wp2;go_meet
      case rel=>exact ⟨by first | rfl | simp [*],rfl⟩
     ·have hv:unbB ul cl = false:=by unfold unbB fitsB;simp [c1,c3,c4,c5]
      obtain rfl:ub = false:=by rw [← hub.out];exact hv
      clear hub;have hF2:=fun W=>hF.out W ua ul uc 1 16;rw [show fitsB ul 1 16 = true by unfold fitsB;simp;omega] at hF2;replace hF2:=Lib.hid hF2;go_wp2_with fail;refine (hF2.out _).mono ?_;rintro e w1 ⟨rfl,rfl⟩;go_wp2;go_meet
      case rel=>exact ⟨by first | rfl | simp [*],rfl⟩
    ·have hv:unbB ul cl = false:=by unfold unbB fitsB;simp [c1,c3,c4]
     obtain rfl:ub = false:=by rw [← hub.out];exact hv
     clear hub;have hF2:=fun W=>hF.out W ua ul uc 1 16;rw [show fitsB ul 1 16 = true by unfold fitsB;simp;omega] at hF2;replace hF2:=Lib.hid hF2;go_wp2_with fail;refine (hF2.out _).mono ?_;rintro e w1 ⟨rfl,rfl⟩;go_wp2;go_meet
     case rel=>exact ⟨by first | rfl | simp [*],rfl⟩
   ·have hv:unbB ul cl = false:=by unfold unbB fitsB;simp [c1];omega
    obtain rfl:ub = false:=by rw [← hub.out];exact hv
    clear hub;have hF2:=fun W=>hF.out W ua ul uc 1 16;rw [show fitsB ul 1 16 = false by unfold fitsB;simp;omega] at hF2;replace hF2:=Lib.hid hF2;go_wp2_with fail;refine (hF2.out _).mono ?_;rintro e w1 ⟨rfl,rfl⟩;go_wp2;go_meet
    case rel=>exact ⟨by first | rfl | simp [*],rfl⟩
 case rest =>
  obtain ⟨rfl,rfl⟩:=hcut;by_cases d0:1≤id
  ·skip
   by_cases d1:id≤8
   ·skip
    by_cases d2:1≤limit
    ·skip
     by_cases d3:limit≤15
     ·skip
      by_cases d4:1≤lo
      ·skip
       by_cases d5:hi≤16
       ·skip
        go_wp2_with fail;refine (hF1.out _).mono ?_;rintro e w1 ⟨rfl,rfl⟩
        cases fv
        ·go_wp2;go_ret;exact ⟨ret_bool (by simp [d0,d1,d2,d3,d4,d5] <;> (intros;omega)),hm0.out⟩
        ·go_wp2;go_ret;exact ⟨ret_bool (by simp [d0,d1,d2,d3,d4,d5] <;> (intros;omega)),hm0.out⟩
       ·go_wp2;go_ret;exact ⟨ret_bool (by simp [d0,d1,d2,d3,d4,d5] <;> (intros;omega)),hm0.out⟩
      ·go_wp2;go_ret;exact ⟨ret_bool (by simp [d0,d1,d2,d3,d4] <;> (intros;omega)),hm0.out⟩
     ·go_wp2;go_ret;exact ⟨ret_bool (by simp [d0,d1,d2,d3] <;> (intros;omega)),hm0.out⟩
    ·go_wp2;go_ret;exact ⟨ret_bool (by simp [d0,d1,d2] <;> (intros;omega)),hm0.out⟩
   ·go_wp2;go_ret;exact ⟨ret_bool (by simp [d0,d1] <;> (intros;omega)),hm0.out⟩
  ·go_wp2;go_ret;exact ⟨ret_bool (by simp [d0] <;> (intros;omega)),hm0.out⟩
end Go.Proofs.YtjanpegbemepgaaGreat
/-
 slices.Concat of bytes from any slices; the PINs: a definition's item.
-/
namespace Go.Proofs.YtjanpegbemepgaaGreat
open Go.RowKit
open Jn Vn
attribute [local go_sem] Oper.semAt_some
theorem append_onto {w:World} {base:Nat} {v u:Value} {l d:List Nat} {n:Nat} (hn:l.length = n) (hown:w.ownsRow base 5 1 v n (u8s l)) (hs:Src w u d) (hl:n + d.length≤1099511627776) (hb:base≤w.heap.size) (ty:TypeId) :
  ∃ va vcap w',(Builtin.append_ #[31,31] ty #[v,u]).run Tryz.prog w = .ok (.slice va (n + d.length) vcap) w'∧w'.ownsRow base 5 1 (.slice va (n + d.length) vcap) (n + d.length) (u8s (l ++ d))∧Mod (Above base) w w':=by
 obtain ⟨i0,hi0,hz0,hz1,hz2⟩:=info_parts info_u8;obtain ⟨ua,uc,rfl,hc1,hc2,hcell⟩:=hs;by_cases hm:d.length = 0
 ·obtain ⟨a,c,rfl,hc⟩:=owns_form hown;have hy:d = []:=List.eq_nil_of_length_eq_zero hm;subst hy;rw [List.append_nil];exact ⟨a,c,w,run_append_empty (P:=Tryz.prog) w 31 ty 5 i0 Tryz.underlying31 hi0 a ua n c uc hc,hown,Mod.refl _ _⟩
 ·obtain ⟨b,off,rfl,hbl,hcs⟩:=hcell (by omega);have hul:(u8s d).length = d.length:=by simp [u8s]
  have hnews:∀ j x,(u8s d)[j]? = some x→w.cell? ((⟨b,off,none⟩:Addr).add j) = some x:=fun j x hj=>by
   have hjl:=(List.getElem?_eq_some_iff.1 hj).1;rw [hul] at hjl;rw [add_lit,hcs j hjl,← u8s_at d j hjl,List.getD_eq_getElem?_getD,hj];rfl
  obtain ⟨g,gc,w',hr,ho,hg,_,_⟩:=run_append_lies (P:=Tryz.prog) w 31 ty base 5 i0 (.int .u8 0) 1 1 Tryz.underlying31 hi0 hz0 hz1 hz2 rfl (by decide) v n (u8s l) hown ⟨b,off,none⟩ d.length uc (u8s d) (by rw [hul];omega) hnews (one_u8 d) (by omega) (by unfold maxLen;omega) (by omega) hb _ rfl;rw [← u8s_append] at ho;exact ⟨_,gc,w',hr,ho,(Mod.refl _ w).app hown hg⟩
set_option maxHeartbeats 2000000 in
theorem Concat_src {w:World} {v:Value} {xs:List (Value × List Nat)} (h:Sl w v 31 1 xs.length (xs.map (·.1))) (hx:∀ x ∈ xs,Src w x.1 x.2) (hxl:xs.length≤1000) (hn:(cat xs).length≤1099511627776) :
  Calls Tryz.prog 104 #[v] w fun e w'=>∃ v',e = .returned v'∧w'.ownsRow w.heap.size 5 1 v' (cat xs).length (u8s (cat xs))∧Mod Nowhere w w':=by
 obtain ⟨i0,hi0,hz0,hz1,hz2⟩:=info_parts info_u8;obtain ⟨a,cap,rfl,h1,h2,hcells⟩:=h.gen;refine hid2 ?_ h hx;clear h hx;intro h hx;go_enter Tryz.func104,Tryz.ntmps104;go_wp2
 go_loop [3,11] (fun s i=>∃ k:Nat,k≤xs.length∧i = .int .i64 k∧s = .int .i64 ((cat (xs.take k)).length:Nat)) (fun _ i=>xs.length - (intOf i).toNat)
 case atStart=>exact ⟨0,by omega,rfl,by simp [cat]⟩
 case round =>
  obtain ⟨k,hk,rfl,rfl⟩:=hrel;have hle:=cat_le xs k;by_cases hlt:k < xs.length
  ·obtain ⟨b,off,rfl,hbl,hc,hz⟩:=hcells (by omega);have hck:=hc k (by omega);have hle2:=cat_le xs (k + 1);have hct:=cat_take xs k hlt
   have e1:(xs.map (·.1)).getD k default = xs[k].1:=by simp [List.getD_eq_getElem?_getD,hlt]
   rw [e1] at hck;obtain ⟨xa,xc,e2,_,_,_⟩:=hx.out xs[k] (List.getElem_mem hlt);rw [e2] at hck;rw [hct] at hle2;rw [List.length_append] at hle2;have hlen:(cat (xs.take (k + 1))).length = (cat (xs.take k)).length + xs[k].2.length:=by rw [hct,List.length_append]
   refine hid2 ?_ hlen hct;clear hlen hct;intro hlen hct;generalize xs[k].2.length = q at *;generalize (cat (xs.take k)).length = s at *;refine hid2 ?_ e1 e2;clear e1 e2;intro e1 e2;clear hc;have hnn:¬ ((s:Int) + q < 0):=by omega
   go_wp2
   go_round
   case rel=>exact ⟨k + 1,by omega,by go_num,by rw [hlen.out];go_num⟩
   case measure=>simp [intOf];omega
  ·obtain rfl:k = xs.length:=by omega
   rw [List.take_length];have hG:=Grow_u8 (w:=w) (cat xs).length hn;replace hG:=Lib.hid hG;go_wp2_with fail;refine hG.out.mono ?_;rintro e w1 ⟨v0,rfl,hown0,hm0⟩;go_wp2
   go_loopg [6,27] xs.length (fun gg vv i wr=>∃ k:Nat,k≤xs.length∧gg + k = xs.length∧i = .int .i64 k∧wr.ownsRow w.heap.size 5 1 vv (cat (xs.take k)).length (u8s (cat (xs.take k)))∧Mod Nowhere w wr)
   case atStart=>exact ⟨0,by omega,by omega,rfl,by simpa [cat,u8s] using hown0,hm0⟩
   case round =>
    obtain ⟨k,hk,hgg,rfl,hown,hm⟩:=hrel;have hle:=cat_le xs k;by_cases hlt:k < xs.length
    ·have hsl:=h.out.mod hm (fun _ _=>id);obtain ⟨b,off,cap',e0,hbl,_,_,hc,hz⟩:=hsl.open (by omega);have hck:=hc k (by omega);have hct:=cat_take xs k hlt;have hle2:=cat_le xs (k + 1);rw [hct,List.length_append] at hle2
     have e1:(xs.map (·.1)).getD k default = xs[k].1:=by simp [List.getD_eq_getElem?_getD,hlt]
     rw [e1] at hck;have hxk:=(hx.out xs[k] (List.getElem_mem hlt)).fresh hm;obtain ⟨vb,vcap,rfl,hvc⟩:=owns_form hown
     obtain ⟨rfl,rfl⟩:a = some ⟨b,off,none⟩∧cap = cap':=by
      simp at e0;exact ⟨e0.1,e0.2⟩
     clear hc;obtain ⟨va,vc,w2,hrun,ho2,hm2⟩:=append_onto rfl hown hxk (by omega) hm.size 31;obtain ⟨xa,xc,e2,_,_,_⟩:=hxk;rw [e2] at hck hrun;rw [← hct] at ho2;have hM2:Mod Nowhere w w2:=hm.step hm2 (fun i hi e=>by have e:w.heap.size≤i:=e;omega);have hlen:(cat (xs.take (k + 1))).length = (cat (xs.take k)).length + xs[k].2.length:=by rw [hct,List.length_append]
     rw [← hlen] at ho2 hrun;clear hown hm hm2 hsl hct hlen;generalize hs2:(cat (xs.take (k + 1))).length = s2 at *;generalize (cat (xs.take k)).length = s at *;generalize xs[k].2.length = q at *;refine hid5 ?_ ho2 hM2 e1 e2 hs2;clear ho2 hM2 e1 e2 hs2;intro ho2 hM2 e1 e2 hs2
     go_wp2_with (at_builtin;refine Lib.wpList_append_run _ rfl _ _ _ _ rfl _ _ rfl rfl _ _ hrun ?_)
     go_roundg (xs.length - (k + 1))
     case measure=>omega
     case rel=>exact ⟨k + 1,by omega,by omega,by go_num,by rw [hs2.out];exact ho2.out,hM2.out⟩
    ·obtain rfl:k = xs.length:=by omega
     rw [List.take_length] at hown;replace hown:=Lib.hid hown;go_wp2;go_ret;exact ⟨_,rfl,hown.out,hm⟩
theorem pinB_cat (d:PinD) (a b c:Value):cat [(a,[d.limit,d.lo,d.hi,d.cl,d.value.length]),(b,d.value),(c,d.code)] = pinB d:=by
 simp [cat,pinB]
set_option maxHeartbeats 4000000 in
theorem pinEncode_ok {w:World} {u1 u2:Value} {d:PinD} (hd:POk d) (h1:Src w u1 d.value) (h2:Src w u2 d.code):Calls Tryz.prog 71 #[pinV d u1 u2] w fun e w'=>∃ va vc,e = .returned (.slice va (pinB d).length vc)∧w'.ownsRow w.heap.size 5 1 (.slice va (pinB d).length vc) (pinB d).length (u8s (pinB d))∧Mod Nowhere w w':=by
 obtain ⟨xa,xc,rfl,hx1,hx2,-⟩:=id h1;obtain ⟨ya,yc,rfl,hy1,hy2,-⟩:=id h2;have hl15:=hd.l15;have hhi:=hd.hi;have hv1:=hd.v1;have hv2:=hd.v2;have hcl:=hd.cl15;have hsh:=hd.short
 have hCat:∀ W:World,Mod Nowhere w W →
   Calls Tryz.prog 104 #[.slice (some ⟨W.heap.size + 1,0,none⟩) 3 3] ((W.alloc (.cells (u8s [d.limit,d.lo,d.hi,d.cl,d.value.length]).toArray 5)).alloc (.cells #[.slice (some ⟨W.heap.size,0,none⟩) 5 5,.slice xa d.value.length xc,.slice ya d.code.length yc] 31)) fun e w' =>
    ∃ va vc,e = .returned (.slice va (pinB d).length vc)∧w'.ownsRow w.heap.size 5 1 (.slice va (pinB d).length vc) (pinB d).length (u8s (pinB d))∧Mod Nowhere w w':=by
  intro W hm;obtain ⟨L,hL⟩:∃ L,[d.limit,d.lo,d.hi,d.cl,d.value.length] = L:=⟨_,rfl⟩;rw [hL];have hLl:L.length = 5:=by rw [← hL];rfl
  have hb1:=Blk.new W (u8s L) 5;have m1:Mod Nowhere W (W.alloc (.cells (u8s L).toArray 5)):=(Mod.refl _ W).alloc _;have hsz:(W.alloc (.cells (u8s L).toArray 5)).heap.size = W.heap.size + 1:=by simp
  generalize W.alloc (.cells (u8s L).toArray 5) = W1 at *;have hb2:=Blk.new W1 [.slice (some ⟨W.heap.size,0,none⟩) 5 5,.slice xa d.value.length xc,.slice ya d.code.length yc] 31;have m2:Mod Nowhere W1 (W1.alloc (.cells #[.slice (some ⟨W.heap.size,0,none⟩) 5 5,.slice xa d.value.length xc,.slice ya d.code.length yc] 31)):=(Mod.refl _ W1).alloc _;rw [hsz] at hb2;have hb2':Blk (W1.alloc (.cells #[.slice (some ⟨W.heap.size,0,none⟩) 5 5,.slice xa d.value.length xc,.slice ya d.code.length yc] 31)) (W.heap.size + 1) [.slice (some ⟨W.heap.size,0,none⟩) 5 5,.slice xa d.value.length xc,.slice ya d.code.length yc] 31:=hb2
  clear hb2;generalize W1.alloc (.cells #[.slice (some ⟨W.heap.size,0,none⟩) 5 5,.slice xa d.value.length xc,.slice ya d.code.length yc] 31) = W2 at *;have hm2:Mod Nowhere w W2:=(hm.trans m1).trans m2
  have s1:Src W2 (.slice (some ⟨W.heap.size,0,none⟩) 5 5) L:=by
   refine ⟨_,5,by rw [hLl],by omega,by unfold maxLen;decide,fun _=>⟨W.heap.size,0,rfl,by have:=m2.size;omega,fun i hi=>?_⟩⟩;have hb1':=hb1.mod m2 id;rw [Nat.zero_add,hb1'.cell,← u8s_at L i hi,List.getD_eq_getElem?_getD,List.getElem?_eq_getElem (by simpa [u8s] using hi)]
   rfl
  have hcl:=pinB_cat d (.slice (some ⟨W.heap.size,0,none⟩) 5 5) (.slice xa d.value.length xc) (.slice ya d.code.length yc);rw [hL] at hcl
  have:=Concat_src (w:=W2) (v:=.slice (some ⟨W.heap.size + 1,0,none⟩) 3 3)
   (xs:=[(.slice (some ⟨W.heap.size,0,none⟩) 5 5,L),(.slice xa d.value.length xc,d.value),(.slice ya d.code.length yc,d.code)])
   ⟨rfl,.inr ⟨W.heap.size + 1,0,3,_,rfl,hb2',Nat.le_refl _,by unfold maxLen;decide,Nat.le_refl _,rfl⟩⟩
   (by
    intro x hx;simp only [List.mem_cons,List.not_mem_nil,or_false] at hx;rcases hx with rfl | rfl | rfl
    ·exact s1
    ·exact h1.fresh hm2
    ·exact h2.fresh hm2) (by show 3≤1000;decide) (by rw [hcl];omega)
  rw [hcl] at this;refine this.mono ?_;rintro e w' ⟨v',rfl,ho',hm'⟩;obtain ⟨va,vc,rfl,-⟩:=owns_form ho';exact ⟨va,vc,rfl,ownsRow_base_a ho' hm2.size,hm2.trans hm'⟩
 have hm0:Mod Nowhere w (w.alloc (.cells #[.int .i64 d.id,.slice xa d.value.length xc,.int .i64 d.limit,.int .i64 d.lo,.int .i64 d.hi,.slice ya d.code.length yc,.int .i64 d.cl] 35)):=(Mod.refl _ w).alloc _;unfold pinV;clear hd h1 h2;generalize hR:u8s (pinB d) = R at *;obtain ⟨id,value,limit,lo,hi,code,cl⟩:=d;simp only at *;obtain ⟨n,hn⟩:∃ n,(pinB { id:=id,value:=value,limit:=limit,lo:=lo,hi:=hi,code:=code,cl:=cl }).length = n:=⟨_,rfl⟩;rw [hn] at hCat hsh ⊢;obtain ⟨q,hq⟩:∃ q,value.length = q:=⟨_,rfl⟩;obtain ⟨r,hr⟩:∃ r,code.length = r:=⟨_,rfl⟩;rw [hq] at hCat hv1 hv2 hx1 hm0 ⊢
 rw [hr] at hCat hy1 hm0 ⊢;refine hid6 ?_ hCat hm0 hR hn hq hr;clear hCat hm0 hR hn hq hr;intro hCat hm0 hR hn hq hr;go_enter Tryz.func71,Tryz.ntmps71;go_wp2_with fail;have hC:=hCat.out _ hm0.out;simp only [World.size_alloc,u8s,List.map_cons,List.map_nil] at hC;refine hC.mono ?_;rintro e w1 ⟨va,vc,rfl,ho,hm⟩;refine hid3 ?_ ho hm hC;clear ho hm hC;intro ho hm hC;go_wp2;go_ret;exact ⟨va,vc,rfl,ho.out,hm.out⟩
end Go.Proofs.YtjanpegbemepgaaGreat
/-
 The PINs: the counters.
-/
namespace Go.Proofs.YtjanpegbemepgaaGreat
open Go.RowKit
open Jn Vn
attribute [local go_sem] Oper.semAt_some
theorem at_nat (F:Items) (k:Nat):at_ F (k:Int) = F k:=by unfold at_;rw [if_pos (by omega),Int.toNat_natCast]
theorem owns_Src {w:World} {base:Nat} {v:Value} {n:Nat} {l:List Nat} (h:w.ownsRow base 5 1 v n (u8s l)) (hn:l.length = n):Src w v l:=by
 subst hn;by_cases h0:0 < l.length
 ·obtain ⟨g,cap,cs,rfl,hb,hbl,h1,h2,h3,h4⟩:=owns_open h h0;refine ⟨_,cap,rfl,h1,h2,fun _=>⟨g,0,rfl,hbl.lt,fun i hi=>?_⟩⟩;have:=owns_src h i _ (by rw [List.getElem?_eq_getElem (by simpa [u8s] using hi)]);rw [add_lit] at this;rw [this,← u8s_at l i hi,List.getD_eq_getElem?_getD,List.getElem?_eq_getElem (by simpa [u8s] using hi)]
  rfl
 ·rcases h.2 with ⟨rfl,e⟩ | ⟨g,cap,cur,rfl,hb,hg,h1,h2,h3,h4⟩
  ·exact ⟨none,0,by rw [show l.length = 0 by omega],by omega,by unfold maxLen;decide,fun h=>by omega⟩
  ·exact ⟨_,cap,rfl,h1,h2,fun h=>by omega⟩
set_option maxHeartbeats 4000000 in
theorem pinTries_ok {w:World} {pb:Nat} {A:VAt} {m:Mem} {s:VSt} (hp:PnAt w pb A.vb) (h:VRep w A m s) (hxn:s.l.length≤1000000) (hI:PInvF (view s)) {id:Nat} (i1:1≤id) (i8:id≤8) :
  Calls Tryz.prog 62 #[ptr pb,.int .i64 id] w fun e w'=>e = .returned (.tuple #[.int .i64 (ptry (view s) id).1,.int .i64 (ptry (view s) id).2])∧Mod Nowhere w w':=by
 have hG:=vGet_rep h hxn ((24 + id:Nat):Int) (by omega) (by omega);rw [at_nat] at hG
 have hlen:∀ b,view s (24 + id) = some b→∃ t u,b = [t,u]∧t≤15∧u≤15:=fun b hb=>by
  rcases hI.pin _ _ hb with ⟨d,h1,h2,-⟩ | ⟨j,t,u,-,-,-,h4,h5,h6⟩
  ·have:=h1.i8;omega
  ·exact ⟨t,u,h4,h5,h6⟩
 have hpt:ptry (view s) id = match view s (24 + id) with
  | some b=>if b.length = 2 then (b.getD 0 0,b.getD 1 0) else (0,0)
  | none=>(0,0):=rfl
 rw [hpt]
 change Calls _ _ _ _ (GetPost w (view s (24 + id))) at hG
 obtain ⟨g,hg⟩:∃ g,view s (24 + id) = g:=⟨_,rfl⟩;rw [hg] at hG hlen ⊢;have c0:=Blk.cell hp 0;have cl:=Blk.lt hp;simp only [List.getElem?_cons_zero] at c0;have hadd:IntKind.i64.wrap (24 + (id:Int)) = ((24 + id:Nat):Int):=by rw [IntKind.wrap_i64];omega
 unfold GetPost at hG;refine hid2 ?_ hG hg;clear hG hg;intro hG hg
 cases g with
 | none =>
  clear hlen;go_enter Tryz.func62,Tryz.ntmps62;go_wp2_with fail;refine (hG.out).mono ?_;rintro e w1 ⟨v,rfl,ho,hm⟩;obtain ⟨va,vc,rfl,-⟩:=owns_form ho;refine hid2 ?_ ho hm;clear ho hm;intro ho hm;go_wp2
  go_ret2
  exact ⟨rfl,hm.out⟩
 | some b =>
  obtain ⟨t,u,rfl,ht,hu⟩:=hlen b rfl;go_enter Tryz.func62,Tryz.ntmps62;go_wp2_with fail;refine (hG.out).mono ?_;rintro e w1 ⟨v,rfl,ho,hm⟩;obtain ⟨va,vc,rfl,h1,h2,hc⟩:=owns_Src (l:=[t,u]) ho rfl;obtain ⟨b,off,rfl,hbl,hcs⟩:=hc (Nat.succ_pos 1);have q0:=hcs 0 (Nat.succ_pos 1);have q1:=hcs 1 (Nat.lt_succ_self 1);clear hcs hc;simp only [List.getD_cons_zero,List.getD_cons_succ,Nat.add_zero] at q0 q1;have w1_:IntKind.i64.wrap (t:Int) = t:=by rw [IntKind.wrap_i64];omega
  have w2_:IntKind.i64.wrap (u:Int) = u:=by rw [IntKind.wrap_i64];omega
  refine hid2 ?_ ho hm;clear ho hm;intro ho hm;go_wp2
  go_region_held3 (fun w'=>w'.cell? ⟨b,off,none⟩ = some (.int .u8 t)∧w'.cell? ⟨b,off + 1,none⟩ = some (.int .u8 u)) (simp [*,World.cell?_alloc_some,World.cell?_setCell_far,World.cell?_setCell_other])
   (first | fail)
  have hm3:=hm.out.drew;replace hm3:=Lib.hid hm3;go_wp2
  go_ret2
  exact ⟨rfl,hm3.out⟩
end Go.Proofs.YtjanpegbemepgaaGreat
