/-
  The words in which the contracts speak of memory: a block and its cells (Blk), a slice that reads as a list of cells (Sl), and what a call may have changed (Mod).
-/
import Derived.WalkSpells
import Derived.WalkLawsBesides
import Derived.Lib.Hide
import Derived.Deep.LoopGhost
import Derived.BigQuiet
set_option linter.unusedVariables false
set_option linter.unusedSimpArgs false
namespace Go.Proofs.YtanioleniadhoaaGreat
open Go.RowKit
theorem hid2 {G a0 a1:Prop} (h:Hid a0→Hid a1→G) (x0:a0) (x1:a1):G:=h (Lib.hid x0) (Lib.hid x1)
theorem hid3 {G a0 a1 a2:Prop} (h:Hid a0→Hid a1→Hid a2→G) (x0:a0) (x1:a1) (x2:a2):G:=h (Lib.hid x0) (Lib.hid x1) (Lib.hid x2)
theorem hid4 {G a0 a1 a2 a3:Prop} (h:Hid a0→Hid a1→Hid a2→Hid a3→G) (x0:a0) (x1:a1) (x2:a2) (x3:a3):G:=h (Lib.hid x0) (Lib.hid x1) (Lib.hid x2) (Lib.hid x3)
theorem hid5 {G a0 a1 a2 a3 a4:Prop} (h:Hid a0→Hid a1→Hid a2→Hid a3→Hid a4→G) (x0:a0) (x1:a1) (x2:a2) (x3:a3) (x4:a4):G:=h (Lib.hid x0) (Lib.hid x1) (Lib.hid x2) (Lib.hid x3) (Lib.hid x4)
theorem hid6 {G a0 a1 a2 a3 a4 a5:Prop} (h:Hid a0→Hid a1→Hid a2→Hid a3→Hid a4→Hid a5→G) (x0:a0) (x1:a1) (x2:a2) (x3:a3) (x4:a4) (x5:a5):G:=h (Lib.hid x0) (Lib.hid x1) (Lib.hid x2) (Lib.hid x3) (Lib.hid x4) (Lib.hid x5)
theorem hid7 {G a0 a1 a2 a3 a4 a5 a6:Prop} (h:Hid a0→Hid a1→Hid a2→Hid a3→Hid a4→Hid a5→Hid a6→G) (x0:a0) (x1:a1) (x2:a2) (x3:a3) (x4:a4) (x5:a5) (x6:a6):G:=h (Lib.hid x0) (Lib.hid x1) (Lib.hid x2) (Lib.hid x3) (Lib.hid x4) (Lib.hid x5) (Lib.hid x6)
theorem hid8 {G a0 a1 a2 a3 a4 a5 a6 a7:Prop} (h:Hid a0→Hid a1→Hid a2→Hid a3→Hid a4→Hid a5→Hid a6→Hid a7→G) (x0:a0) (x1:a1) (x2:a2) (x3:a3) (x4:a4) (x5:a5) (x6:a6) (x7:a7):G:=h (Lib.hid x0) (Lib.hid x1) (Lib.hid x2) (Lib.hid x3) (Lib.hid x4) (Lib.hid x5) (Lib.hid x6) (Lib.hid x7)
theorem hid9 {G a0 a1 a2 a3 a4 a5 a6 a7 a8:Prop} (h:Hid a0→Hid a1→Hid a2→Hid a3→Hid a4→Hid a5→Hid a6→Hid a7→Hid a8→G) (x0:a0) (x1:a1) (x2:a2) (x3:a3) (x4:a4) (x5:a5) (x6:a6) (x7:a7) (x8:a8):G:=h (Lib.hid x0) (Lib.hid x1) (Lib.hid x2) (Lib.hid x3) (Lib.hid x4) (Lib.hid x5) (Lib.hid x6) (Lib.hid x7) (Lib.hid x8)
theorem hid10 {G a0 a1 a2 a3 a4 a5 a6 a7 a8 a9:Prop} (h:Hid a0→Hid a1→Hid a2→Hid a3→Hid a4→Hid a5→Hid a6→Hid a7→Hid a8→Hid a9→G) (x0:a0) (x1:a1) (x2:a2) (x3:a3) (x4:a4) (x5:a5) (x6:a6) (x7:a7) (x8:a8) (x9:a9):G:=h (Lib.hid x0) (Lib.hid x1) (Lib.hid x2) (Lib.hid x3) (Lib.hid x4) (Lib.hid x5) (Lib.hid x6) (Lib.hid x7) (Lib.hid x8) (Lib.hid x9)
theorem hid11 {G a0 a1 a2 a3 a4 a5 a6 a7 a8 a9 a10:Prop} (h:Hid a0→Hid a1→Hid a2→Hid a3→Hid a4→Hid a5→Hid a6→Hid a7→Hid a8→Hid a9→Hid a10→G) (x0:a0) (x1:a1) (x2:a2) (x3:a3) (x4:a4) (x5:a5) (x6:a6) (x7:a7) (x8:a8) (x9:a9) (x10:a10):G:=h (Lib.hid x0) (Lib.hid x1) (Lib.hid x2) (Lib.hid x3) (Lib.hid x4) (Lib.hid x5) (Lib.hid x6) (Lib.hid x7) (Lib.hid x8) (Lib.hid x9) (Lib.hid x10)
theorem hid12 {G a0 a1 a2 a3 a4 a5 a6 a7 a8 a9 a10 a11:Prop} (h:Hid a0→Hid a1→Hid a2→Hid a3→Hid a4→Hid a5→Hid a6→Hid a7→Hid a8→Hid a9→Hid a10→Hid a11→G) (x0:a0) (x1:a1) (x2:a2) (x3:a3) (x4:a4) (x5:a5) (x6:a6) (x7:a7) (x8:a8) (x9:a9) (x10:a10) (x11:a11):G:=h (Lib.hid x0) (Lib.hid x1) (Lib.hid x2) (Lib.hid x3) (Lib.hid x4) (Lib.hid x5) (Lib.hid x6) (Lib.hid x7) (Lib.hid x8) (Lib.hid x9) (Lib.hid x10) (Lib.hid x11)
theorem gz0 {α:Type _} {a:α} {l:List α}:(a :: l)[0]? = some a:=List.getElem?_cons_zero
theorem gs0 {α:Type _} {a:α} {l:List α} {i:Nat}:(a :: l)[i + 1]? = l[i]?:=List.getElem?_cons_succ
theorem gd0 {α:Type _} {l:List α} {i:Nat} {a:α}:l.getD i a = l[i]?.getD a:=List.getD_eq_getElem?_getD
def Blk (w:World) (b:Nat) (cs:List Value) (T:TypeId):Prop:=w.heap[b]? = some (.cells cs.toArray T (0,0))
section
variable {w w' : World} {b : Nat} {cs : List Value} {T : TypeId}
theorem Blk.lt (h:Blk w b cs T):b < w.heap.size:=(Array.getElem?_eq_some_iff.1 h).1
theorem Blk.cell (h:Blk w b cs T) (o:Nat):w.cell? ⟨b,o,none⟩ = cs[o]?:=by
 rw [cell_of_row w b o cs.toArray T (0,0) h];simp
theorem Blk.frozen (h:Blk w b cs T) (o:Nat):w.frozen? ⟨b,o,none⟩ = false:=frozen_of_row w b o cs.toArray T h
theorem Blk.same (h:Blk w b cs T) (e:w'.heap[b]? = w.heap[b]?):Blk w' b cs T:=e.trans h
theorem Blk.drew (h:Blk w b cs T):Blk w.drew b cs T:=h
theorem Blk.alloc (h:Blk w b cs T) (o:Obj):Blk (w.alloc o) b cs T:=by
 unfold Blk;rw [Below.heap_alloc w o b h.lt];exact h
theorem Blk.new (w:World) (cs:List Value) (T:TypeId):Blk (w.alloc (.cells cs.toArray T)) w.heap.size cs T:=heap_alloc_new w _
theorem Blk.setCell (h:Blk w b cs T) (o:Nat) (v:Value):Blk (w.setCell ⟨b,o,none⟩ v) b (cs.set o v) T:=by
 unfold Blk;rw [heap_setCell_same w b o cs.toArray T v h];simp
theorem Blk.setCell_other (h:Blk w b cs T) {a:Addr} (hb:b ≠ a.block) (v:Value):Blk (w.setCell a v) b cs T:=by
 unfold Blk;rw [heap_setCell_other w a b v hb];exact h
theorem Blk.setRow (h:Blk w b cs T) (v:List Value):Blk (w.setRow b v.toArray) b v T:=setRow_heap w b _ _ T _ h
theorem Blk.setRow_other (h:Blk w b cs T) {g:Nat} (hb:b ≠ g) (v:Array Value):Blk (w.setRow g v) b cs T:=by
 unfold Blk;rw [Go.setRow_other w g b v hb];exact h
theorem Blk.drewN (h:Blk w b cs T) (n:Nat):Blk (w.drewN n) b cs T:=h
theorem Blk.conv {cs':List Value} (h:Blk w b cs T) (e:cs = cs'):Blk w b cs' T:=e ▸ h
theorem Blk.inj {cs':List Value} {T':TypeId} (h:Blk w b cs T) (h':Blk w b cs' T'):cs = cs'∧T = T':=by
 have:=h.symm.trans h';simp at this;exact ⟨this.1,this.2⟩
end
structure Mod (S:Nat→Prop) (w w':World):Prop where
 os:w'.os = w.os
 tape:w'.tape = w.tape
 output:w'.output = w.output
 size:w.heap.size≤w'.heap.size
 block:∀ k,k < w.heap.size→¬ S k→w'.heap[k]? = w.heap[k]?
def Nowhere:Nat→Prop:=fun _=>False
section
variable {S S' : Nat → Prop} {a w w' w'' : World}
theorem Mod.refl (S:Nat→Prop) (w:World):Mod S w w:=⟨rfl,rfl,rfl,Nat.le_refl _,fun _ _ _=>rfl⟩
theorem Mod.trans (h:Mod S w w') (k:Mod S w' w''):Mod S w w'' :=
 ⟨k.os.trans h.os,k.tape.trans h.tape,k.output.trans h.output,Nat.le_trans h.size k.size,fun i hi hs=>(k.block i (Nat.lt_of_lt_of_le hi h.size) hs).trans (h.block i hi hs)⟩
theorem Mod.step (h:Mod S w w') (k:Mod S' w' w'') (hs:∀ i,i < w.heap.size→S' i→S i):Mod S w w'' :=
 ⟨k.os.trans h.os,k.tape.trans h.tape,k.output.trans h.output,Nat.le_trans h.size k.size,fun i hi hn=>(k.block i (Nat.lt_of_lt_of_le hi h.size) (fun x=>hn (hs i hi x))).trans (h.block i hi hn)⟩
theorem Mod.mono (h:Mod S w w') (hs:∀ i,i < w.heap.size→S i→S' i):Mod S' w w':=⟨h.os,h.tape,h.output,h.size,fun i hi hn=>h.block i hi fun x=>hn (hs i hi x)⟩
theorem Mod.drew (h:Mod S a w):Mod S a w.drew:=⟨h.os,h.tape,h.output,h.size,h.block⟩
theorem Mod.drewN (h:Mod S a w) (n:Nat):Mod S a (w.drewN n):=⟨h.os,h.tape,h.output,h.size,h.block⟩
theorem Mod.alloc (h:Mod S a w) (o:Obj):Mod S a (w.alloc o) :=
 h.trans ⟨rfl,rfl,rfl,by simp,fun k hk _=>Below.heap_alloc _ _ _ hk⟩
theorem Mod.setCell (h:Mod S a w) {p:Addr} (hp:p.block < a.heap.size→S p.block) (u:Value):Mod S a (w.setCell p u) :=
 h.step (S':=fun k=>k = p.block) ⟨rfl,rfl,rfl,by simp [World.setCell],fun k hk hn=>heap_setCell_other _ _ _ _ hn⟩ (fun i hi e=>e ▸ hp (e ▸ hi))
theorem Mod.setRow (h:Mod S a w) {g:Nat} (hp:g < a.heap.size→S g) (u:Array Value):Mod S a (w.setRow g u) :=
 h.step (S':=fun k=>k = g) ⟨rfl,rfl,rfl,by simp,fun k hk hn=>setRow_other _ _ _ _ hn⟩ (fun i hi e=>e ▸ hp (e ▸ hi))
theorem Mod.grown {row:Option Nat} (h:Mod S a w) (hg:w.grownBy w' row) (hr:∀ k,row = some k→k < a.heap.size→S k):Mod S a w' :=
 h.step (S':=fun k=>row = some k) ⟨hg.os,hg.tape,hg.output,hg.size,fun k hk hn=>hg.block k hk (fun e=>hn e.symm)⟩ (fun i hi e=>hr i e hi)
theorem Mod.below (h:Mod Nowhere w w'):Below w.heap.size w w':=⟨h.os,h.tape,h.output,h.size,fun k hk=>h.block k hk id⟩
theorem Mod.of_below (h:Below w.heap.size w w'):Mod S w w':=⟨h.os,h.tape,h.output,h.size,fun k hk _=>h.block k hk⟩
theorem Mod.cell (h:Mod S w w') {p:Addr} (hp:p.block < w.heap.size) (hn:¬ S p.block):w'.cell? p = w.cell? p:=World.cell?_of_block (h.block _ hp hn)
theorem Mod.frozen (h:Mod S w w') {p:Addr} (hp:p.block < w.heap.size) (hn:¬ S p.block):w'.frozen? p = w.frozen? p:=World.frozen?_of_block (h.block _ hp hn)
theorem Blk.mod {b:Nat} {cs:List Value} {T:TypeId} (h:Blk w b cs T) (m:Mod S w w') (hn:¬ S b):Blk w' b cs T:=h.same (m.block b h.lt hn)
end
def Sl (w:World) (v:Value) (T:TypeId) (sz n:Nat) (xs:List Value):Prop :=
 xs.length = n * sz ∧
 ((v = .slice none 0 0∧n = 0) ∨
  ∃ b off cap cs,v = .slice (some ⟨b,off,none⟩) n cap∧Blk w b cs T∧n≤cap∧cap≤maxLen∧off + cap * sz≤cs.length∧(cs.drop off).take (n * sz) = xs)
def Off (S:Nat→Prop) (v:Value):Prop:=∀ k,v.ownBlock = some k→¬ S k
section
variable {S : Nat → Prop} {w w' : World} {v : Value} {T : TypeId} {sz n : Nat} {xs : List Value}
theorem Sl.nil (w:World) (T:TypeId) (sz:Nat):Sl w (.slice none 0 0) T sz 0 []:=⟨by simp,.inl ⟨rfl,rfl⟩⟩
theorem Sl.mod (h:Sl w v T sz n xs) (m:Mod S w w') (ho:Off S v):Sl w' v T sz n xs:=by
 refine ⟨h.1,?_⟩;rcases h.2 with hn | ⟨b,off,cap,cs,rfl,hb,rest⟩
 ·exact .inl hn
 ·exact .inr ⟨b,off,cap,cs,rfl,hb.mod m (ho b rfl),rest⟩
theorem Sl.of_owns {base:Nat} (h:w.ownsRow base T sz v n xs):Sl w v T sz n xs:=by
 refine ⟨h.1,?_⟩;rcases h.2 with hn | ⟨g,cap,cur,rfl,_,hg,h1,h2,h3,h4⟩
 ·exact .inl hn
 ·exact .inr ⟨g,0,cap,cur.toList,rfl,by simpa [Blk] using hg,h1,h2,by simpa using Nat.le_of_eq h3.symm,by simpa using h4⟩
theorem Sl.lt (h:Sl w v T sz n xs):∀ k,v.ownBlock = some k→k < w.heap.size:=by
 intro k hk;rcases h.2 with ⟨rfl,_⟩ | ⟨b,off,cap,cs,rfl,hb,_⟩
 ·simp [Value.ownBlock] at hk
 ·simp [Value.ownBlock] at hk;subst hk;exact hb.lt
theorem Sl.open (h:Sl w v T sz n xs) (hn:0 < n):∃ b off cap,v = .slice (some ⟨b,off,none⟩) n cap∧b < w.heap.size∧n≤cap∧cap≤maxLen ∧
  (∀ i,i < n * sz→w.cell? ⟨b,off + i,none⟩ = some (xs.getD i default))∧(∀ o,w.frozen? ⟨b,o,none⟩ = false):=by
 rcases h.2 with ⟨_,h0⟩ | ⟨b,off,cap,cs,rfl,hb,h1,h2,h3,h4⟩
 ·omega
 ·refine ⟨b,off,cap,rfl,hb.lt,h1,h2,fun i hi=>?_,hb.frozen⟩;have hm:n * sz≤cap * sz:=Nat.mul_le_mul_right _ h1;rw [hb.cell,← h4];simp only [List.getD_eq_getElem?_getD,List.getElem?_take,hi,if_true,List.getElem?_drop];rw [List.getElem?_eq_getElem (by omega)];rfl
theorem Sl.len (h:Sl w v T sz n xs):∃ a cap,v = .slice a n cap∧n≤cap∧(n = 0 ∨ ∃ b off,a = some ⟨b,off,none⟩):=by
 rcases h.2 with ⟨rfl,rfl⟩ | ⟨b,off,cap,cs,rfl,hb,h1,h2,h3,h4⟩
 ·exact ⟨none,0,rfl,Nat.le_refl _,.inl rfl⟩
 ·exact ⟨_,cap,rfl,h1,.inr ⟨b,off,rfl⟩⟩
end
theorem ret_int {k:IntKind} {a b:Int} (h:a = b):Ending.returned (.int k a) = .returned (.int k b):=by rw [h]
theorem ret_bool {a b:Bool} (h:a = b):Ending.returned (.bool a) = .returned (.bool b):=by rw [h]
theorem ret_val {a b:Value} (h:a = b):Ending.returned a = .returned b:=by rw [h]
theorem madeCells_one (z:Value) (n:Nat):madeCells #[z] n = (List.replicate n z).toArray:=by
 apply Array.ext
 ·simp [madeCells]
 ·intro i h1 h2;have e:i % 1 = 0:=Nat.mod_one i;simp [madeCells,e]
theorem run_make_full {P:Program} (t e:TypeId) (z:Value) (bytes:Nat) (ht:P.underlying t = some (.slice e))
  (hi:(P.info? e).map (fun i=>(i.zero,i.size,i.bytes)) = some (some z,1,bytes)) (hzc:z.cells = #[z]) (n:Nat) (hb:bytes * n≤281474976710656) (h63:n≤9223372036854775807) (w:World) :
  (Instr.makeSlice t (.int .i64 (n:Int)) (.int .i64 (n:Int))).run P w = .ok (.slice (some ⟨w.heap.size,0,none⟩) n n) (w.alloc (.cells (List.replicate n z).toArray e)):=by
 obtain ⟨i0,hi0,hz0,hz1,hz2⟩:=info_parts hi
 have hb':(i0.bytes:Int) * (n:Int)≤281474976710656:=by
  rw [hz2];have:((bytes * n:Nat):Int)≤281474976710656:=by omega
  rwa [Int.natCast_mul] at this
 have:=run_make (P:=P) w t e i0 z ht hi0 hz0 .i64 .i64 n n (by omega) (by omega) hb' (by omega);rw [this,hz1,hzc];simp only [Int.toNat_natCast,Nat.mul_one,madeCells_one]
end Go.Proofs.YtanioleniadhoaaGreat
/-
 More words on slices.
-/
namespace Go.Proofs.YtanioleniadhoaaGreat
open Go.RowKit
theorem Sl.gen {w:World} {v:Value} {T:TypeId} {sz n:Nat} {xs:List Value} (h:Sl w v T sz n xs) :
  ∃ a cap,v = .slice a n cap∧n≤cap∧cap≤maxLen∧(0 < n→∃ b off,a = some ⟨b,off,none⟩∧b < w.heap.size ∧
   (∀ i,i < n * sz→w.cell? ⟨b,off + i,none⟩ = some (xs.getD i default))∧(∀ o,w.frozen? ⟨b,o,none⟩ = false)):=by
 by_cases hn:0 < n
 ·obtain ⟨b,off,cap,rfl,hb,h1,h2,h3,h4⟩:=h.open hn;exact ⟨_,cap,rfl,h1,h2,fun _=>⟨b,off,rfl,hb,h3,h4⟩⟩
 ·rcases h.2 with ⟨rfl,rfl⟩ | ⟨b,off,cap,cs,rfl,hb,h1,h2,h3,h4⟩
  ·exact ⟨none,0,rfl,Nat.le_refl _,Nat.zero_le _,fun x=>(hn x).elim⟩
  ·exact ⟨_,cap,rfl,h1,h2,fun x=>(hn x).elim⟩
theorem owns_mod {S:Nat→Prop} {w w':World} {base:Nat} {e:TypeId} {size:Nat} {v:Value} {n:Nat} {xs:List Value} (h:w.ownsRow base e size v n xs) (m:Mod S w w') (hs:∀ k,base≤k→¬ S k):w'.ownsRow base e size v n xs:=by
 obtain ⟨h1,h2⟩:=h;refine ⟨h1,?_⟩;rcases h2 with h2 | ⟨g,cap,cur,hv,hg,hh,r⟩
 ·exact .inl h2
 ·exact .inr ⟨g,cap,cur,hv,hg,by rw [m.block g (Array.getElem?_eq_some_iff.1 hh).1 (hs g hg)];exact hh,r⟩
theorem owns_fresh {w:World} {base:Nat} {e:TypeId} {size:Nat} {v:Value} {n:Nat} {xs:List Value} (h:w.ownsRow base e size v n xs):∀ k,v.ownBlock = some k→base≤k:=fun k hk=>(h.lt k hk).1
def Above (B:Nat):Nat→Prop:=fun k=>B≤k
theorem Mod.above {S:Nat→Prop} {a w w':World} {B:Nat} (h:Mod S a w) (k:Mod (Above B) w w') (hB:a.heap.size≤B):Mod S a w' :=
 h.step k (fun i hi hb=>by have:B≤i:=hb;omega)
theorem Mod.app {B:Nat} {a w w':World} {v:Value} {e:TypeId} {size n:Nat} {xs:List Value} (h:Mod (Above B) a w) (ho:w.ownsRow B e size v n xs) (hg:w.grownBy w' v.ownBlock):Mod (Above B) a w' :=
 h.grown hg (fun k hk _=>(ho.lt k hk).1)
theorem Mod.nowhere {S:Nat→Prop} {w w':World} (h:Mod Nowhere w w'):Mod S w w':=h.mono fun _ _ h=>h.elim
theorem cells_new (w:World) (l:List Value) (T:TypeId):∀ j u,l[j]? = some u→(w.alloc (.cells l.toArray T)).cell? ((⟨w.heap.size,0,none⟩:Addr).add j) = some u:=by
 intro j u h;have hadd:(⟨w.heap.size,0,none⟩:Addr).add j = ⟨w.heap.size,j,none⟩:=by unfold Addr.add;split <;> simp_all
 rw [hadd,(Blk.new w l T).cell];exact h
theorem run_make_cap {P:Program} (t e:TypeId) (z:Value) (bytes:Nat) (ht:P.underlying t = some (.slice e))
  (hi:(P.info? e).map (fun i=>(i.zero,i.size,i.bytes)) = some (some z,1,bytes)) (hzc:z.cells = #[z]) (n:Nat) (hb:bytes * n≤281474976710656) (h63:n≤9223372036854775807) (w:World) :
  (Instr.makeSlice t (.int .i64 0) (.int .i64 (n:Int))).run P w = .ok (.slice (some ⟨w.heap.size,0,none⟩) 0 n) (w.alloc (.cells (List.replicate n z).toArray e)):=by
 obtain ⟨i0,hi0,hz0,hz1,hz2⟩:=info_parts hi
 have hb':(i0.bytes:Int) * (n:Int)≤281474976710656:=by
  rw [hz2];have:((bytes * n:Nat):Int)≤281474976710656:=by omega
  rwa [Int.natCast_mul] at this
 have:=run_make (P:=P) w t e i0 z ht hi0 hz0 .i64 .i64 0 n (by omega) (by omega) hb' (by omega);rw [this,hz1,hzc];simp only [Int.toNat_natCast,Nat.mul_one,madeCells_one,Int.toNat_zero]
theorem owns_open {w:World} {base:Nat} {e:TypeId} {size:Nat} {v:Value} {n:Nat} {xs:List Value} (h:w.ownsRow base e size v n xs) (hn:0 < n) :
  ∃ g cap cs,v = .slice (some ⟨g,0,none⟩) n cap∧base≤g∧Blk w g cs e∧n≤cap∧cap≤maxLen∧cs.length = cap * size∧cs.take (n * size) = xs:=by
 rcases h.2 with ⟨_,h0⟩ | ⟨g,cap,cur,rfl,hb,hg,h1,h2,h3,h4⟩
 ·omega
 ·exact ⟨g,cap,cur.toList,rfl,hb,by simpa [Blk] using hg,h1,h2,by simpa using h3,by simpa using h4⟩
theorem owns_new (w:World) (l:List Value) (T:TypeId) (B n:Nat) (hB:B≤w.heap.size) (hn:l.length = n) (hm:n≤maxLen):(w.alloc (.cells l.toArray T)).ownsRow B T 1 (.slice (some ⟨w.heap.size,0,none⟩) n n) n l :=
 ⟨by omega,.inr ⟨w.heap.size,n,l.toArray,rfl,hB,heap_alloc_new w _,Nat.le_refl _,hm,by simp [hn],by simp [← hn]⟩⟩
theorem owns_src {w:World} {base:Nat} {e:TypeId} {size n g cap:Nat} {xs:List Value} (h:w.ownsRow base e size (.slice (some ⟨g,0,none⟩) n cap) n xs) :
  ∀ j u,xs[j]? = some u→w.cell? ((⟨g,0,none⟩:Addr).add j) = some u:=h.cells rfl
end Go.Proofs.YtanioleniadhoaaGreat
/-
 Small facts on the bits of numbers, in the walk's own spelling.
-/
namespace Go.Proofs.YtanioleniadhoaaGreat
open Go.RowKit
theorem ofInt_i64 (a:Nat) (ha:a < 9223372036854775808):(BitVec.ofInt 64 (a:Int)).toNat = a:=by
 rw [BitVec.toNat_ofInt];omega
theorem i64_back (n:Nat) (h:n < 9223372036854775808):IntKind.i64.wrap (n:Int) = n:=by
 simp only [IntKind.wrap,IntKind.bits,IntKind.signed];have:((n:Int) % (2 ^ 64:Int)) = n:=by omega
 simp only [this];rw [if_neg]
 simp;omega
theorem lt63 {a b:Nat} (ha:a < 9223372036854775808) (hb:b < 9223372036854775808):(a &&& b) < 9223372036854775808∧(a ||| b) < 9223372036854775808∧(a ^^^ b) < 9223372036854775808 :=
 ⟨Nat.and_lt_two_pow (n:=63) _ hb,Nat.or_lt_two_pow (n:=63) ha hb,Nat.xor_lt_two_pow (n:=63) ha hb⟩
theorem i64_and (a b:Nat) (ha:a < 9223372036854775808) (hb:b < 9223372036854775808):bits .and .i64 (a:Int) (b:Int) = ((a &&& b:Nat):Int):=by
 have h:=(lt63 ha hb).1;have e:(BitVec.ofInt 64 (a:Int) &&& BitVec.ofInt 64 (b:Int)).toNat = a &&& b:=by rw [BitVec.toNat_and,ofInt_i64 a ha,ofInt_i64 b hb]
 show IntKind.i64.wrap ((BitVec.ofInt 64 (a:Int) &&& BitVec.ofInt 64 (b:Int)).toNat:Int) = _
 rw [e];exact i64_back _ h
theorem i64_or (a b:Nat) (ha:a < 9223372036854775808) (hb:b < 9223372036854775808):bits .or .i64 (a:Int) (b:Int) = ((a ||| b:Nat):Int):=by
 have h:=(lt63 ha hb).2.1;have e:(BitVec.ofInt 64 (a:Int) ||| BitVec.ofInt 64 (b:Int)).toNat = a ||| b:=by rw [BitVec.toNat_or,ofInt_i64 a ha,ofInt_i64 b hb]
 show IntKind.i64.wrap ((BitVec.ofInt 64 (a:Int) ||| BitVec.ofInt 64 (b:Int)).toNat:Int) = _
 rw [e];exact i64_back _ h
theorem i64_xor (a b:Nat) (ha:a < 9223372036854775808) (hb:b < 9223372036854775808):bits .xor .i64 (a:Int) (b:Int) = ((a ^^^ b:Nat):Int):=by
 have h:=(lt63 ha hb).2.2;have e:(BitVec.ofInt 64 (a:Int) ^^^ BitVec.ofInt 64 (b:Int)).toNat = a ^^^ b:=by rw [BitVec.toNat_xor,ofInt_i64 a ha,ofInt_i64 b hb]
 show IntKind.i64.wrap ((BitVec.ofInt 64 (a:Int) ^^^ BitVec.ofInt 64 (b:Int)).toNat:Int) = _
 rw [e];exact i64_back _ h
theorem div_pow (x k:Nat):(x:Int) / 2 ^ k = ((x / 2 ^ k:Nat):Int):=by simp
theorem u32_bit (x k:Nat) (hx:x < 4294967296):bits .and .u32 ((x:Int) / 2 ^ k) 1 = ((x.testBit k).toNat:Int):=by
 rw [div_pow];have h:x / 2 ^ k < 4294967296:=Nat.lt_of_le_of_lt (Nat.div_le_self _ _) hx;have:=u32_and_nat (x / 2 ^ k) 1 h (by decide);rw [show ((1:Int)) = ((1:Nat):Int) from rfl,this,Nat.testBit_eq_decide_div_mod_eq,Nat.and_one_is_mod];have:x / 2 ^ k % 2 = 0 ∨ x / 2 ^ k % 2 = 1:=by omega
 rcases this with e | e <;> simp [e]
theorem u32_bit_eq (x k:Nat) (hx:x < 4294967296):(bits .and .u32 ((x:Int) / 2 ^ k) 1 == 1) = x.testBit k:=by
 rw [u32_bit x k hx];cases x.testBit k <;> rfl
theorem i64_bit (x k:Nat) (hx:x < 9223372036854775808):bits .and .i64 ((x:Int) / 2 ^ k) 1 = ((x.testBit k).toNat:Int):=by
 rw [div_pow];have h:x / 2 ^ k < 9223372036854775808:=Nat.lt_of_le_of_lt (Nat.div_le_self _ _) hx;have:=i64_and (x / 2 ^ k) 1 h (by decide);rw [show ((1:Int)) = ((1:Nat):Int) from rfl,this,Nat.testBit_eq_decide_div_mod_eq,Nat.and_one_is_mod];have:x / 2 ^ k % 2 = 0 ∨ x / 2 ^ k % 2 = 1:=by omega
 rcases this with e | e <;> simp [e]
end Go.Proofs.YtanioleniadhoaaGreat
/-
 The memory of the card as a plain value, and what it means that a block of Go's memory holds it.
-/
namespace Go.Proofs.YtanioleniadhoaaGreat
open Go.RowKit
structure Mem where
 words:List Nat
 wear:List Nat
 endu:Nat
 writes:Nat
 cuts:Nat
 left:Nat
 off:Bool
 pending:Bool
namespace Mem
def size (m:Mem):Nat:=m.words.length
structure Ok (m:Mem):Prop where
 wl:m.wear.length = m.words.length
 pos:1≤m.words.length
 le:m.words.length≤65536
 w32:∀ a,m.words.getD a 0 < 4294967296
 wearLe:∀ a,m.wear.getD a 0≤m.writes
 endu40:m.endu≤1099511627776
 writes40:m.writes≤1099511627776
 cuts40:m.cuts≤1099511627776
 left63:m.left < 9223372036854775808
def due (m:Mem):Bool:=m.pending && m.left == 0
def cutNow (m:Mem):Mem:={ m with off:=true,pending:=false,cuts:=m.cuts + 1 }
def put (m:Mem) (a v:Nat):Mem:={ m with left:=if m.pending then m.left - 1 else m.left,writes:=m.writes + 1,wear:=m.wear.set a (m.wear.getD a 0 + 1),words:=m.words.set a v }
def write (m:Mem) (a v:Nat):Mem × Bool:=if m.due then (m.cutNow,false) else (m.put a v,true)
def restore (m:Mem):Mem:={ m with off:=false,pending:=false,left:=0 }
def cut (m:Mem) (n:Nat):Mem:={ m with pending:=true,left:=n }
theorem Ok.cutNow {m:Mem} (h:m.Ok) (hc:m.cuts < 1099511627776):m.cutNow.Ok:=⟨h.wl,h.pos,h.le,h.w32,h.wearLe,h.endu40,h.writes40,hc,h.left63⟩
theorem Ok.restore {m:Mem} (h:m.Ok):m.restore.Ok:=⟨h.wl,h.pos,h.le,h.w32,h.wearLe,h.endu40,h.writes40,h.cuts40,by show (0:Nat) < _;omega⟩
theorem Ok.cut {m:Mem} (h:m.Ok) {n:Nat} (hn:n < 9223372036854775808):(m.cut n).Ok:=⟨h.wl,h.pos,h.le,h.w32,h.wearLe,h.endu40,h.writes40,h.cuts40,hn⟩
theorem getD_set (l:List Nat) (a b v:Nat):(l.set a v).getD b 0 = if a = b∧a < l.length then v else l.getD b 0:=by
 simp only [List.getD_eq_getElem?_getD,List.getElem?_set];by_cases h:a = b
 ·subst h;by_cases h2:a < l.length <;> simp [h2]
 ·simp [h]
theorem Ok.put {m:Mem} (h:m.Ok) {a v:Nat} (hv:v < 4294967296) (hw:m.writes < 1099511627776):(m.put a v).Ok:=by
 refine ⟨by simp [Mem.put,h.wl],by simpa [Mem.put] using h.pos,by simpa [Mem.put] using h.le,fun b=>?_,fun b=>?_,h.endu40,hw,h.cuts40,?_⟩
 ·show (m.words.set a v).getD b 0 < _
  rw [getD_set]
  split
  ·exact hv
  ·exact h.w32 b
 ·show (m.wear.set a _).getD b 0≤m.writes + 1
  rw [getD_set]
  split
  ·have:=h.wearLe a;omega
  ·have:=h.wearLe b;omega
 ·show (if m.pending then m.left - 1 else m.left) < _
  have:=h.left63
  split <;> omega
end Mem
structure MemAt where
 mb:Nat
 wb:Nat
 rb:Nat
 rcap:Nat
 spare:List Value
def MemAt.S (M:MemAt):Nat→Prop:=fun k=>k = M.mb ∨ k = M.wb ∨ k = M.rb
def u32s (l:List Nat):List Value:=l.map fun x:Nat=>Value.int .u32 (x:Int)
def ints (l:List Nat):List Value:=l.map fun x:Nat=>Value.int .i64 (x:Int)
def memCells (M:MemAt) (m:Mem):List Value :=
 [.slice (some ⟨M.wb,0,none⟩) m.size m.size,.slice (some ⟨M.rb,0,none⟩) m.size M.rcap,.int .i64 m.endu,.int .i64 m.writes,.int .i64 m.cuts,.bool m.off,.bool m.pending,.int .i64 m.left]
structure MemRep (w:World) (M:MemAt) (m:Mem):Prop where
 ok:m.Ok
 d1:M.mb ≠ M.wb
 d2:M.mb ≠ M.rb
 d3:M.wb ≠ M.rb
 cap:m.size≤M.rcap
 cap2:M.rcap≤maxLen
 spare:M.rcap = m.size + M.spare.length
 bm:Blk w M.mb (memCells M m) 165
 bw:Blk w M.wb (u32s m.words) 315
 br:Blk w M.rb (ints m.wear ++ M.spare) 3
theorem MemRep.mod {w w':World} {M:MemAt} {m:Mem} {S:Nat→Prop} (h:MemRep w M m) (hm:Mod S w w') (hs:∀ k,M.S k→¬ S k):MemRep w' M m :=
 { h with bm:=h.bm.mod hm (hs _ (.inl rfl)),bw:=h.bw.mod hm (hs _ (.inr (.inl rfl))),br:=h.br.mod hm (hs _ (.inr (.inr rfl))) }
theorem MemRep.cellW {w:World} {M:MemAt} {m:Mem} (h:MemRep w M m) {a:Nat} (ha:a < m.size):w.cell? ⟨M.wb,a,none⟩ = some (.int .u32 (m.words.getD a 0:Nat)):=by
 rw [h.bw.cell];have ha':a < m.words.length:=ha;simp [u32s,List.getElem?_map,List.getElem?_eq_getElem ha',List.getD_eq_getElem?_getD]
theorem MemRep.cellR {w:World} {M:MemAt} {m:Mem} (h:MemRep w M m) {a:Nat} (ha:a < m.size):w.cell? ⟨M.rb,a,none⟩ = some (.int .i64 (m.wear.getD a 0:Nat)):=by
 rw [h.br.cell];have ha':a < m.wear.length:=by have:=h.ok.wl;have:a < m.words.length:=ha;omega
 rw [List.getElem?_append_left (by simpa [ints] using ha')];simp [ints,List.getElem?_map,List.getElem?_eq_getElem ha',List.getD_eq_getElem?_getD]
end Go.Proofs.YtanioleniadhoaaGreat
/-
 The error-correcting code of the words of the memory, in plain numbers: what is encoded is decoded again.
-/
namespace Go.Proofs.YtanioleniadhoaaGreat.Ecc
def posL:List Nat:=[3,5,6,7,9,10,11,12,13,14,15,17,18,19,20,21,22,23,24,25,26,27,28,29]
def xf (l:List (Nat × Nat)) (w:Nat):Nat:=l.foldr (fun pv s=>(if w.testBit pv.1 then pv.2 else 0) ^^^ s) 0
theorem xf_xor (l:List (Nat × Nat)) (a b:Nat):xf l (a ^^^ b) = xf l a ^^^ xf l b:=by
 induction l with
 | nil=>simp [xf]
 | cons x l ih =>
  simp only [xf,List.foldr_cons] at ih ⊢;rw [ih,Nat.testBit_xor]
  cases a.testBit x.1 <;> cases b.testBit x.1 <;> simp
  ·rw [← Nat.xor_assoc,← Nat.xor_assoc,Nat.xor_comm _ x.2]
  ·rw [Nat.xor_assoc]
  ·generalize List.foldr _ 0 l = p;generalize List.foldr _ 0 l = q;rw [← Nat.xor_assoc,Nat.xor_assoc x.2 p x.2,Nat.xor_comm p x.2,← Nat.xor_assoc x.2 x.2 p];simp
def synL:List (Nat × Nat):=(List.range' 1 31).map fun p=>(p,p)
def parL:List (Nat × Nat):=(List.range 32).map fun p=>(p,1)
def datL:List (Nat × Nat):=posL.zipIdx.map fun pi=>(pi.1,2 ^ pi.2)
def putL:List (Nat × Nat):=posL.zipIdx.map fun pi=>(pi.2,2 ^ pi.1)
def chkL:List (Nat × Nat):=(List.range 5).map fun k=>(k,2 ^ 2 ^ k)
def syn (w:Nat):Nat:=xf synL w
def par (w:Nat):Nat:=xf parL w
def dat (w:Nat):Nat:=xf datL w
def put (n:Nat):Nat:=xf putL n
def chk (w:Nat):Nat:=w ^^^ xf chkL (syn w)
def enc (n:Nat):Nat:=chk (put n) ^^^ par (chk (put n))
theorem syn_xor (a b:Nat):syn (a ^^^ b) = syn a ^^^ syn b:=xf_xor _ a b
theorem par_xor (a b:Nat):par (a ^^^ b) = par a ^^^ par b:=xf_xor _ a b
theorem dat_xor (a b:Nat):dat (a ^^^ b) = dat a ^^^ dat b:=xf_xor _ a b
theorem put_xor (a b:Nat):put (a ^^^ b) = put a ^^^ put b:=xf_xor _ a b
theorem xor4 (a b c d:Nat):(a ^^^ b) ^^^ (c ^^^ d) = (a ^^^ c) ^^^ (b ^^^ d):=by
 rw [Nat.xor_assoc,← Nat.xor_assoc b c d,Nat.xor_comm b c,Nat.xor_assoc c b d,← Nat.xor_assoc]
theorem chk_xor (a b:Nat):chk (a ^^^ b) = chk a ^^^ chk b:=by
 unfold chk;rw [syn_xor,xf_xor,xor4]
theorem enc_xor (a b:Nat):enc (a ^^^ b) = enc a ^^^ enc b:=by
 unfold enc;rw [put_xor,chk_xor,par_xor,xor4]
def isC (w:Nat):Prop:=syn w = 0∧par w = 0∧w < 2 ^ 30
theorem isC_xor {a b:Nat} (ha:isC a) (hb:isC b):isC (a ^^^ b) :=
 ⟨by rw [syn_xor,ha.1,hb.1];rfl,by rw [par_xor,ha.2.1,hb.2.1];rfl,Nat.xor_lt_two_pow ha.2.2 hb.2.2⟩
theorem lin_ind (p:Nat→Prop) (h0:p 0) (hx:∀ a b,p a→p b→p (a ^^^ b)):∀ k,(∀ i,i < k→p (2 ^ i))→∀ n,n < 2 ^ k→p n
 | 0, _, n, hn => by have : n = 0 := by omega
                     rw [this];exact h0
 | k + 1,hp,n,hn=>by
  have ih:=lin_ind p h0 hx k (fun i hi=>hp i (by omega));by_cases hlt:n < 2 ^ k
  ·exact ih n hlt
  ·have e:n = 2 ^ k ^^^ (n - 2 ^ k):=by
    have hb:n - 2 ^ k < 2 ^ k:=by rw [Nat.pow_succ] at hn;omega
    have:=Nat.two_pow_add_eq_or_of_lt hb 1
    have h2:2 ^ k ^^^ (n - 2 ^ k) = 2 ^ k ||| (n - 2 ^ k):=by
     apply Nat.eq_of_testBit_eq
     intro i;rw [Nat.testBit_xor,Nat.testBit_or,Nat.testBit_two_pow];by_cases hi:k = i
     ·subst hi;rw [Nat.testBit_lt_two_pow hb];simp
     ·simp [hi]
    rw [h2];simp at this;omega
   rw [e];exact hx _ _ (hp k (by omega)) (ih _ (by rw [Nat.pow_succ] at hn;omega))
theorem enc_ok (n:Nat) (hn:n < 2 ^ 24):isC (enc n)∧dat (enc n) = n:=by
 refine lin_ind (fun n=>isC (enc n)∧dat (enc n) = n) ?_ ?_ 24 ?_ n hn
 ·refine ⟨⟨?_,?_,?_⟩,?_⟩ <;> decide
 ·rintro a b ⟨ha,da⟩ ⟨hb,db⟩;rw [enc_xor];exact ⟨isC_xor ha hb,by rw [dat_xor,da,db]⟩
 ·unfold isC
  decide +kernel
theorem xf_snoc (l:List (Nat × Nat)) (x:Nat × Nat) (w:Nat):xf (l ++ [x]) w = xf l w ^^^ (if w.testBit x.1 then x.2 else 0):=by
 induction l with
 | nil=>simp [xf]
 | cons y l ih =>
  simp only [xf,List.cons_append,List.foldr_cons] at ih ⊢;rw [ih,Nat.xor_assoc]
theorem xf_lt (l:List (Nat × Nat)) (m w:Nat) (h:∀ x ∈ l,x.2 < 2 ^ m):xf l w < 2 ^ m:=by
 induction l with
 | nil=>simp [xf];exact Nat.two_pow_pos m
 | cons y l ih =>
  simp only [xf,List.foldr_cons];refine Nat.xor_lt_two_pow ?_ (ih fun x hx=>h x (List.mem_cons_of_mem _ hx))
  split
  ·exact h y (List.mem_cons_self ..)
  ·exact Nat.two_pow_pos m
theorem xf_bit (l:List (Nat × Nat)) (i w:Nat) (h:∀ x ∈ l,x.2.testBit i = false):(xf l w).testBit i = false:=by
 induction l with
 | nil=>simp [xf]
 | cons y l ih =>
  have e:xf (y :: l) w = (if w.testBit y.1 then y.2 else 0) ^^^ xf l w:=rfl;rw [e,Nat.testBit_xor,ih fun x hx=>h x (List.mem_cons_of_mem _ hx)]
  split
  ·rw [h y (List.mem_cons_self ..)];rfl
  ·simp
theorem or_bit (y p:Nat) (b:Bool) (h:y.testBit p = false):y ||| b.toNat * 2 ^ p = y ^^^ (if b then 2 ^ p else 0):=by
 cases b
 ·simp
 ·simp only [Bool.toNat_true,Nat.one_mul,if_true]
  apply Nat.eq_of_testBit_eq
  intro i;rw [Nat.testBit_xor,Nat.testBit_or,Nat.testBit_two_pow];by_cases hi:p = i
  ·subst hi;simp [h]
  ·simp [hi]
theorem take_xf (l:List (Nat × Nat)) (k:Nat) (x:Nat × Nat) (hx:l[k]? = some x) (w:Nat):xf (l.take (k + 1)) w = xf (l.take k) w ^^^ (if w.testBit x.1 then x.2 else 0):=by
 rw [List.take_add_one,hx];exact xf_snoc _ _ _
theorem par_bit (w:Nat):par w < 2:=xf_lt parL 1 w (by decide)
theorem syn_lt (w:Nat):syn w < 32:=xf_lt synL 5 w (by decide)
theorem put_lt (n:Nat):put n < 2 ^ 30:=xf_lt putL 30 n (by decide)
theorem dat_lt (w:Nat):dat w < 2 ^ 24:=xf_lt datL 24 w (by decide)
theorem enc_lt (n:Nat):enc n < 2 ^ 30:=by
 refine Nat.xor_lt_two_pow (Nat.xor_lt_two_pow (put_lt n) (xf_lt chkL 30 _ (by decide))) ?_;exact Nat.lt_of_lt_of_le (par_bit _) (by decide)
def decOk (w:Nat):Bool:=syn w == 0 && par w == 0 && w < 2 ^ 30
def dec (w:Nat):Nat × Nat:=if decOk w then (dat w,0) else if decOk (w ^^^ 2 ^ syn w) then (dat (w ^^^ 2 ^ syn w),1) else (0,2)
theorem decOk_iff (w:Nat):decOk w = true ↔ isC w:=by simp [decOk,isC,and_assoc]
theorem dec_enc (n:Nat) (h:n < 2 ^ 24):dec (enc n) = (n,0):=by
 obtain ⟨h1,h2⟩:=enc_ok n h;unfold dec;rw [(decOk_iff _).2 h1,if_pos rfl,h2]
theorem dec_lt (w:Nat):(dec w).1 < 2 ^ 24:=by
 unfold dec;split
 ·exact dat_lt w
 ·split
  ·exact dat_lt _
  ·decide
end Go.Proofs.YtanioleniadhoaaGreat.Ecc
