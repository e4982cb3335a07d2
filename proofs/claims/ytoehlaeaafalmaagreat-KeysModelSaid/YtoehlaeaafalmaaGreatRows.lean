/-
  No cell of these rows narrows 'for every input' (looked for: loops, veiled, ifaces, maps, wideKeys, modest, calm, conditions, laid).
  DERIVED. THE GIVEN ROWS OF THIS SEAT. 5 by the template 'for every input the law returns true; each argument reads behind the call as it read before'; 0 by the template 'total and deterministic' (their statements: YtoehlaeaafalmaaGreatTotals.lean).
  GIVEN WITH THE SEED: the statements are not yours to turn. If you find one false, say at which input.
  Laid BY PROGRAM, IN A SANDBOX (cutbox-rows.mjs): the forced cells as the released guide's own fill.sh prints them over the translation bab207bea5c4aa1f… (all of the seat's roots in one cut). By AI agents, Wed Nov 11 2026. No macro, syntax, notation, axiom, sorry.
-/
import Derived.Test.YtoehlaeaafalmaaGreatChecked
import GoSem.Claim
import GoSem.ClaimJoined
import GoSem.ClaimMapViews
import Derived.JoinedTies
import Derived.KernelRfl
namespace Go.Proofs.YtoehlaeaafalmaaGreat
/- THE CELL 'sum', in the pinned program and in every row, IS THE sha256 OF THE DUMP (.gsa) THAT YtoehlaeaafalmaaGreatProg.lean LOADS. Nothing in Lean hashes anything: it is a label: what it is worth is what the hold of that sum in a sandbox is worth. -/
noncomputable def Tryz.pinned : Pinned := { name := "ytoehlaeaafalmaagreat", sum := "bab207bea5c4aa1f912aef4d6ba0e49aefb00fbb21f21301354aaadcd5b9d6cb", checked := Tryz.checked }
namespace Rows
def none {H : Type} : Left H := { results := [], args := [] }

/-- 'smartcardlaw22.KeysModel': WHATEVER THE INPUT: true; the input reads as it did. -/
def keysModelSpec : ChangeSpec := { name := "keysModel", fn := fun _ => fun
  | [d] => { results := [.lit (.bool true)], args := [d] }
  | _ => none }
def keysModelRow : OpenClaim := { program := "ytoehlaeaafalmaagreat", sum := "bab207bea5c4aa1f912aef4d6ba0e49aefb00fbb21f21301354aaadcd5b9d6cb", func := "smartcard/smartcardlaw22.KeysModel", spec := "keysModel", inPlace := ["maps.clone"], unfollowed := true, recurses := true, plainKeys := false, apart := false }
def KeysModelSaid : Prop := keysModelRow.holds Tryz.pinned (OpenSpec.ofChange keysModelSpec)

/-- ITS FALSE NEIGHBOUR: 'it returns false'. Refute it at one input. -/
def keysModelWrong : ChangeSpec := { name := "keysModel", fn := fun _ => fun
  | [d] => { results := [.lit (.bool false)], args := [d] }
  | _ => none }
def KeysModelWrongFalsely : Prop := keysModelRow.holds Tryz.pinned (OpenSpec.ofChange keysModelWrong)

/-- 'smartcardlaw22.KeysAborts': WHATEVER THE INPUT: true; the input reads as it did. -/
def keysAbortsSpec : ChangeSpec := { name := "keysAborts", fn := fun _ => fun
  | [d1, d2, d3, d4] => { results := [.lit (.bool true)], args := [d1, d2, d3, d4] }
  | _ => none }
def keysAbortsRow : OpenClaim := { program := "ytoehlaeaafalmaagreat", sum := "bab207bea5c4aa1f912aef4d6ba0e49aefb00fbb21f21301354aaadcd5b9d6cb", func := "smartcard/smartcardlaw22.KeysAborts", spec := "keysAborts", inPlace := ["maps.clone"], unfollowed := true, recurses := true, plainKeys := false, apart := false }
def KeysAbortsSaid : Prop := keysAbortsRow.holds Tryz.pinned (OpenSpec.ofChange keysAbortsSpec)

/-- ITS FALSE NEIGHBOUR: 'it returns false'. Refute it at one input. -/
def keysAbortsWrong : ChangeSpec := { name := "keysAborts", fn := fun _ => fun
  | [d1, d2, d3, d4] => { results := [.lit (.bool false)], args := [d1, d2, d3, d4] }
  | _ => none }
def KeysAbortsWrongFalsely : Prop := keysAbortsRow.holds Tryz.pinned (OpenSpec.ofChange keysAbortsWrong)

/-- 'smartcardlaw22.KeysNil': WHATEVER THE INPUT: true; the input reads as it did. -/
def keysNilSpec : ChangeSpec := { name := "keysNil", fn := fun _ => fun
  | [d] => { results := [.lit (.bool true)], args := [d] }
  | _ => none }
def keysNilRow : OpenClaim := { program := "ytoehlaeaafalmaagreat", sum := "bab207bea5c4aa1f912aef4d6ba0e49aefb00fbb21f21301354aaadcd5b9d6cb", func := "smartcard/smartcardlaw22.KeysNil", spec := "keysNil", inPlace := ["maps.clone"], unfollowed := true, recurses := true, plainKeys := false, apart := false }
def KeysNilSaid : Prop := keysNilRow.holds Tryz.pinned (OpenSpec.ofChange keysNilSpec)

/-- ITS FALSE NEIGHBOUR: 'it returns false'. Refute it at one input. -/
def keysNilWrong : ChangeSpec := { name := "keysNil", fn := fun _ => fun
  | [d] => { results := [.lit (.bool false)], args := [d] }
  | _ => none }
def KeysNilWrongFalsely : Prop := keysNilRow.holds Tryz.pinned (OpenSpec.ofChange keysNilWrong)

/-- 'smartcardlaw22.KeysAtomic': WHATEVER THE INPUT: true; the input reads as it did. -/
def keysAtomicSpec : ChangeSpec := { name := "keysAtomic", fn := fun _ => fun
  | [d1, d2] => { results := [.lit (.bool true)], args := [d1, d2] }
  | _ => none }
def keysAtomicRow : OpenClaim := { program := "ytoehlaeaafalmaagreat", sum := "bab207bea5c4aa1f912aef4d6ba0e49aefb00fbb21f21301354aaadcd5b9d6cb", func := "smartcard/smartcardlaw22.KeysAtomic", spec := "keysAtomic", inPlace := ["maps.clone"], unfollowed := true, recurses := true, plainKeys := false, apart := false }
def KeysAtomicSaid : Prop := keysAtomicRow.holds Tryz.pinned (OpenSpec.ofChange keysAtomicSpec)

/-- ITS FALSE NEIGHBOUR: 'it returns false'. Refute it at one input. -/
def keysAtomicWrong : ChangeSpec := { name := "keysAtomic", fn := fun _ => fun
  | [d1, d2] => { results := [.lit (.bool false)], args := [d1, d2] }
  | _ => none }
def KeysAtomicWrongFalsely : Prop := keysAtomicRow.holds Tryz.pinned (OpenSpec.ofChange keysAtomicWrong)

/-- 'smartcardlaw22.KeysMaster': WHATEVER THE INPUT: true; the input reads as it did. -/
def keysMasterSpec : ChangeSpec := { name := "keysMaster", fn := fun _ => fun
  | [d1, d2] => { results := [.lit (.bool true)], args := [d1, d2] }
  | _ => none }
def keysMasterRow : OpenClaim := { program := "ytoehlaeaafalmaagreat", sum := "bab207bea5c4aa1f912aef4d6ba0e49aefb00fbb21f21301354aaadcd5b9d6cb", func := "smartcard/smartcardlaw22.KeysMaster", spec := "keysMaster", inPlace := ["maps.clone"], unfollowed := true, recurses := true, plainKeys := false, apart := false }
def KeysMasterSaid : Prop := keysMasterRow.holds Tryz.pinned (OpenSpec.ofChange keysMasterSpec)

/-- ITS FALSE NEIGHBOUR: 'it returns false'. Refute it at one input. -/
def keysMasterWrong : ChangeSpec := { name := "keysMaster", fn := fun _ => fun
  | [d1, d2] => { results := [.lit (.bool false)], args := [d1, d2] }
  | _ => none }
def KeysMasterWrongFalsely : Prop := keysMasterRow.holds Tryz.pinned (OpenSpec.ofChange keysMasterWrong)

/- THE SECOND FORM. 'bulk': how many values and letters a reading holds, each counted each time it is reached (what is shared counts as often as it is met; a slice's spare places count too). A statement '..UptoSaid' is the law's where the arguments, and the package variables that the reading takes, are together of bulk at most 1048576: NARROWER than '..Said'. Prove '..Said' where nothing that the law and all that it calls make is longer than what came in: it says more and counts as full. Else prove '..UptoSaid'. A law counts once. -/
mutual
def uptoBulk {H : Type} : DataW H → Nat
  | .lit (.string bytes) => bytes.length + 1
  | .lit _ => 1
  | .nil => 1
  | .ptr d => uptoBulk d + 1
  | .slice elems spare => uptoBulkAll elems + uptoBulkAll spare + 1
  | .agg parts => uptoBulkAll parts + 1
  | .iface _ d => uptoBulk d + 1
  | .map entries => uptoBulkEntries entries + 1
  | .held _ => 1
def uptoBulkAll {H : Type} : List (DataW H) → Nat
  | [] => 0
  | d :: r => uptoBulk d + uptoBulkAll r
def uptoBulkEntries {H : Type} : List (Lit × DataW H) → Nat
  | [] => 0
  | x :: r => uptoBulkEntry x + uptoBulkEntries r
def uptoBulkEntry {H : Type} : Lit × DataW H → Nat
  | (.string bytes, d) => bytes.length + uptoBulk d + 1
  | (_, d) => uptoBulk d + 1
 end
def uptoSmall : (H : Type) → List (DataW H) → Bool := fun _ ds => decide (uptoBulkAll ds ≤ 1048576)
def OpenSpec.upto (s : _root_.Go.ChangeSpec) : _root_.Go.OpenSpec := { _root_.Go.OpenSpec.ofChange s with cond := some uptoSmall }

/-- 'smartcardlaw22.KeysModel', WHERE WHAT IT READS IS OF BULK AT MOST 1048576: true; the input reads as it did. -/
def keysModelUptoRow : OpenClaim := { program := "ytoehlaeaafalmaagreat", sum := "bab207bea5c4aa1f912aef4d6ba0e49aefb00fbb21f21301354aaadcd5b9d6cb", func := "smartcard/smartcardlaw22.KeysModel", spec := "keysModel", inPlace := ["maps.clone"], unfollowed := true, recurses := true, plainKeys := false, apart := false, narrowed := true }
def KeysModelUptoSaid : Prop := keysModelUptoRow.holds Tryz.pinned (OpenSpec.upto keysModelSpec)

/-- 'smartcardlaw22.KeysAborts', WHERE WHAT IT READS IS OF BULK AT MOST 1048576: true; the input reads as it did. -/
def keysAbortsUptoRow : OpenClaim := { program := "ytoehlaeaafalmaagreat", sum := "bab207bea5c4aa1f912aef4d6ba0e49aefb00fbb21f21301354aaadcd5b9d6cb", func := "smartcard/smartcardlaw22.KeysAborts", spec := "keysAborts", inPlace := ["maps.clone"], unfollowed := true, recurses := true, plainKeys := false, apart := false, narrowed := true }
def KeysAbortsUptoSaid : Prop := keysAbortsUptoRow.holds Tryz.pinned (OpenSpec.upto keysAbortsSpec)

/-- 'smartcardlaw22.KeysNil', WHERE WHAT IT READS IS OF BULK AT MOST 1048576: true; the input reads as it did. -/
def keysNilUptoRow : OpenClaim := { program := "ytoehlaeaafalmaagreat", sum := "bab207bea5c4aa1f912aef4d6ba0e49aefb00fbb21f21301354aaadcd5b9d6cb", func := "smartcard/smartcardlaw22.KeysNil", spec := "keysNil", inPlace := ["maps.clone"], unfollowed := true, recurses := true, plainKeys := false, apart := false, narrowed := true }
def KeysNilUptoSaid : Prop := keysNilUptoRow.holds Tryz.pinned (OpenSpec.upto keysNilSpec)

/-- 'smartcardlaw22.KeysAtomic', WHERE WHAT IT READS IS OF BULK AT MOST 1048576: true; the input reads as it did. -/
def keysAtomicUptoRow : OpenClaim := { program := "ytoehlaeaafalmaagreat", sum := "bab207bea5c4aa1f912aef4d6ba0e49aefb00fbb21f21301354aaadcd5b9d6cb", func := "smartcard/smartcardlaw22.KeysAtomic", spec := "keysAtomic", inPlace := ["maps.clone"], unfollowed := true, recurses := true, plainKeys := false, apart := false, narrowed := true }
def KeysAtomicUptoSaid : Prop := keysAtomicUptoRow.holds Tryz.pinned (OpenSpec.upto keysAtomicSpec)

/-- 'smartcardlaw22.KeysMaster', WHERE WHAT IT READS IS OF BULK AT MOST 1048576: true; the input reads as it did. -/
def keysMasterUptoRow : OpenClaim := { program := "ytoehlaeaafalmaagreat", sum := "bab207bea5c4aa1f912aef4d6ba0e49aefb00fbb21f21301354aaadcd5b9d6cb", func := "smartcard/smartcardlaw22.KeysMaster", spec := "keysMaster", inPlace := ["maps.clone"], unfollowed := true, recurses := true, plainKeys := false, apart := false, narrowed := true }
def KeysMasterUptoSaid : Prop := keysMasterUptoRow.holds Tryz.pinned (OpenSpec.upto keysMasterSpec)

end Rows
end Go.Proofs.YtoehlaeaafalmaaGreat
