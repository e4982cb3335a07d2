/-
  No cell of these rows narrows 'for every input' (looked for: loops, veiled, ifaces, maps, wideKeys, modest, calm, conditions, laid).
  DERIVED. THE GIVEN ROWS OF THIS SEAT. 4 by the template 'for every input the law returns true; each argument reads behind the call as it read before'; 0 by the template 'total and deterministic' (their statements: YtjanpegbemepgaaGreatTotals.lean).
  GIVEN WITH THE SEED: the statements are not yours to turn. If you find one false, say at which input.
  Laid BY PROGRAM, IN A SANDBOX (cutbox-rows.mjs): the forced cells as the released guide's own fill.sh prints them over the translation d7721dcc28ead62c… (all of the seat's roots in one cut). By AI agents, Wed Nov 11 2026. No macro, syntax, notation, axiom, sorry.
-/
import Derived.Test.YtjanpegbemepgaaGreatChecked
import GoSem.Claim
import GoSem.ClaimJoined
import GoSem.ClaimMapViews
import Derived.JoinedTies
import Derived.KernelRfl
namespace Go.Proofs.YtjanpegbemepgaaGreat
/- THE CELL 'sum', in the pinned program and in every row, IS THE sha256 OF THE DUMP (.gsa) THAT YtjanpegbemepgaaGreatProg.lean LOADS. Nothing in Lean hashes anything: it is a label: what it is worth is what the hold of that sum in a sandbox is worth. -/
noncomputable def Tryz.pinned : Pinned := { name := "ytjanpegbemepgaagreat", sum := "d7721dcc28ead62c72110ef96d313ab716a23adcf4f30a611b96dd70e8a8d147", checked := Tryz.checked }
namespace Rows
def none {H : Type} : Left H := { results := [], args := [] }

/-- 'smartcardlaw21.PinNeverExtra': WHATEVER THE INPUT: true; the input reads as it did. -/
def pinNeverExtraSpec : ChangeSpec := { name := "pinNeverExtra", fn := fun _ => fun
  | [d1, d2, d3] => { results := [.lit (.bool true)], args := [d1, d2, d3] }
  | _ => none }
def pinNeverExtraRow : OpenClaim := { program := "ytjanpegbemepgaagreat", sum := "d7721dcc28ead62c72110ef96d313ab716a23adcf4f30a611b96dd70e8a8d147", func := "smartcard/smartcardlaw21.PinNeverExtra", spec := "pinNeverExtra", inPlace := ["maps.clone"], unfollowed := true, recurses := true, apart := false }
def PinNeverExtraSaid : Prop := pinNeverExtraRow.holds Tryz.pinned (OpenSpec.ofChange pinNeverExtraSpec)

/-- ITS FALSE NEIGHBOUR: 'it returns false'. Refute it at one input. -/
def pinNeverExtraWrong : ChangeSpec := { name := "pinNeverExtra", fn := fun _ => fun
  | [d1, d2, d3] => { results := [.lit (.bool false)], args := [d1, d2, d3] }
  | _ => none }
def PinNeverExtraWrongFalsely : Prop := pinNeverExtraRow.holds Tryz.pinned (OpenSpec.ofChange pinNeverExtraWrong)

/-- 'smartcardlaw21.PinModel': WHATEVER THE INPUT: true; the input reads as it did. -/
def pinModelSpec : ChangeSpec := { name := "pinModel", fn := fun _ => fun
  | [d] => { results := [.lit (.bool true)], args := [d] }
  | _ => none }
def pinModelRow : OpenClaim := { program := "ytjanpegbemepgaagreat", sum := "d7721dcc28ead62c72110ef96d313ab716a23adcf4f30a611b96dd70e8a8d147", func := "smartcard/smartcardlaw21.PinModel", spec := "pinModel", inPlace := ["maps.clone"], unfollowed := true, recurses := true, apart := false }
def PinModelSaid : Prop := pinModelRow.holds Tryz.pinned (OpenSpec.ofChange pinModelSpec)

/-- ITS FALSE NEIGHBOUR: 'it returns false'. Refute it at one input. -/
def pinModelWrong : ChangeSpec := { name := "pinModel", fn := fun _ => fun
  | [d] => { results := [.lit (.bool false)], args := [d] }
  | _ => none }
def PinModelWrongFalsely : Prop := pinModelRow.holds Tryz.pinned (OpenSpec.ofChange pinModelWrong)

/-- 'smartcardlaw21.PinNil': WHATEVER THE INPUT: true; the input reads as it did. -/
def pinNilSpec : ChangeSpec := { name := "pinNil", fn := fun _ => fun
  | [d1, d2, d3] => { results := [.lit (.bool true)], args := [d1, d2, d3] }
  | _ => none }
def pinNilRow : OpenClaim := { program := "ytjanpegbemepgaagreat", sum := "d7721dcc28ead62c72110ef96d313ab716a23adcf4f30a611b96dd70e8a8d147", func := "smartcard/smartcardlaw21.PinNil", spec := "pinNil", inPlace := ["maps.clone"], unfollowed := true, recurses := true, apart := false }
def PinNilSaid : Prop := pinNilRow.holds Tryz.pinned (OpenSpec.ofChange pinNilSpec)

/-- ITS FALSE NEIGHBOUR: 'it returns false'. Refute it at one input. -/
def pinNilWrong : ChangeSpec := { name := "pinNil", fn := fun _ => fun
  | [d1, d2, d3] => { results := [.lit (.bool false)], args := [d1, d2, d3] }
  | _ => none }
def PinNilWrongFalsely : Prop := pinNilRow.holds Tryz.pinned (OpenSpec.ofChange pinNilWrong)

/-- 'smartcardlaw21.PinTears': WHATEVER THE INPUT: true; the input reads as it did. -/
def pinTearsSpec : ChangeSpec := { name := "pinTears", fn := fun _ => fun
  | [d1, d2, d3] => { results := [.lit (.bool true)], args := [d1, d2, d3] }
  | _ => none }
def pinTearsRow : OpenClaim := { program := "ytjanpegbemepgaagreat", sum := "d7721dcc28ead62c72110ef96d313ab716a23adcf4f30a611b96dd70e8a8d147", func := "smartcard/smartcardlaw21.PinTears", spec := "pinTears", inPlace := ["maps.clone"], unfollowed := true, recurses := true, apart := false }
def PinTearsSaid : Prop := pinTearsRow.holds Tryz.pinned (OpenSpec.ofChange pinTearsSpec)

/-- ITS FALSE NEIGHBOUR: 'it returns false'. Refute it at one input. -/
def pinTearsWrong : ChangeSpec := { name := "pinTears", fn := fun _ => fun
  | [d1, d2, d3] => { results := [.lit (.bool false)], args := [d1, d2, d3] }
  | _ => none }
def PinTearsWrongFalsely : Prop := pinTearsRow.holds Tryz.pinned (OpenSpec.ofChange pinTearsWrong)

/- THE SECOND FORM. 'bulk': how many values and letters a reading holds, each counted each time it is reached (what is shared counts as often as it is met; a slice's spare places count too). A statement '..UptoSaid' is the law's where the arguments, and the package variables that the reading takes, are together of bulk at most 1048576: NARROWER than '..Said'. Prove '..Said' where nothing that the law and all that it calls make is longer than what came in: it says more and counts as full. Else prove '..UptoSaid'. A law counts once. -/
mutual
def uptoBulk {H : Type} : DataW H → Nat
  | .lit (.string bytes) => bytes.length + 1
  | .lit _ => 1
  | .nil => 1
  | .ptr d => uptoBulk d + 1
  | .slice elems spare => uptoBulkAll elems + uptoBulkAll spare + 1
  | .agg parts => uptoBulkAll parts + 1
  | .iface _ d => uptoBulk d + 1
  | .map entries => uptoBulkEntries entries + 1
  | .held _ => 1
def uptoBulkAll {H : Type} : List (DataW H) → Nat
  | [] => 0
  | d :: r => uptoBulk d + uptoBulkAll r
def uptoBulkEntries {H : Type} : List (Lit × DataW H) → Nat
  | [] => 0
  | x :: r => uptoBulkEntry x + uptoBulkEntries r
def uptoBulkEntry {H : Type} : Lit × DataW H → Nat
  | (.string bytes, d) => bytes.length + uptoBulk d + 1
  | (_, d) => uptoBulk d + 1
 end
def uptoSmall : (H : Type) → List (DataW H) → Bool := fun _ ds => decide (uptoBulkAll ds ≤ 1048576)
def OpenSpec.upto (s : _root_.Go.ChangeSpec) : _root_.Go.OpenSpec := { _root_.Go.OpenSpec.ofChange s with cond := some uptoSmall }

/-- 'smartcardlaw21.PinNeverExtra', WHERE WHAT IT READS IS OF BULK AT MOST 1048576: true; the input reads as it did. -/
def pinNeverExtraUptoRow : OpenClaim := { program := "ytjanpegbemepgaagreat", sum := "d7721dcc28ead62c72110ef96d313ab716a23adcf4f30a611b96dd70e8a8d147", func := "smartcard/smartcardlaw21.PinNeverExtra", spec := "pinNeverExtra", inPlace := ["maps.clone"], unfollowed := true, recurses := true, apart := false, narrowed := true }
def PinNeverExtraUptoSaid : Prop := pinNeverExtraUptoRow.holds Tryz.pinned (OpenSpec.upto pinNeverExtraSpec)

/-- 'smartcardlaw21.PinModel', WHERE WHAT IT READS IS OF BULK AT MOST 1048576: true; the input reads as it did. -/
def pinModelUptoRow : OpenClaim := { program := "ytjanpegbemepgaagreat", sum := "d7721dcc28ead62c72110ef96d313ab716a23adcf4f30a611b96dd70e8a8d147", func := "smartcard/smartcardlaw21.PinModel", spec := "pinModel", inPlace := ["maps.clone"], unfollowed := true, recurses := true, apart := false, narrowed := true }
def PinModelUptoSaid : Prop := pinModelUptoRow.holds Tryz.pinned (OpenSpec.upto pinModelSpec)

/-- 'smartcardlaw21.PinNil', WHERE WHAT IT READS IS OF BULK AT MOST 1048576: true; the input reads as it did. -/
def pinNilUptoRow : OpenClaim := { program := "ytjanpegbemepgaagreat", sum := "d7721dcc28ead62c72110ef96d313ab716a23adcf4f30a611b96dd70e8a8d147", func := "smartcard/smartcardlaw21.PinNil", spec := "pinNil", inPlace := ["maps.clone"], unfollowed := true, recurses := true, apart := false, narrowed := true }
def PinNilUptoSaid : Prop := pinNilUptoRow.holds Tryz.pinned (OpenSpec.upto pinNilSpec)

/-- 'smartcardlaw21.PinTears', WHERE WHAT IT READS IS OF BULK AT MOST 1048576: true; the input reads as it did. -/
def pinTearsUptoRow : OpenClaim := { program := "ytjanpegbemepgaagreat", sum := "d7721dcc28ead62c72110ef96d313ab716a23adcf4f30a611b96dd70e8a8d147", func := "smartcard/smartcardlaw21.PinTears", spec := "pinTears", inPlace := ["maps.clone"], unfollowed := true, recurses := true, apart := false, narrowed := true }
def PinTearsUptoSaid : Prop := pinTearsUptoRow.holds Tryz.pinned (OpenSpec.upto pinTearsSpec)

end Rows
end Go.Proofs.YtjanpegbemepgaaGreat
