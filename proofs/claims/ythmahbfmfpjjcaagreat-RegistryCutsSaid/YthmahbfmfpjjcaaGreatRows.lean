/-
  No cell of these rows narrows 'for every input' (looked for: loops, veiled, ifaces, maps, wideKeys, modest, calm, conditions, laid).
  DERIVED. THE GIVEN ROWS OF THIS SEAT. 7 by the template 'for every input the law returns true; each argument reads behind the call as it read before'; 0 by the template 'total and deterministic' (their statements: YthmahbfmfpjjcaaGreatTotals.lean).
  GIVEN WITH THE SEED: the statements are not yours to turn. If you find one false, say at which input.
  Laid BY PROGRAM, IN A SANDBOX (cutbox-rows.mjs): the forced cells as the released guide's own fill.sh prints them over the translation 81dfc1279bedef5c… (all of the seat's roots in one cut). By AI agents, Wed Nov 11 2026. No macro, syntax, notation, axiom, sorry.
-/
import Derived.Test.YthmahbfmfpjjcaaGreatChecked
import GoSem.Claim
import GoSem.ClaimJoined
import GoSem.ClaimMapViews
import Derived.JoinedTies
import Derived.KernelRfl
namespace Go.Proofs.YthmahbfmfpjjcaaGreat
/- THE CELL 'sum', in the pinned program and in every row, IS THE sha256 OF THE DUMP (.gsa) THAT YthmahbfmfpjjcaaGreatProg.lean LOADS. Nothing in Lean hashes anything: it is a label: what it is worth is what the hold of that sum in a sandbox is worth. -/
noncomputable def Tryz.pinned : Pinned := { name := "ythmahbfmfpjjcaagreat", sum := "81dfc1279bedef5cd2ca7f1e9120d4c1670087b302b27f0313935cbd47af378c", checked := Tryz.checked }
namespace Rows
def none {H : Type} : Left H := { results := [], args := [] }

/-- 'smartcardlaw26.RegistryChecks': WHATEVER THE INPUT: true; the input reads as it did. -/
def registryChecksSpec : ChangeSpec := { name := "registryChecks", fn := fun _ => fun
  | [d1, d2] => { results := [.lit (.bool true)], args := [d1, d2] }
  | _ => none }
def registryChecksRow : OpenClaim := { program := "ythmahbfmfpjjcaagreat", sum := "81dfc1279bedef5cd2ca7f1e9120d4c1670087b302b27f0313935cbd47af378c", func := "smartcard/smartcardlaw26.RegistryChecks", spec := "registryChecks", inPlace := ["internal/bytealg.Compare", "maps.clone"], unfollowed := true, recurses := true, apart := false }
def RegistryChecksSaid : Prop := registryChecksRow.holds Tryz.pinned (OpenSpec.ofChange registryChecksSpec)

/-- ITS FALSE NEIGHBOUR: 'it returns false'. Refute it at one input. -/
def registryChecksWrong : ChangeSpec := { name := "registryChecks", fn := fun _ => fun
  | [d1, d2] => { results := [.lit (.bool false)], args := [d1, d2] }
  | _ => none }
def RegistryChecksWrongFalsely : Prop := registryChecksRow.holds Tryz.pinned (OpenSpec.ofChange registryChecksWrong)

/-- 'smartcardlaw26.RegistryNobody': WHATEVER THE INPUT: true; the input reads as it did. -/
def registryNobodySpec : ChangeSpec := { name := "registryNobody", fn := fun _ => fun
  | [d1, d2] => { results := [.lit (.bool true)], args := [d1, d2] }
  | _ => none }
def registryNobodyRow : OpenClaim := { program := "ythmahbfmfpjjcaagreat", sum := "81dfc1279bedef5cd2ca7f1e9120d4c1670087b302b27f0313935cbd47af378c", func := "smartcard/smartcardlaw26.RegistryNobody", spec := "registryNobody", inPlace := ["internal/bytealg.Compare", "maps.clone"], unfollowed := true, recurses := true, apart := false }
def RegistryNobodySaid : Prop := registryNobodyRow.holds Tryz.pinned (OpenSpec.ofChange registryNobodySpec)

/-- ITS FALSE NEIGHBOUR: 'it returns false'. Refute it at one input. -/
def registryNobodyWrong : ChangeSpec := { name := "registryNobody", fn := fun _ => fun
  | [d1, d2] => { results := [.lit (.bool false)], args := [d1, d2] }
  | _ => none }
def RegistryNobodyWrongFalsely : Prop := registryNobodyRow.holds Tryz.pinned (OpenSpec.ofChange registryNobodyWrong)

/-- 'smartcardlaw26.RegistryNext': WHATEVER THE INPUT: true; the input reads as it did. -/
def registryNextSpec : ChangeSpec := { name := "registryNext", fn := fun _ => fun
  | [d1, d2, d3] => { results := [.lit (.bool true)], args := [d1, d2, d3] }
  | _ => none }
def registryNextRow : OpenClaim := { program := "ythmahbfmfpjjcaagreat", sum := "81dfc1279bedef5cd2ca7f1e9120d4c1670087b302b27f0313935cbd47af378c", func := "smartcard/smartcardlaw26.RegistryNext", spec := "registryNext", inPlace := ["internal/bytealg.Compare", "maps.clone"], unfollowed := true, recurses := true, apart := false }
def RegistryNextSaid : Prop := registryNextRow.holds Tryz.pinned (OpenSpec.ofChange registryNextSpec)

/-- ITS FALSE NEIGHBOUR: 'it returns false'. Refute it at one input. -/
def registryNextWrong : ChangeSpec := { name := "registryNext", fn := fun _ => fun
  | [d1, d2, d3] => { results := [.lit (.bool false)], args := [d1, d2, d3] }
  | _ => none }
def RegistryNextWrongFalsely : Prop := registryNextRow.holds Tryz.pinned (OpenSpec.ofChange registryNextWrong)

/-- 'smartcardlaw26.RegistryConsistent': WHATEVER THE INPUT: true; the input reads as it did. -/
def registryConsistentSpec : ChangeSpec := { name := "registryConsistent", fn := fun _ => fun
  | [d] => { results := [.lit (.bool true)], args := [d] }
  | _ => none }
def registryConsistentRow : OpenClaim := { program := "ythmahbfmfpjjcaagreat", sum := "81dfc1279bedef5cd2ca7f1e9120d4c1670087b302b27f0313935cbd47af378c", func := "smartcard/smartcardlaw26.RegistryConsistent", spec := "registryConsistent", inPlace := ["internal/bytealg.Compare", "maps.clone"], unfollowed := true, recurses := true, apart := false }
def RegistryConsistentSaid : Prop := registryConsistentRow.holds Tryz.pinned (OpenSpec.ofChange registryConsistentSpec)

/-- ITS FALSE NEIGHBOUR: 'it returns false'. Refute it at one input. -/
def registryConsistentWrong : ChangeSpec := { name := "registryConsistent", fn := fun _ => fun
  | [d] => { results := [.lit (.bool false)], args := [d] }
  | _ => none }
def RegistryConsistentWrongFalsely : Prop := registryConsistentRow.holds Tryz.pinned (OpenSpec.ofChange registryConsistentWrong)

/-- 'smartcardlaw26.RegistryLocks': WHATEVER THE INPUT: true; the input reads as it did. -/
def registryLocksSpec : ChangeSpec := { name := "registryLocks", fn := fun _ => fun
  | [d1, d2] => { results := [.lit (.bool true)], args := [d1, d2] }
  | _ => none }
def registryLocksRow : OpenClaim := { program := "ythmahbfmfpjjcaagreat", sum := "81dfc1279bedef5cd2ca7f1e9120d4c1670087b302b27f0313935cbd47af378c", func := "smartcard/smartcardlaw26.RegistryLocks", spec := "registryLocks", inPlace := ["internal/bytealg.Compare", "maps.clone"], unfollowed := true, recurses := true, apart := false }
def RegistryLocksSaid : Prop := registryLocksRow.holds Tryz.pinned (OpenSpec.ofChange registryLocksSpec)

/-- ITS FALSE NEIGHBOUR: 'it returns false'. Refute it at one input. -/
def registryLocksWrong : ChangeSpec := { name := "registryLocks", fn := fun _ => fun
  | [d1, d2] => { results := [.lit (.bool false)], args := [d1, d2] }
  | _ => none }
def RegistryLocksWrongFalsely : Prop := registryLocksRow.holds Tryz.pinned (OpenSpec.ofChange registryLocksWrong)

/-- 'smartcardlaw26.RegistryPlays': WHATEVER THE INPUT: true; the input reads as it did. -/
def registryPlaysSpec : ChangeSpec := { name := "registryPlays", fn := fun _ => fun
  | [d] => { results := [.lit (.bool true)], args := [d] }
  | _ => none }
def registryPlaysRow : OpenClaim := { program := "ythmahbfmfpjjcaagreat", sum := "81dfc1279bedef5cd2ca7f1e9120d4c1670087b302b27f0313935cbd47af378c", func := "smartcard/smartcardlaw26.RegistryPlays", spec := "registryPlays", inPlace := ["internal/bytealg.Compare", "maps.clone"], unfollowed := true, recurses := true, apart := false }
def RegistryPlaysSaid : Prop := registryPlaysRow.holds Tryz.pinned (OpenSpec.ofChange registryPlaysSpec)

/-- ITS FALSE NEIGHBOUR: 'it returns false'. Refute it at one input. -/
def registryPlaysWrong : ChangeSpec := { name := "registryPlays", fn := fun _ => fun
  | [d] => { results := [.lit (.bool false)], args := [d] }
  | _ => none }
def RegistryPlaysWrongFalsely : Prop := registryPlaysRow.holds Tryz.pinned (OpenSpec.ofChange registryPlaysWrong)

/-- 'smartcardlaw26.RegistryCuts': WHATEVER THE INPUT: true; the input reads as it did. -/
def registryCutsSpec : ChangeSpec := { name := "registryCuts", fn := fun _ => fun
  | [d1, d2, d3] => { results := [.lit (.bool true)], args := [d1, d2, d3] }
  | _ => none }
def registryCutsRow : OpenClaim := { program := "ythmahbfmfpjjcaagreat", sum := "81dfc1279bedef5cd2ca7f1e9120d4c1670087b302b27f0313935cbd47af378c", func := "smartcard/smartcardlaw26.RegistryCuts", spec := "registryCuts", inPlace := ["internal/bytealg.Compare", "maps.clone"], unfollowed := true, recurses := true, apart := false }
def RegistryCutsSaid : Prop := registryCutsRow.holds Tryz.pinned (OpenSpec.ofChange registryCutsSpec)

/-- ITS FALSE NEIGHBOUR: 'it returns false'. Refute it at one input. -/
def registryCutsWrong : ChangeSpec := { name := "registryCuts", fn := fun _ => fun
  | [d1, d2, d3] => { results := [.lit (.bool false)], args := [d1, d2, d3] }
  | _ => none }
def RegistryCutsWrongFalsely : Prop := registryCutsRow.holds Tryz.pinned (OpenSpec.ofChange registryCutsWrong)

/- THE SECOND FORM. 'bulk': how many values and letters a reading holds, each counted each time it is reached (what is shared counts as often as it is met; a slice's spare places count too). A statement '..UptoSaid' is the law's where the arguments, and the package variables that the reading takes, are together of bulk at most 1048576: NARROWER than '..Said'. Prove '..Said' where nothing that the law and all that it calls make is longer than what came in: it says more and counts as full. Else prove '..UptoSaid'. A law counts once. -/
mutual
def uptoBulk {H : Type} : DataW H → Nat
  | .lit (.string bytes) => bytes.length + 1
  | .lit _ => 1
  | .nil => 1
  | .ptr d => uptoBulk d + 1
  | .slice elems spare => uptoBulkAll elems + uptoBulkAll spare + 1
  | .agg parts => uptoBulkAll parts + 1
  | .iface _ d => uptoBulk d + 1
  | .map entries => uptoBulkEntries entries + 1
  | .held _ => 1
def uptoBulkAll {H : Type} : List (DataW H) → Nat
  | [] => 0
  | d :: r => uptoBulk d + uptoBulkAll r
def uptoBulkEntries {H : Type} : List (Lit × DataW H) → Nat
  | [] => 0
  | x :: r => uptoBulkEntry x + uptoBulkEntries r
def uptoBulkEntry {H : Type} : Lit × DataW H → Nat
  | (.string bytes, d) => bytes.length + uptoBulk d + 1
  | (_, d) => uptoBulk d + 1
 end
def uptoSmall : (H : Type) → List (DataW H) → Bool := fun _ ds => decide (uptoBulkAll ds ≤ 1048576)
def OpenSpec.upto (s : _root_.Go.ChangeSpec) : _root_.Go.OpenSpec := { _root_.Go.OpenSpec.ofChange s with cond := some uptoSmall }

/-- 'smartcardlaw26.RegistryChecks', WHERE WHAT IT READS IS OF BULK AT MOST 1048576: true; the input reads as it did. -/
def registryChecksUptoRow : OpenClaim := { program := "ythmahbfmfpjjcaagreat", sum := "81dfc1279bedef5cd2ca7f1e9120d4c1670087b302b27f0313935cbd47af378c", func := "smartcard/smartcardlaw26.RegistryChecks", spec := "registryChecks", inPlace := ["internal/bytealg.Compare", "maps.clone"], unfollowed := true, recurses := true, apart := false, narrowed := true }
def RegistryChecksUptoSaid : Prop := registryChecksUptoRow.holds Tryz.pinned (OpenSpec.upto registryChecksSpec)

/-- 'smartcardlaw26.RegistryNobody', WHERE WHAT IT READS IS OF BULK AT MOST 1048576: true; the input reads as it did. -/
def registryNobodyUptoRow : OpenClaim := { program := "ythmahbfmfpjjcaagreat", sum := "81dfc1279bedef5cd2ca7f1e9120d4c1670087b302b27f0313935cbd47af378c", func := "smartcard/smartcardlaw26.RegistryNobody", spec := "registryNobody", inPlace := ["internal/bytealg.Compare", "maps.clone"], unfollowed := true, recurses := true, apart := false, narrowed := true }
def RegistryNobodyUptoSaid : Prop := registryNobodyUptoRow.holds Tryz.pinned (OpenSpec.upto registryNobodySpec)

/-- 'smartcardlaw26.RegistryNext', WHERE WHAT IT READS IS OF BULK AT MOST 1048576: true; the input reads as it did. -/
def registryNextUptoRow : OpenClaim := { program := "ythmahbfmfpjjcaagreat", sum := "81dfc1279bedef5cd2ca7f1e9120d4c1670087b302b27f0313935cbd47af378c", func := "smartcard/smartcardlaw26.RegistryNext", spec := "registryNext", inPlace := ["internal/bytealg.Compare", "maps.clone"], unfollowed := true, recurses := true, apart := false, narrowed := true }
def RegistryNextUptoSaid : Prop := registryNextUptoRow.holds Tryz.pinned (OpenSpec.upto registryNextSpec)

/-- 'smartcardlaw26.RegistryConsistent', WHERE WHAT IT READS IS OF BULK AT MOST 1048576: true; the input reads as it did. -/
def registryConsistentUptoRow : OpenClaim := { program := "ythmahbfmfpjjcaagreat", sum := "81dfc1279bedef5cd2ca7f1e9120d4c1670087b302b27f0313935cbd47af378c", func := "smartcard/smartcardlaw26.RegistryConsistent", spec := "registryConsistent", inPlace := ["internal/bytealg.Compare", "maps.clone"], unfollowed := true, recurses := true, apart := false, narrowed := true }
def RegistryConsistentUptoSaid : Prop := registryConsistentUptoRow.holds Tryz.pinned (OpenSpec.upto registryConsistentSpec)

/-- 'smartcardlaw26.RegistryLocks', WHERE WHAT IT READS IS OF BULK AT MOST 1048576: true; the input reads as it did. -/
def registryLocksUptoRow : OpenClaim := { program := "ythmahbfmfpjjcaagreat", sum := "81dfc1279bedef5cd2ca7f1e9120d4c1670087b302b27f0313935cbd47af378c", func := "smartcard/smartcardlaw26.RegistryLocks", spec := "registryLocks", inPlace := ["internal/bytealg.Compare", "maps.clone"], unfollowed := true, recurses := true, apart := false, narrowed := true }
def RegistryLocksUptoSaid : Prop := registryLocksUptoRow.holds Tryz.pinned (OpenSpec.upto registryLocksSpec)

/-- 'smartcardlaw26.RegistryPlays', WHERE WHAT IT READS IS OF BULK AT MOST 1048576: true; the input reads as it did. -/
def registryPlaysUptoRow : OpenClaim := { program := "ythmahbfmfpjjcaagreat", sum := "81dfc1279bedef5cd2ca7f1e9120d4c1670087b302b27f0313935cbd47af378c", func := "smartcard/smartcardlaw26.RegistryPlays", spec := "registryPlays", inPlace := ["internal/bytealg.Compare", "maps.clone"], unfollowed := true, recurses := true, apart := false, narrowed := true }
def RegistryPlaysUptoSaid : Prop := registryPlaysUptoRow.holds Tryz.pinned (OpenSpec.upto registryPlaysSpec)

/-- 'smartcardlaw26.RegistryCuts', WHERE WHAT IT READS IS OF BULK AT MOST 1048576: true; the input reads as it did. -/
def registryCutsUptoRow : OpenClaim := { program := "ythmahbfmfpjjcaagreat", sum := "81dfc1279bedef5cd2ca7f1e9120d4c1670087b302b27f0313935cbd47af378c", func := "smartcard/smartcardlaw26.RegistryCuts", spec := "registryCuts", inPlace := ["internal/bytealg.Compare", "maps.clone"], unfollowed := true, recurses := true, apart := false, narrowed := true }
def RegistryCutsUptoSaid : Prop := registryCutsUptoRow.holds Tryz.pinned (OpenSpec.upto registryCutsSpec)

end Rows
end Go.Proofs.YthmahbfmfpjjcaaGreat
