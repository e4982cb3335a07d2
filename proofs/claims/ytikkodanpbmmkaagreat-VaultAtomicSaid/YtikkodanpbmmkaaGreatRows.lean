/-
  No cell of these rows narrows 'for every input' (looked for: loops, veiled, ifaces, maps, wideKeys, modest, calm, conditions, laid).
  DERIVED. THE GIVEN ROWS OF THIS SEAT. 13 by the template 'for every input the law returns true; each argument reads behind the call as it read before'; 0 by the template 'total and deterministic' (their statements: YtikkodanpbmmkaaGreatTotals.lean).
  GIVEN WITH THE SEED: the statements are not yours to turn. If you find one false, say at which input.
  Laid BY PROGRAM, IN A SANDBOX (cutbox-rows.mjs): the forced cells as the released guide's own fill.sh prints them over the translation 0c9d66e2e924d5b7… (all of the seat's roots in one cut). By AI agents, Wed Nov 11 2026. No macro, syntax, notation, axiom, sorry.
-/
import Derived.Test.YtikkodanpbmmkaaGreatChecked
import GoSem.Claim
import GoSem.ClaimJoined
import GoSem.ClaimMapViews
import Derived.JoinedTies
import Derived.KernelRfl
namespace Go.Proofs.YtikkodanpbmmkaaGreat
/- THE CELL 'sum', in the pinned program and in every row, IS THE sha256 OF THE DUMP (.gsa) THAT YtikkodanpbmmkaaGreatProg.lean LOADS. Nothing in Lean hashes anything: it is a label: what it is worth is what the hold of that sum in a sandbox is worth. -/
noncomputable def Tryz.pinned : Pinned := { name := "ytikkodanpbmmkaagreat", sum := "0c9d66e2e924d5b7d3dbb84d73395d30f87f82a93edd67400b639fa4a741c654", checked := Tryz.checked }
namespace Rows
def none {H : Type} : Left H := { results := [], args := [] }

/-- 'smartcardlaw25.LifecycleBytes': WHATEVER THE INPUT: true; the input reads as it did. -/
def lifecycleBytesSpec : ChangeSpec := { name := "lifecycleBytes", fn := fun _ => fun
  | [d1, d2] => { results := [.lit (.bool true)], args := [d1, d2] }
  | _ => none }
def lifecycleBytesRow : OpenClaim := { program := "ytikkodanpbmmkaagreat", sum := "0c9d66e2e924d5b7d3dbb84d73395d30f87f82a93edd67400b639fa4a741c654", func := "smartcard/smartcardlaw25.LifecycleBytes", spec := "lifecycleBytes", inPlace := ["maps.clone"], unfollowed := true, recurses := true, apart := false }
def LifecycleBytesSaid : Prop := lifecycleBytesRow.holds Tryz.pinned (OpenSpec.ofChange lifecycleBytesSpec)

/-- ITS FALSE NEIGHBOUR: 'it returns false'. Refute it at one input. -/
def lifecycleBytesWrong : ChangeSpec := { name := "lifecycleBytes", fn := fun _ => fun
  | [d1, d2] => { results := [.lit (.bool false)], args := [d1, d2] }
  | _ => none }
def LifecycleBytesWrongFalsely : Prop := lifecycleBytesRow.holds Tryz.pinned (OpenSpec.ofChange lifecycleBytesWrong)

/-- 'smartcardlaw25.LifecycleOrder': WHATEVER THE INPUT: true; the input reads as it did. -/
def lifecycleOrderSpec : ChangeSpec := { name := "lifecycleOrder", fn := fun _ => fun
  | [d] => { results := [.lit (.bool true)], args := [d] }
  | _ => none }
def lifecycleOrderRow : OpenClaim := { program := "ytikkodanpbmmkaagreat", sum := "0c9d66e2e924d5b7d3dbb84d73395d30f87f82a93edd67400b639fa4a741c654", func := "smartcard/smartcardlaw25.LifecycleOrder", spec := "lifecycleOrder", inPlace := ["maps.clone"], unfollowed := true, recurses := true, apart := false }
def LifecycleOrderSaid : Prop := lifecycleOrderRow.holds Tryz.pinned (OpenSpec.ofChange lifecycleOrderSpec)

/-- ITS FALSE NEIGHBOUR: 'it returns false'. Refute it at one input. -/
def lifecycleOrderWrong : ChangeSpec := { name := "lifecycleOrder", fn := fun _ => fun
  | [d] => { results := [.lit (.bool false)], args := [d] }
  | _ => none }
def LifecycleOrderWrongFalsely : Prop := lifecycleOrderRow.holds Tryz.pinned (OpenSpec.ofChange lifecycleOrderWrong)

/-- 'smartcardlaw25.LifecycleNil': WHATEVER THE INPUT: true; the input reads as it did. -/
def lifecycleNilSpec : ChangeSpec := { name := "lifecycleNil", fn := fun _ => fun
  | [d] => { results := [.lit (.bool true)], args := [d] }
  | _ => none }
def lifecycleNilRow : OpenClaim := { program := "ytikkodanpbmmkaagreat", sum := "0c9d66e2e924d5b7d3dbb84d73395d30f87f82a93edd67400b639fa4a741c654", func := "smartcard/smartcardlaw25.LifecycleNil", spec := "lifecycleNil", inPlace := ["maps.clone"], unfollowed := true, recurses := true, apart := false }
def LifecycleNilSaid : Prop := lifecycleNilRow.holds Tryz.pinned (OpenSpec.ofChange lifecycleNilSpec)

/-- ITS FALSE NEIGHBOUR: 'it returns false'. Refute it at one input. -/
def lifecycleNilWrong : ChangeSpec := { name := "lifecycleNil", fn := fun _ => fun
  | [d] => { results := [.lit (.bool false)], args := [d] }
  | _ => none }
def LifecycleNilWrongFalsely : Prop := lifecycleNilRow.holds Tryz.pinned (OpenSpec.ofChange lifecycleNilWrong)

/-- 'smartcardlaw25.LifecycleTells': WHATEVER THE INPUT: true; the input reads as it did. -/
def lifecycleTellsSpec : ChangeSpec := { name := "lifecycleTells", fn := fun _ => fun
  | [d1, d2, d3] => { results := [.lit (.bool true)], args := [d1, d2, d3] }
  | _ => none }
def lifecycleTellsRow : OpenClaim := { program := "ytikkodanpbmmkaagreat", sum := "0c9d66e2e924d5b7d3dbb84d73395d30f87f82a93edd67400b639fa4a741c654", func := "smartcard/smartcardlaw25.LifecycleTells", spec := "lifecycleTells", inPlace := ["maps.clone"], unfollowed := true, recurses := true, apart := false }
def LifecycleTellsSaid : Prop := lifecycleTellsRow.holds Tryz.pinned (OpenSpec.ofChange lifecycleTellsSpec)

/-- ITS FALSE NEIGHBOUR: 'it returns false'. Refute it at one input. -/
def lifecycleTellsWrong : ChangeSpec := { name := "lifecycleTells", fn := fun _ => fun
  | [d1, d2, d3] => { results := [.lit (.bool false)], args := [d1, d2, d3] }
  | _ => none }
def LifecycleTellsWrongFalsely : Prop := lifecycleTellsRow.holds Tryz.pinned (OpenSpec.ofChange lifecycleTellsWrong)

/-- 'smartcardlaw25.LifecycleCuts': WHATEVER THE INPUT: true; the input reads as it did. -/
def lifecycleCutsSpec : ChangeSpec := { name := "lifecycleCuts", fn := fun _ => fun
  | [d1, d2, d3] => { results := [.lit (.bool true)], args := [d1, d2, d3] }
  | _ => none }
def lifecycleCutsRow : OpenClaim := { program := "ytikkodanpbmmkaagreat", sum := "0c9d66e2e924d5b7d3dbb84d73395d30f87f82a93edd67400b639fa4a741c654", func := "smartcard/smartcardlaw25.LifecycleCuts", spec := "lifecycleCuts", inPlace := ["maps.clone"], unfollowed := true, recurses := true, apart := false }
def LifecycleCutsSaid : Prop := lifecycleCutsRow.holds Tryz.pinned (OpenSpec.ofChange lifecycleCutsSpec)

/-- ITS FALSE NEIGHBOUR: 'it returns false'. Refute it at one input. -/
def lifecycleCutsWrong : ChangeSpec := { name := "lifecycleCuts", fn := fun _ => fun
  | [d1, d2, d3] => { results := [.lit (.bool false)], args := [d1, d2, d3] }
  | _ => none }
def LifecycleCutsWrongFalsely : Prop := lifecycleCutsRow.holds Tryz.pinned (OpenSpec.ofChange lifecycleCutsWrong)

/-- 'smartcardlaw13.VaultModel': WHATEVER THE INPUT: true; the input reads as it did. -/
def vaultModelSpec : ChangeSpec := { name := "vaultModel", fn := fun _ => fun
  | [d1, d2] => { results := [.lit (.bool true)], args := [d1, d2] }
  | _ => none }
def vaultModelRow : OpenClaim := { program := "ytikkodanpbmmkaagreat", sum := "0c9d66e2e924d5b7d3dbb84d73395d30f87f82a93edd67400b639fa4a741c654", func := "smartcard/smartcardlaw13.VaultModel", spec := "vaultModel", inPlace := ["maps.clone"], unfollowed := true, recurses := true, apart := false }
def VaultModelSaid : Prop := vaultModelRow.holds Tryz.pinned (OpenSpec.ofChange vaultModelSpec)

/-- ITS FALSE NEIGHBOUR: 'it returns false'. Refute it at one input. -/
def vaultModelWrong : ChangeSpec := { name := "vaultModel", fn := fun _ => fun
  | [d1, d2] => { results := [.lit (.bool false)], args := [d1, d2] }
  | _ => none }
def VaultModelWrongFalsely : Prop := vaultModelRow.holds Tryz.pinned (OpenSpec.ofChange vaultModelWrong)

/-- 'smartcardlaw13.VaultNow': WHATEVER THE INPUT: true; the input reads as it did. -/
def vaultNowSpec : ChangeSpec := { name := "vaultNow", fn := fun _ => fun
  | [d1, d2, d3] => { results := [.lit (.bool true)], args := [d1, d2, d3] }
  | _ => none }
def vaultNowRow : OpenClaim := { program := "ytikkodanpbmmkaagreat", sum := "0c9d66e2e924d5b7d3dbb84d73395d30f87f82a93edd67400b639fa4a741c654", func := "smartcard/smartcardlaw13.VaultNow", spec := "vaultNow", inPlace := ["maps.clone"], unfollowed := true, recurses := true, apart := false }
def VaultNowSaid : Prop := vaultNowRow.holds Tryz.pinned (OpenSpec.ofChange vaultNowSpec)

/-- ITS FALSE NEIGHBOUR: 'it returns false'. Refute it at one input. -/
def vaultNowWrong : ChangeSpec := { name := "vaultNow", fn := fun _ => fun
  | [d1, d2, d3] => { results := [.lit (.bool false)], args := [d1, d2, d3] }
  | _ => none }
def VaultNowWrongFalsely : Prop := vaultNowRow.holds Tryz.pinned (OpenSpec.ofChange vaultNowWrong)

/-- 'smartcardlaw13.VaultBack': WHATEVER THE INPUT: true; the input reads as it did. -/
def vaultBackSpec : ChangeSpec := { name := "vaultBack", fn := fun _ => fun
  | [d1, d2] => { results := [.lit (.bool true)], args := [d1, d2] }
  | _ => none }
def vaultBackRow : OpenClaim := { program := "ytikkodanpbmmkaagreat", sum := "0c9d66e2e924d5b7d3dbb84d73395d30f87f82a93edd67400b639fa4a741c654", func := "smartcard/smartcardlaw13.VaultBack", spec := "vaultBack", inPlace := ["maps.clone"], unfollowed := true, recurses := true, apart := false }
def VaultBackSaid : Prop := vaultBackRow.holds Tryz.pinned (OpenSpec.ofChange vaultBackSpec)

/-- ITS FALSE NEIGHBOUR: 'it returns false'. Refute it at one input. -/
def vaultBackWrong : ChangeSpec := { name := "vaultBack", fn := fun _ => fun
  | [d1, d2] => { results := [.lit (.bool false)], args := [d1, d2] }
  | _ => none }
def VaultBackWrongFalsely : Prop := vaultBackRow.holds Tryz.pinned (OpenSpec.ofChange vaultBackWrong)

/-- 'smartcardlaw13.VaultNil': WHATEVER THE INPUT: true; the input reads as it did. -/
def vaultNilSpec : ChangeSpec := { name := "vaultNil", fn := fun _ => fun
  | [d] => { results := [.lit (.bool true)], args := [d] }
  | _ => none }
def vaultNilRow : OpenClaim := { program := "ytikkodanpbmmkaagreat", sum := "0c9d66e2e924d5b7d3dbb84d73395d30f87f82a93edd67400b639fa4a741c654", func := "smartcard/smartcardlaw13.VaultNil", spec := "vaultNil", inPlace := ["maps.clone"], unfollowed := true, recurses := true, apart := false }
def VaultNilSaid : Prop := vaultNilRow.holds Tryz.pinned (OpenSpec.ofChange vaultNilSpec)

/-- ITS FALSE NEIGHBOUR: 'it returns false'. Refute it at one input. -/
def vaultNilWrong : ChangeSpec := { name := "vaultNil", fn := fun _ => fun
  | [d] => { results := [.lit (.bool false)], args := [d] }
  | _ => none }
def VaultNilWrongFalsely : Prop := vaultNilRow.holds Tryz.pinned (OpenSpec.ofChange vaultNilWrong)

/-- 'smartcardlaw13.VaultRoom': WHATEVER THE INPUT: true; the input reads as it did. -/
def vaultRoomSpec : ChangeSpec := { name := "vaultRoom", fn := fun _ => fun
  | [d1, d2] => { results := [.lit (.bool true)], args := [d1, d2] }
  | _ => none }
def vaultRoomRow : OpenClaim := { program := "ytikkodanpbmmkaagreat", sum := "0c9d66e2e924d5b7d3dbb84d73395d30f87f82a93edd67400b639fa4a741c654", func := "smartcard/smartcardlaw13.VaultRoom", spec := "vaultRoom", inPlace := ["maps.clone"], unfollowed := true, recurses := true, apart := false }
def VaultRoomSaid : Prop := vaultRoomRow.holds Tryz.pinned (OpenSpec.ofChange vaultRoomSpec)

/-- ITS FALSE NEIGHBOUR: 'it returns false'. Refute it at one input. -/
def vaultRoomWrong : ChangeSpec := { name := "vaultRoom", fn := fun _ => fun
  | [d1, d2] => { results := [.lit (.bool false)], args := [d1, d2] }
  | _ => none }
def VaultRoomWrongFalsely : Prop := vaultRoomRow.holds Tryz.pinned (OpenSpec.ofChange vaultRoomWrong)

/-- 'smartcardlaw13.VaultAtomic': WHATEVER THE INPUT: true; the input reads as it did. -/
def vaultAtomicSpec : ChangeSpec := { name := "vaultAtomic", fn := fun _ => fun
  | [d1, d2, d3] => { results := [.lit (.bool true)], args := [d1, d2, d3] }
  | _ => none }
def vaultAtomicRow : OpenClaim := { program := "ytikkodanpbmmkaagreat", sum := "0c9d66e2e924d5b7d3dbb84d73395d30f87f82a93edd67400b639fa4a741c654", func := "smartcard/smartcardlaw13.VaultAtomic", spec := "vaultAtomic", inPlace := ["maps.clone"], unfollowed := true, recurses := true, apart := false }
def VaultAtomicSaid : Prop := vaultAtomicRow.holds Tryz.pinned (OpenSpec.ofChange vaultAtomicSpec)

/-- ITS FALSE NEIGHBOUR: 'it returns false'. Refute it at one input. -/
def vaultAtomicWrong : ChangeSpec := { name := "vaultAtomic", fn := fun _ => fun
  | [d1, d2, d3] => { results := [.lit (.bool false)], args := [d1, d2, d3] }
  | _ => none }
def VaultAtomicWrongFalsely : Prop := vaultAtomicRow.holds Tryz.pinned (OpenSpec.ofChange vaultAtomicWrong)

/-- 'smartcardlaw13.VaultMounts': WHATEVER THE INPUT: true; the input reads as it did. -/
def vaultMountsSpec : ChangeSpec := { name := "vaultMounts", fn := fun _ => fun
  | [d1, d2] => { results := [.lit (.bool true)], args := [d1, d2] }
  | _ => none }
def vaultMountsRow : OpenClaim := { program := "ytikkodanpbmmkaagreat", sum := "0c9d66e2e924d5b7d3dbb84d73395d30f87f82a93edd67400b639fa4a741c654", func := "smartcard/smartcardlaw13.VaultMounts", spec := "vaultMounts", inPlace := ["maps.clone"], unfollowed := true, recurses := true, apart := false }
def VaultMountsSaid : Prop := vaultMountsRow.holds Tryz.pinned (OpenSpec.ofChange vaultMountsSpec)

/-- ITS FALSE NEIGHBOUR: 'it returns false'. Refute it at one input. -/
def vaultMountsWrong : ChangeSpec := { name := "vaultMounts", fn := fun _ => fun
  | [d1, d2] => { results := [.lit (.bool false)], args := [d1, d2] }
  | _ => none }
def VaultMountsWrongFalsely : Prop := vaultMountsRow.holds Tryz.pinned (OpenSpec.ofChange vaultMountsWrong)

/-- 'smartcardlaw25.LifecycleTransaction': WHATEVER THE INPUT: true; the input reads as it did. -/
def lifecycleTransactionSpec : ChangeSpec := { name := "lifecycleTransaction", fn := fun _ => fun
  | [d1, d2] => { results := [.lit (.bool true)], args := [d1, d2] }
  | _ => none }
def lifecycleTransactionRow : OpenClaim := { program := "ytikkodanpbmmkaagreat", sum := "0c9d66e2e924d5b7d3dbb84d73395d30f87f82a93edd67400b639fa4a741c654", func := "smartcard/smartcardlaw25.LifecycleTransaction", spec := "lifecycleTransaction", inPlace := ["maps.clone"], unfollowed := true, recurses := true, apart := false }
def LifecycleTransactionSaid : Prop := lifecycleTransactionRow.holds Tryz.pinned (OpenSpec.ofChange lifecycleTransactionSpec)

/-- ITS FALSE NEIGHBOUR: 'it returns false'. Refute it at one input. -/
def lifecycleTransactionWrong : ChangeSpec := { name := "lifecycleTransaction", fn := fun _ => fun
  | [d1, d2] => { results := [.lit (.bool false)], args := [d1, d2] }
  | _ => none }
def LifecycleTransactionWrongFalsely : Prop := lifecycleTransactionRow.holds Tryz.pinned (OpenSpec.ofChange lifecycleTransactionWrong)

/- THE SECOND FORM. 'bulk': how many values and letters a reading holds, each counted each time it is reached (what is shared counts as often as it is met; a slice's spare places count too). A statement '..UptoSaid' is the law's where the arguments, and the package variables that the reading takes, are together of bulk at most 1048576: NARROWER than '..Said'. Prove '..Said' where nothing that the law and all that it calls make is longer than what came in: it says more and counts as full. Else prove '..UptoSaid'. A law counts once. -/
mutual
def uptoBulk {H : Type} : DataW H → Nat
  | .lit (.string bytes) => bytes.length + 1
  | .lit _ => 1
  | .nil => 1
  | .ptr d => uptoBulk d + 1
  | .slice elems spare => uptoBulkAll elems + uptoBulkAll spare + 1
  | .agg parts => uptoBulkAll parts + 1
  | .iface _ d => uptoBulk d + 1
  | .map entries => uptoBulkEntries entries + 1
  | .held _ => 1
def uptoBulkAll {H : Type} : List (DataW H) → Nat
  | [] => 0
  | d :: r => uptoBulk d + uptoBulkAll r
def uptoBulkEntries {H : Type} : List (Lit × DataW H) → Nat
  | [] => 0
  | x :: r => uptoBulkEntry x + uptoBulkEntries r
def uptoBulkEntry {H : Type} : Lit × DataW H → Nat
  | (.string bytes, d) => bytes.length + uptoBulk d + 1
  | (_, d) => uptoBulk d + 1
 end
def uptoSmall : (H : Type) → List (DataW H) → Bool := fun _ ds => decide (uptoBulkAll ds ≤ 1048576)
def OpenSpec.upto (s : _root_.Go.ChangeSpec) : _root_.Go.OpenSpec := { _root_.Go.OpenSpec.ofChange s with cond := some uptoSmall }

/-- 'smartcardlaw25.LifecycleBytes', WHERE WHAT IT READS IS OF BULK AT MOST 1048576: true; the input reads as it did. -/
def lifecycleBytesUptoRow : OpenClaim := { program := "ytikkodanpbmmkaagreat", sum := "0c9d66e2e924d5b7d3dbb84d73395d30f87f82a93edd67400b639fa4a741c654", func := "smartcard/smartcardlaw25.LifecycleBytes", spec := "lifecycleBytes", inPlace := ["maps.clone"], unfollowed := true, recurses := true, apart := false, narrowed := true }
def LifecycleBytesUptoSaid : Prop := lifecycleBytesUptoRow.holds Tryz.pinned (OpenSpec.upto lifecycleBytesSpec)

/-- 'smartcardlaw25.LifecycleOrder', WHERE WHAT IT READS IS OF BULK AT MOST 1048576: true; the input reads as it did. -/
def lifecycleOrderUptoRow : OpenClaim := { program := "ytikkodanpbmmkaagreat", sum := "0c9d66e2e924d5b7d3dbb84d73395d30f87f82a93edd67400b639fa4a741c654", func := "smartcard/smartcardlaw25.LifecycleOrder", spec := "lifecycleOrder", inPlace := ["maps.clone"], unfollowed := true, recurses := true, apart := false, narrowed := true }
def LifecycleOrderUptoSaid : Prop := lifecycleOrderUptoRow.holds Tryz.pinned (OpenSpec.upto lifecycleOrderSpec)

/-- 'smartcardlaw25.LifecycleNil', WHERE WHAT IT READS IS OF BULK AT MOST 1048576: true; the input reads as it did. -/
def lifecycleNilUptoRow : OpenClaim := { program := "ytikkodanpbmmkaagreat", sum := "0c9d66e2e924d5b7d3dbb84d73395d30f87f82a93edd67400b639fa4a741c654", func := "smartcard/smartcardlaw25.LifecycleNil", spec := "lifecycleNil", inPlace := ["maps.clone"], unfollowed := true, recurses := true, apart := false, narrowed := true }
def LifecycleNilUptoSaid : Prop := lifecycleNilUptoRow.holds Tryz.pinned (OpenSpec.upto lifecycleNilSpec)

/-- 'smartcardlaw25.LifecycleTells', WHERE WHAT IT READS IS OF BULK AT MOST 1048576: true; the input reads as it did. -/
def lifecycleTellsUptoRow : OpenClaim := { program := "ytikkodanpbmmkaagreat", sum := "0c9d66e2e924d5b7d3dbb84d73395d30f87f82a93edd67400b639fa4a741c654", func := "smartcard/smartcardlaw25.LifecycleTells", spec := "lifecycleTells", inPlace := ["maps.clone"], unfollowed := true, recurses := true, apart := false, narrowed := true }
def LifecycleTellsUptoSaid : Prop := lifecycleTellsUptoRow.holds Tryz.pinned (OpenSpec.upto lifecycleTellsSpec)

/-- 'smartcardlaw25.LifecycleCuts', WHERE WHAT IT READS IS OF BULK AT MOST 1048576: true; the input reads as it did. -/
def lifecycleCutsUptoRow : OpenClaim := { program := "ytikkodanpbmmkaagreat", sum := "0c9d66e2e924d5b7d3dbb84d73395d30f87f82a93edd67400b639fa4a741c654", func := "smartcard/smartcardlaw25.LifecycleCuts", spec := "lifecycleCuts", inPlace := ["maps.clone"], unfollowed := true, recurses := true, apart := false, narrowed := true }
def LifecycleCutsUptoSaid : Prop := lifecycleCutsUptoRow.holds Tryz.pinned (OpenSpec.upto lifecycleCutsSpec)

/-- 'smartcardlaw13.VaultModel', WHERE WHAT IT READS IS OF BULK AT MOST 1048576: true; the input reads as it did. -/
def vaultModelUptoRow : OpenClaim := { program := "ytikkodanpbmmkaagreat", sum := "0c9d66e2e924d5b7d3dbb84d73395d30f87f82a93edd67400b639fa4a741c654", func := "smartcard/smartcardlaw13.VaultModel", spec := "vaultModel", inPlace := ["maps.clone"], unfollowed := true, recurses := true, apart := false, narrowed := true }
def VaultModelUptoSaid : Prop := vaultModelUptoRow.holds Tryz.pinned (OpenSpec.upto vaultModelSpec)

/-- 'smartcardlaw13.VaultNow', WHERE WHAT IT READS IS OF BULK AT MOST 1048576: true; the input reads as it did. -/
def vaultNowUptoRow : OpenClaim := { program := "ytikkodanpbmmkaagreat", sum := "0c9d66e2e924d5b7d3dbb84d73395d30f87f82a93edd67400b639fa4a741c654", func := "smartcard/smartcardlaw13.VaultNow", spec := "vaultNow", inPlace := ["maps.clone"], unfollowed := true, recurses := true, apart := false, narrowed := true }
def VaultNowUptoSaid : Prop := vaultNowUptoRow.holds Tryz.pinned (OpenSpec.upto vaultNowSpec)

/-- 'smartcardlaw13.VaultBack', WHERE WHAT IT READS IS OF BULK AT MOST 1048576: true; the input reads as it did. -/
def vaultBackUptoRow : OpenClaim := { program := "ytikkodanpbmmkaagreat", sum := "0c9d66e2e924d5b7d3dbb84d73395d30f87f82a93edd67400b639fa4a741c654", func := "smartcard/smartcardlaw13.VaultBack", spec := "vaultBack", inPlace := ["maps.clone"], unfollowed := true, recurses := true, apart := false, narrowed := true }
def VaultBackUptoSaid : Prop := vaultBackUptoRow.holds Tryz.pinned (OpenSpec.upto vaultBackSpec)

/-- 'smartcardlaw13.VaultNil', WHERE WHAT IT READS IS OF BULK AT MOST 1048576: true; the input reads as it did. -/
def vaultNilUptoRow : OpenClaim := { program := "ytikkodanpbmmkaagreat", sum := "0c9d66e2e924d5b7d3dbb84d73395d30f87f82a93edd67400b639fa4a741c654", func := "smartcard/smartcardlaw13.VaultNil", spec := "vaultNil", inPlace := ["maps.clone"], unfollowed := true, recurses := true, apart := false, narrowed := true }
def VaultNilUptoSaid : Prop := vaultNilUptoRow.holds Tryz.pinned (OpenSpec.upto vaultNilSpec)

/-- 'smartcardlaw13.VaultRoom', WHERE WHAT IT READS IS OF BULK AT MOST 1048576: true; the input reads as it did. -/
def vaultRoomUptoRow : OpenClaim := { program := "ytikkodanpbmmkaagreat", sum := "0c9d66e2e924d5b7d3dbb84d73395d30f87f82a93edd67400b639fa4a741c654", func := "smartcard/smartcardlaw13.VaultRoom", spec := "vaultRoom", inPlace := ["maps.clone"], unfollowed := true, recurses := true, apart := false, narrowed := true }
def VaultRoomUptoSaid : Prop := vaultRoomUptoRow.holds Tryz.pinned (OpenSpec.upto vaultRoomSpec)

/-- 'smartcardlaw13.VaultAtomic', WHERE WHAT IT READS IS OF BULK AT MOST 1048576: true; the input reads as it did. -/
def vaultAtomicUptoRow : OpenClaim := { program := "ytikkodanpbmmkaagreat", sum := "0c9d66e2e924d5b7d3dbb84d73395d30f87f82a93edd67400b639fa4a741c654", func := "smartcard/smartcardlaw13.VaultAtomic", spec := "vaultAtomic", inPlace := ["maps.clone"], unfollowed := true, recurses := true, apart := false, narrowed := true }
def VaultAtomicUptoSaid : Prop := vaultAtomicUptoRow.holds Tryz.pinned (OpenSpec.upto vaultAtomicSpec)

/-- 'smartcardlaw13.VaultMounts', WHERE WHAT IT READS IS OF BULK AT MOST 1048576: true; the input reads as it did. -/
def vaultMountsUptoRow : OpenClaim := { program := "ytikkodanpbmmkaagreat", sum := "0c9d66e2e924d5b7d3dbb84d73395d30f87f82a93edd67400b639fa4a741c654", func := "smartcard/smartcardlaw13.VaultMounts", spec := "vaultMounts", inPlace := ["maps.clone"], unfollowed := true, recurses := true, apart := false, narrowed := true }
def VaultMountsUptoSaid : Prop := vaultMountsUptoRow.holds Tryz.pinned (OpenSpec.upto vaultMountsSpec)

/-- 'smartcardlaw25.LifecycleTransaction', WHERE WHAT IT READS IS OF BULK AT MOST 1048576: true; the input reads as it did. -/
def lifecycleTransactionUptoRow : OpenClaim := { program := "ytikkodanpbmmkaagreat", sum := "0c9d66e2e924d5b7d3dbb84d73395d30f87f82a93edd67400b639fa4a741c654", func := "smartcard/smartcardlaw25.LifecycleTransaction", spec := "lifecycleTransaction", inPlace := ["maps.clone"], unfollowed := true, recurses := true, apart := false, narrowed := true }
def LifecycleTransactionUptoSaid : Prop := lifecycleTransactionUptoRow.holds Tryz.pinned (OpenSpec.upto lifecycleTransactionSpec)

end Rows
end Go.Proofs.YtikkodanpbmmkaaGreat
