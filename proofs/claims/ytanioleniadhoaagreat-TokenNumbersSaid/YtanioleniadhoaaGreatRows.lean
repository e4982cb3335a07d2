/-
  No cell of these rows narrows 'for every input' (looked for: loops, veiled, ifaces, maps, wideKeys, modest, calm, conditions, laid).
  DERIVED. THE GIVEN ROWS OF THIS SEAT. 14 by the template 'for every input the law returns true; each argument reads behind the call as it read before'; 0 by the template 'total and deterministic' (their statements: YtanioleniadhoaaGreatTotals.lean).
  GIVEN WITH THE SEED: the statements are not yours to turn. If you find one false, say at which input.
  Laid BY PROGRAM, IN A SANDBOX (cutbox-rows.mjs): the forced cells as the released guide's own fill.sh prints them over the translation fd4cd7dcf645c238… (all of the seat's roots in one cut). By AI agents, Wed Nov 11 2026. No macro, syntax, notation, axiom, sorry.
-/
import Derived.Test.YtanioleniadhoaaGreatChecked
import GoSem.Claim
import GoSem.ClaimJoined
import GoSem.ClaimMapViews
import Derived.JoinedTies
import Derived.KernelRfl
namespace Go.Proofs.YtanioleniadhoaaGreat
/- THE CELL 'sum', in the pinned program and in every row, IS THE sha256 OF THE DUMP (.gsa) THAT YtanioleniadhoaaGreatProg.lean LOADS. Nothing in Lean hashes anything: it is a label: what it is worth is what the hold of that sum in a sandbox is worth. -/
noncomputable def Tryz.pinned : Pinned := { name := "ytanioleniadhoaagreat", sum := "fd4cd7dcf645c23869ed3593b657c30c5ce2fa95ad587d5e5d730e271e997db5", checked := Tryz.checked }
namespace Rows
def none {H : Type} : Left H := { results := [], args := [] }

/-- 'smartcardlaw38.TokenRequests': WHATEVER THE INPUT: true; the input reads as it did. -/
def tokenRequestsSpec : ChangeSpec := { name := "tokenRequests", fn := fun _ => fun
  | [d] => { results := [.lit (.bool true)], args := [d] }
  | _ => none }
def tokenRequestsRow : OpenClaim := { program := "ytanioleniadhoaagreat", sum := "fd4cd7dcf645c23869ed3593b657c30c5ce2fa95ad587d5e5d730e271e997db5", func := "smartcard/smartcardlaw38.TokenRequests", spec := "tokenRequests", inPlace := ["maps.clone"], unfollowed := true, recurses := true, plainKeys := false, apart := false }
def TokenRequestsSaid : Prop := tokenRequestsRow.holds Tryz.pinned (OpenSpec.ofChange tokenRequestsSpec)

/-- ITS FALSE NEIGHBOUR: 'it returns false'. Refute it at one input. -/
def tokenRequestsWrong : ChangeSpec := { name := "tokenRequests", fn := fun _ => fun
  | [d] => { results := [.lit (.bool false)], args := [d] }
  | _ => none }
def TokenRequestsWrongFalsely : Prop := tokenRequestsRow.holds Tryz.pinned (OpenSpec.ofChange tokenRequestsWrong)

/-- 'smartcardlaw38.TokenMakes': WHATEVER THE INPUT: true; the input reads as it did. -/
def tokenMakesSpec : ChangeSpec := { name := "tokenMakes", fn := fun _ => fun
  | [d1, d2, d3] => { results := [.lit (.bool true)], args := [d1, d2, d3] }
  | _ => none }
def tokenMakesRow : OpenClaim := { program := "ytanioleniadhoaagreat", sum := "fd4cd7dcf645c23869ed3593b657c30c5ce2fa95ad587d5e5d730e271e997db5", func := "smartcard/smartcardlaw38.TokenMakes", spec := "tokenMakes", inPlace := ["maps.clone"], unfollowed := true, recurses := true, plainKeys := false, apart := false }
def TokenMakesSaid : Prop := tokenMakesRow.holds Tryz.pinned (OpenSpec.ofChange tokenMakesSpec)

/-- ITS FALSE NEIGHBOUR: 'it returns false'. Refute it at one input. -/
def tokenMakesWrong : ChangeSpec := { name := "tokenMakes", fn := fun _ => fun
  | [d1, d2, d3] => { results := [.lit (.bool false)], args := [d1, d2, d3] }
  | _ => none }
def TokenMakesWrongFalsely : Prop := tokenMakesRow.holds Tryz.pinned (OpenSpec.ofChange tokenMakesWrong)

/-- 'smartcardlaw38.TokenConfirms': WHATEVER THE INPUT: true; the input reads as it did. -/
def tokenConfirmsSpec : ChangeSpec := { name := "tokenConfirms", fn := fun _ => fun
  | [d1, d2, d3, d4] => { results := [.lit (.bool true)], args := [d1, d2, d3, d4] }
  | _ => none }
def tokenConfirmsRow : OpenClaim := { program := "ytanioleniadhoaagreat", sum := "fd4cd7dcf645c23869ed3593b657c30c5ce2fa95ad587d5e5d730e271e997db5", func := "smartcard/smartcardlaw38.TokenConfirms", spec := "tokenConfirms", inPlace := ["maps.clone"], unfollowed := true, recurses := true, plainKeys := false, apart := false }
def TokenConfirmsSaid : Prop := tokenConfirmsRow.holds Tryz.pinned (OpenSpec.ofChange tokenConfirmsSpec)

/-- ITS FALSE NEIGHBOUR: 'it returns false'. Refute it at one input. -/
def tokenConfirmsWrong : ChangeSpec := { name := "tokenConfirms", fn := fun _ => fun
  | [d1, d2, d3, d4] => { results := [.lit (.bool false)], args := [d1, d2, d3, d4] }
  | _ => none }
def TokenConfirmsWrongFalsely : Prop := tokenConfirmsRow.holds Tryz.pinned (OpenSpec.ofChange tokenConfirmsWrong)

/-- 'smartcardlaw38.TokenExact': WHATEVER THE INPUT: true; the input reads as it did. -/
def tokenExactSpec : ChangeSpec := { name := "tokenExact", fn := fun _ => fun
  | [d1, d2, d3, d4] => { results := [.lit (.bool true)], args := [d1, d2, d3, d4] }
  | _ => none }
def tokenExactRow : OpenClaim := { program := "ytanioleniadhoaagreat", sum := "fd4cd7dcf645c23869ed3593b657c30c5ce2fa95ad587d5e5d730e271e997db5", func := "smartcard/smartcardlaw38.TokenExact", spec := "tokenExact", inPlace := ["maps.clone"], unfollowed := true, recurses := true, plainKeys := false, apart := false }
def TokenExactSaid : Prop := tokenExactRow.holds Tryz.pinned (OpenSpec.ofChange tokenExactSpec)

/-- ITS FALSE NEIGHBOUR: 'it returns false'. Refute it at one input. -/
def tokenExactWrong : ChangeSpec := { name := "tokenExact", fn := fun _ => fun
  | [d1, d2, d3, d4] => { results := [.lit (.bool false)], args := [d1, d2, d3, d4] }
  | _ => none }
def TokenExactWrongFalsely : Prop := tokenExactRow.holds Tryz.pinned (OpenSpec.ofChange tokenExactWrong)

/-- 'smartcardlaw38.TokenNumbers': WHATEVER THE INPUT: true; the input reads as it did. -/
def tokenNumbersSpec : ChangeSpec := { name := "tokenNumbers", fn := fun _ => fun
  | [d] => { results := [.lit (.bool true)], args := [d] }
  | _ => none }
def tokenNumbersRow : OpenClaim := { program := "ytanioleniadhoaagreat", sum := "fd4cd7dcf645c23869ed3593b657c30c5ce2fa95ad587d5e5d730e271e997db5", func := "smartcard/smartcardlaw38.TokenNumbers", spec := "tokenNumbers", inPlace := ["maps.clone"], unfollowed := true, recurses := true, plainKeys := false, apart := false }
def TokenNumbersSaid : Prop := tokenNumbersRow.holds Tryz.pinned (OpenSpec.ofChange tokenNumbersSpec)

/-- ITS FALSE NEIGHBOUR: 'it returns false'. Refute it at one input. -/
def tokenNumbersWrong : ChangeSpec := { name := "tokenNumbers", fn := fun _ => fun
  | [d] => { results := [.lit (.bool false)], args := [d] }
  | _ => none }
def TokenNumbersWrongFalsely : Prop := tokenNumbersRow.holds Tryz.pinned (OpenSpec.ofChange tokenNumbersWrong)

/-- 'smartcardlaw23.AuthChallenges': WHATEVER THE INPUT: true; the input reads as it did. -/
def authChallengesSpec : ChangeSpec := { name := "authChallenges", fn := fun _ => fun
  | [d1, d2] => { results := [.lit (.bool true)], args := [d1, d2] }
  | _ => none }
def authChallengesRow : OpenClaim := { program := "ytanioleniadhoaagreat", sum := "fd4cd7dcf645c23869ed3593b657c30c5ce2fa95ad587d5e5d730e271e997db5", func := "smartcard/smartcardlaw23.AuthChallenges", spec := "authChallenges", inPlace := ["maps.clone"], unfollowed := true, recurses := true, plainKeys := false, apart := false }
def AuthChallengesSaid : Prop := authChallengesRow.holds Tryz.pinned (OpenSpec.ofChange authChallengesSpec)

/-- ITS FALSE NEIGHBOUR: 'it returns false'. Refute it at one input. -/
def authChallengesWrong : ChangeSpec := { name := "authChallenges", fn := fun _ => fun
  | [d1, d2] => { results := [.lit (.bool false)], args := [d1, d2] }
  | _ => none }
def AuthChallengesWrongFalsely : Prop := authChallengesRow.holds Tryz.pinned (OpenSpec.ofChange authChallengesWrong)

/-- 'smartcardlaw23.AuthSessions': WHATEVER THE INPUT: true; the input reads as it did. -/
def authSessionsSpec : ChangeSpec := { name := "authSessions", fn := fun _ => fun
  | [d1, d2, d3, d4, d5] => { results := [.lit (.bool true)], args := [d1, d2, d3, d4, d5] }
  | _ => none }
def authSessionsRow : OpenClaim := { program := "ytanioleniadhoaagreat", sum := "fd4cd7dcf645c23869ed3593b657c30c5ce2fa95ad587d5e5d730e271e997db5", func := "smartcard/smartcardlaw23.AuthSessions", spec := "authSessions", inPlace := ["maps.clone"], unfollowed := true, recurses := true, plainKeys := false, apart := false }
def AuthSessionsSaid : Prop := authSessionsRow.holds Tryz.pinned (OpenSpec.ofChange authSessionsSpec)

/-- ITS FALSE NEIGHBOUR: 'it returns false'. Refute it at one input. -/
def authSessionsWrong : ChangeSpec := { name := "authSessions", fn := fun _ => fun
  | [d1, d2, d3, d4, d5] => { results := [.lit (.bool false)], args := [d1, d2, d3, d4, d5] }
  | _ => none }
def AuthSessionsWrongFalsely : Prop := authSessionsRow.holds Tryz.pinned (OpenSpec.ofChange authSessionsWrong)

/-- 'smartcardlaw23.AuthProofs': WHATEVER THE INPUT: true; the input reads as it did. -/
def authProofsSpec : ChangeSpec := { name := "authProofs", fn := fun _ => fun
  | [d1, d2, d3, d4] => { results := [.lit (.bool true)], args := [d1, d2, d3, d4] }
  | _ => none }
def authProofsRow : OpenClaim := { program := "ytanioleniadhoaagreat", sum := "fd4cd7dcf645c23869ed3593b657c30c5ce2fa95ad587d5e5d730e271e997db5", func := "smartcard/smartcardlaw23.AuthProofs", spec := "authProofs", inPlace := ["maps.clone"], unfollowed := true, recurses := true, plainKeys := false, apart := false }
def AuthProofsSaid : Prop := authProofsRow.holds Tryz.pinned (OpenSpec.ofChange authProofsSpec)

/-- ITS FALSE NEIGHBOUR: 'it returns false'. Refute it at one input. -/
def authProofsWrong : ChangeSpec := { name := "authProofs", fn := fun _ => fun
  | [d1, d2, d3, d4] => { results := [.lit (.bool false)], args := [d1, d2, d3, d4] }
  | _ => none }
def AuthProofsWrongFalsely : Prop := authProofsRow.holds Tryz.pinned (OpenSpec.ofChange authProofsWrong)

/-- 'smartcardlaw23.AuthHosts': WHATEVER THE INPUT: true; the input reads as it did. -/
def authHostsSpec : ChangeSpec := { name := "authHosts", fn := fun _ => fun
  | [d1, d2] => { results := [.lit (.bool true)], args := [d1, d2] }
  | _ => none }
def authHostsRow : OpenClaim := { program := "ytanioleniadhoaagreat", sum := "fd4cd7dcf645c23869ed3593b657c30c5ce2fa95ad587d5e5d730e271e997db5", func := "smartcard/smartcardlaw23.AuthHosts", spec := "authHosts", inPlace := ["maps.clone"], unfollowed := true, recurses := true, plainKeys := false, apart := false }
def AuthHostsSaid : Prop := authHostsRow.holds Tryz.pinned (OpenSpec.ofChange authHostsSpec)

/-- ITS FALSE NEIGHBOUR: 'it returns false'. Refute it at one input. -/
def authHostsWrong : ChangeSpec := { name := "authHosts", fn := fun _ => fun
  | [d1, d2] => { results := [.lit (.bool false)], args := [d1, d2] }
  | _ => none }
def AuthHostsWrongFalsely : Prop := authHostsRow.holds Tryz.pinned (OpenSpec.ofChange authHostsWrong)

/-- 'smartcardlaw23.AuthNobody': WHATEVER THE INPUT: true; the input reads as it did. -/
def authNobodySpec : ChangeSpec := { name := "authNobody", fn := fun _ => fun
  | [d1, d2] => { results := [.lit (.bool true)], args := [d1, d2] }
  | _ => none }
def authNobodyRow : OpenClaim := { program := "ytanioleniadhoaagreat", sum := "fd4cd7dcf645c23869ed3593b657c30c5ce2fa95ad587d5e5d730e271e997db5", func := "smartcard/smartcardlaw23.AuthNobody", spec := "authNobody", inPlace := ["maps.clone"], unfollowed := true, recurses := true, plainKeys := false, apart := false }
def AuthNobodySaid : Prop := authNobodyRow.holds Tryz.pinned (OpenSpec.ofChange authNobodySpec)

/-- ITS FALSE NEIGHBOUR: 'it returns false'. Refute it at one input. -/
def authNobodyWrong : ChangeSpec := { name := "authNobody", fn := fun _ => fun
  | [d1, d2] => { results := [.lit (.bool false)], args := [d1, d2] }
  | _ => none }
def AuthNobodyWrongFalsely : Prop := authNobodyRow.holds Tryz.pinned (OpenSpec.ofChange authNobodyWrong)

/-- 'smartcardlaw23.AuthAgrees': WHATEVER THE INPUT: true; the input reads as it did. -/
def authAgreesSpec : ChangeSpec := { name := "authAgrees", fn := fun _ => fun
  | [d1, d2, d3, d4] => { results := [.lit (.bool true)], args := [d1, d2, d3, d4] }
  | _ => none }
def authAgreesRow : OpenClaim := { program := "ytanioleniadhoaagreat", sum := "fd4cd7dcf645c23869ed3593b657c30c5ce2fa95ad587d5e5d730e271e997db5", func := "smartcard/smartcardlaw23.AuthAgrees", spec := "authAgrees", inPlace := ["maps.clone"], unfollowed := true, recurses := true, plainKeys := false, apart := false }
def AuthAgreesSaid : Prop := authAgreesRow.holds Tryz.pinned (OpenSpec.ofChange authAgreesSpec)

/-- ITS FALSE NEIGHBOUR: 'it returns false'. Refute it at one input. -/
def authAgreesWrong : ChangeSpec := { name := "authAgrees", fn := fun _ => fun
  | [d1, d2, d3, d4] => { results := [.lit (.bool false)], args := [d1, d2, d3, d4] }
  | _ => none }
def AuthAgreesWrongFalsely : Prop := authAgreesRow.holds Tryz.pinned (OpenSpec.ofChange authAgreesWrong)

/-- 'smartcardlaw23.AuthRefuses': WHATEVER THE INPUT: true; the input reads as it did. -/
def authRefusesSpec : ChangeSpec := { name := "authRefuses", fn := fun _ => fun
  | [d1, d2, d3, d4] => { results := [.lit (.bool true)], args := [d1, d2, d3, d4] }
  | _ => none }
def authRefusesRow : OpenClaim := { program := "ytanioleniadhoaagreat", sum := "fd4cd7dcf645c23869ed3593b657c30c5ce2fa95ad587d5e5d730e271e997db5", func := "smartcard/smartcardlaw23.AuthRefuses", spec := "authRefuses", inPlace := ["maps.clone"], unfollowed := true, recurses := true, plainKeys := false, apart := false }
def AuthRefusesSaid : Prop := authRefusesRow.holds Tryz.pinned (OpenSpec.ofChange authRefusesSpec)

/-- ITS FALSE NEIGHBOUR: 'it returns false'. Refute it at one input. -/
def authRefusesWrong : ChangeSpec := { name := "authRefuses", fn := fun _ => fun
  | [d1, d2, d3, d4] => { results := [.lit (.bool false)], args := [d1, d2, d3, d4] }
  | _ => none }
def AuthRefusesWrongFalsely : Prop := authRefusesRow.holds Tryz.pinned (OpenSpec.ofChange authRefusesWrong)

/-- 'smartcardlaw23.AuthFresh': WHATEVER THE INPUT: true; the input reads as it did. -/
def authFreshSpec : ChangeSpec := { name := "authFresh", fn := fun _ => fun
  | [d1, d2, d3] => { results := [.lit (.bool true)], args := [d1, d2, d3] }
  | _ => none }
def authFreshRow : OpenClaim := { program := "ytanioleniadhoaagreat", sum := "fd4cd7dcf645c23869ed3593b657c30c5ce2fa95ad587d5e5d730e271e997db5", func := "smartcard/smartcardlaw23.AuthFresh", spec := "authFresh", inPlace := ["maps.clone"], unfollowed := true, recurses := true, plainKeys := false, apart := false }
def AuthFreshSaid : Prop := authFreshRow.holds Tryz.pinned (OpenSpec.ofChange authFreshSpec)

/-- ITS FALSE NEIGHBOUR: 'it returns false'. Refute it at one input. -/
def authFreshWrong : ChangeSpec := { name := "authFresh", fn := fun _ => fun
  | [d1, d2, d3] => { results := [.lit (.bool false)], args := [d1, d2, d3] }
  | _ => none }
def AuthFreshWrongFalsely : Prop := authFreshRow.holds Tryz.pinned (OpenSpec.ofChange authFreshWrong)

/-- 'smartcardlaw23.AuthCards': WHATEVER THE INPUT: true; the input reads as it did. -/
def authCardsSpec : ChangeSpec := { name := "authCards", fn := fun _ => fun
  | [d1, d2] => { results := [.lit (.bool true)], args := [d1, d2] }
  | _ => none }
def authCardsRow : OpenClaim := { program := "ytanioleniadhoaagreat", sum := "fd4cd7dcf645c23869ed3593b657c30c5ce2fa95ad587d5e5d730e271e997db5", func := "smartcard/smartcardlaw23.AuthCards", spec := "authCards", inPlace := ["maps.clone"], unfollowed := true, recurses := true, plainKeys := false, apart := false }
def AuthCardsSaid : Prop := authCardsRow.holds Tryz.pinned (OpenSpec.ofChange authCardsSpec)

/-- ITS FALSE NEIGHBOUR: 'it returns false'. Refute it at one input. -/
def authCardsWrong : ChangeSpec := { name := "authCards", fn := fun _ => fun
  | [d1, d2] => { results := [.lit (.bool false)], args := [d1, d2] }
  | _ => none }
def AuthCardsWrongFalsely : Prop := authCardsRow.holds Tryz.pinned (OpenSpec.ofChange authCardsWrong)

/- THE SECOND FORM. 'bulk': how many values and letters a reading holds, each counted each time it is reached (what is shared counts as often as it is met; a slice's spare places count too). A statement '..UptoSaid' is the law's where the arguments, and the package variables that the reading takes, are together of bulk at most 1048576: NARROWER than '..Said'. Prove '..Said' where nothing that the law and all that it calls make is longer than what came in: it says more and counts as full. Else prove '..UptoSaid'. A law counts once. -/
mutual
def uptoBulk {H : Type} : DataW H → Nat
  | .lit (.string bytes) => bytes.length + 1
  | .lit _ => 1
  | .nil => 1
  | .ptr d => uptoBulk d + 1
  | .slice elems spare => uptoBulkAll elems + uptoBulkAll spare + 1
  | .agg parts => uptoBulkAll parts + 1
  | .iface _ d => uptoBulk d + 1
  | .map entries => uptoBulkEntries entries + 1
  | .held _ => 1
def uptoBulkAll {H : Type} : List (DataW H) → Nat
  | [] => 0
  | d :: r => uptoBulk d + uptoBulkAll r
def uptoBulkEntries {H : Type} : List (Lit × DataW H) → Nat
  | [] => 0
  | x :: r => uptoBulkEntry x + uptoBulkEntries r
def uptoBulkEntry {H : Type} : Lit × DataW H → Nat
  | (.string bytes, d) => bytes.length + uptoBulk d + 1
  | (_, d) => uptoBulk d + 1
 end
def uptoSmall : (H : Type) → List (DataW H) → Bool := fun _ ds => decide (uptoBulkAll ds ≤ 1048576)
def OpenSpec.upto (s : _root_.Go.ChangeSpec) : _root_.Go.OpenSpec := { _root_.Go.OpenSpec.ofChange s with cond := some uptoSmall }

/-- 'smartcardlaw38.TokenRequests', WHERE WHAT IT READS IS OF BULK AT MOST 1048576: true; the input reads as it did. -/
def tokenRequestsUptoRow : OpenClaim := { program := "ytanioleniadhoaagreat", sum := "fd4cd7dcf645c23869ed3593b657c30c5ce2fa95ad587d5e5d730e271e997db5", func := "smartcard/smartcardlaw38.TokenRequests", spec := "tokenRequests", inPlace := ["maps.clone"], unfollowed := true, recurses := true, plainKeys := false, apart := false, narrowed := true }
def TokenRequestsUptoSaid : Prop := tokenRequestsUptoRow.holds Tryz.pinned (OpenSpec.upto tokenRequestsSpec)

/-- 'smartcardlaw38.TokenMakes', WHERE WHAT IT READS IS OF BULK AT MOST 1048576: true; the input reads as it did. -/
def tokenMakesUptoRow : OpenClaim := { program := "ytanioleniadhoaagreat", sum := "fd4cd7dcf645c23869ed3593b657c30c5ce2fa95ad587d5e5d730e271e997db5", func := "smartcard/smartcardlaw38.TokenMakes", spec := "tokenMakes", inPlace := ["maps.clone"], unfollowed := true, recurses := true, plainKeys := false, apart := false, narrowed := true }
def TokenMakesUptoSaid : Prop := tokenMakesUptoRow.holds Tryz.pinned (OpenSpec.upto tokenMakesSpec)

/-- 'smartcardlaw38.TokenConfirms', WHERE WHAT IT READS IS OF BULK AT MOST 1048576: true; the input reads as it did. -/
def tokenConfirmsUptoRow : OpenClaim := { program := "ytanioleniadhoaagreat", sum := "fd4cd7dcf645c23869ed3593b657c30c5ce2fa95ad587d5e5d730e271e997db5", func := "smartcard/smartcardlaw38.TokenConfirms", spec := "tokenConfirms", inPlace := ["maps.clone"], unfollowed := true, recurses := true, plainKeys := false, apart := false, narrowed := true }
def TokenConfirmsUptoSaid : Prop := tokenConfirmsUptoRow.holds Tryz.pinned (OpenSpec.upto tokenConfirmsSpec)

/-- 'smartcardlaw38.TokenExact', WHERE WHAT IT READS IS OF BULK AT MOST 1048576: true; the input reads as it did. -/
def tokenExactUptoRow : OpenClaim := { program := "ytanioleniadhoaagreat", sum := "fd4cd7dcf645c23869ed3593b657c30c5ce2fa95ad587d5e5d730e271e997db5", func := "smartcard/smartcardlaw38.TokenExact", spec := "tokenExact", inPlace := ["maps.clone"], unfollowed := true, recurses := true, plainKeys := false, apart := false, narrowed := true }
def TokenExactUptoSaid : Prop := tokenExactUptoRow.holds Tryz.pinned (OpenSpec.upto tokenExactSpec)

/-- 'smartcardlaw38.TokenNumbers', WHERE WHAT IT READS IS OF BULK AT MOST 1048576: true; the input reads as it did. -/
def tokenNumbersUptoRow : OpenClaim := { program := "ytanioleniadhoaagreat", sum := "fd4cd7dcf645c23869ed3593b657c30c5ce2fa95ad587d5e5d730e271e997db5", func := "smartcard/smartcardlaw38.TokenNumbers", spec := "tokenNumbers", inPlace := ["maps.clone"], unfollowed := true, recurses := true, plainKeys := false, apart := false, narrowed := true }
def TokenNumbersUptoSaid : Prop := tokenNumbersUptoRow.holds Tryz.pinned (OpenSpec.upto tokenNumbersSpec)

/-- 'smartcardlaw23.AuthChallenges', WHERE WHAT IT READS IS OF BULK AT MOST 1048576: true; the input reads as it did. -/
def authChallengesUptoRow : OpenClaim := { program := "ytanioleniadhoaagreat", sum := "fd4cd7dcf645c23869ed3593b657c30c5ce2fa95ad587d5e5d730e271e997db5", func := "smartcard/smartcardlaw23.AuthChallenges", spec := "authChallenges", inPlace := ["maps.clone"], unfollowed := true, recurses := true, plainKeys := false, apart := false, narrowed := true }
def AuthChallengesUptoSaid : Prop := authChallengesUptoRow.holds Tryz.pinned (OpenSpec.upto authChallengesSpec)

/-- 'smartcardlaw23.AuthSessions', WHERE WHAT IT READS IS OF BULK AT MOST 1048576: true; the input reads as it did. -/
def authSessionsUptoRow : OpenClaim := { program := "ytanioleniadhoaagreat", sum := "fd4cd7dcf645c23869ed3593b657c30c5ce2fa95ad587d5e5d730e271e997db5", func := "smartcard/smartcardlaw23.AuthSessions", spec := "authSessions", inPlace := ["maps.clone"], unfollowed := true, recurses := true, plainKeys := false, apart := false, narrowed := true }
def AuthSessionsUptoSaid : Prop := authSessionsUptoRow.holds Tryz.pinned (OpenSpec.upto authSessionsSpec)

/-- 'smartcardlaw23.AuthProofs', WHERE WHAT IT READS IS OF BULK AT MOST 1048576: true; the input reads as it did. -/
def authProofsUptoRow : OpenClaim := { program := "ytanioleniadhoaagreat", sum := "fd4cd7dcf645c23869ed3593b657c30c5ce2fa95ad587d5e5d730e271e997db5", func := "smartcard/smartcardlaw23.AuthProofs", spec := "authProofs", inPlace := ["maps.clone"], unfollowed := true, recurses := true, plainKeys := false, apart := false, narrowed := true }
def AuthProofsUptoSaid : Prop := authProofsUptoRow.holds Tryz.pinned (OpenSpec.upto authProofsSpec)

/-- 'smartcardlaw23.AuthHosts', WHERE WHAT IT READS IS OF BULK AT MOST 1048576: true; the input reads as it did. -/
def authHostsUptoRow : OpenClaim := { program := "ytanioleniadhoaagreat", sum := "fd4cd7dcf645c23869ed3593b657c30c5ce2fa95ad587d5e5d730e271e997db5", func := "smartcard/smartcardlaw23.AuthHosts", spec := "authHosts", inPlace := ["maps.clone"], unfollowed := true, recurses := true, plainKeys := false, apart := false, narrowed := true }
def AuthHostsUptoSaid : Prop := authHostsUptoRow.holds Tryz.pinned (OpenSpec.upto authHostsSpec)

/-- 'smartcardlaw23.AuthNobody', WHERE WHAT IT READS IS OF BULK AT MOST 1048576: true; the input reads as it did. -/
def authNobodyUptoRow : OpenClaim := { program := "ytanioleniadhoaagreat", sum := "fd4cd7dcf645c23869ed3593b657c30c5ce2fa95ad587d5e5d730e271e997db5", func := "smartcard/smartcardlaw23.AuthNobody", spec := "authNobody", inPlace := ["maps.clone"], unfollowed := true, recurses := true, plainKeys := false, apart := false, narrowed := true }
def AuthNobodyUptoSaid : Prop := authNobodyUptoRow.holds Tryz.pinned (OpenSpec.upto authNobodySpec)

/-- 'smartcardlaw23.AuthAgrees', WHERE WHAT IT READS IS OF BULK AT MOST 1048576: true; the input reads as it did. -/
def authAgreesUptoRow : OpenClaim := { program := "ytanioleniadhoaagreat", sum := "fd4cd7dcf645c23869ed3593b657c30c5ce2fa95ad587d5e5d730e271e997db5", func := "smartcard/smartcardlaw23.AuthAgrees", spec := "authAgrees", inPlace := ["maps.clone"], unfollowed := true, recurses := true, plainKeys := false, apart := false, narrowed := true }
def AuthAgreesUptoSaid : Prop := authAgreesUptoRow.holds Tryz.pinned (OpenSpec.upto authAgreesSpec)

/-- 'smartcardlaw23.AuthRefuses', WHERE WHAT IT READS IS OF BULK AT MOST 1048576: true; the input reads as it did. -/
def authRefusesUptoRow : OpenClaim := { program := "ytanioleniadhoaagreat", sum := "fd4cd7dcf645c23869ed3593b657c30c5ce2fa95ad587d5e5d730e271e997db5", func := "smartcard/smartcardlaw23.AuthRefuses", spec := "authRefuses", inPlace := ["maps.clone"], unfollowed := true, recurses := true, plainKeys := false, apart := false, narrowed := true }
def AuthRefusesUptoSaid : Prop := authRefusesUptoRow.holds Tryz.pinned (OpenSpec.upto authRefusesSpec)

/-- 'smartcardlaw23.AuthFresh', WHERE WHAT IT READS IS OF BULK AT MOST 1048576: true; the input reads as it did. -/
def authFreshUptoRow : OpenClaim := { program := "ytanioleniadhoaagreat", sum := "fd4cd7dcf645c23869ed3593b657c30c5ce2fa95ad587d5e5d730e271e997db5", func := "smartcard/smartcardlaw23.AuthFresh", spec := "authFresh", inPlace := ["maps.clone"], unfollowed := true, recurses := true, plainKeys := false, apart := false, narrowed := true }
def AuthFreshUptoSaid : Prop := authFreshUptoRow.holds Tryz.pinned (OpenSpec.upto authFreshSpec)

/-- 'smartcardlaw23.AuthCards', WHERE WHAT IT READS IS OF BULK AT MOST 1048576: true; the input reads as it did. -/
def authCardsUptoRow : OpenClaim := { program := "ytanioleniadhoaagreat", sum := "fd4cd7dcf645c23869ed3593b657c30c5ce2fa95ad587d5e5d730e271e997db5", func := "smartcard/smartcardlaw23.AuthCards", spec := "authCards", inPlace := ["maps.clone"], unfollowed := true, recurses := true, plainKeys := false, apart := false, narrowed := true }
def AuthCardsUptoSaid : Prop := authCardsUptoRow.holds Tryz.pinned (OpenSpec.upto authCardsSpec)

end Rows
end Go.Proofs.YtanioleniadhoaaGreat
