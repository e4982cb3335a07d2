/-
  The registry, in plain numbers: what RegistryLocks asks.
-/
import Derived.Test.YthmahbfmfpjjcaaGreatMG61
set_option linter.unusedVariables false
set_option linter.unusedSimpArgs false
namespace Go.Proofs.YthmahbfmfpjjcaaGreat
open Go.RowKit
open Jn Vn
namespace Rg
end Rg
end Go.Proofs.YthmahbfmfpjjcaaGreat
