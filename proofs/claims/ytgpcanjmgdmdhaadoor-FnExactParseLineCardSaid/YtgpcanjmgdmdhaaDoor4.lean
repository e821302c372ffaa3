/-
  THE LAWS' WALKS: FreeSegment, PickVictim. No condition.
-/
import Derived.Test.YtgpcanjmgdmdhaaDoor3
namespace Go.Proofs.YtgpcanjmgdmdhaaDoor
open Go Go.Eng
set_option maxRecDepth 100000
set_option linter.unusedVariables false
end Go.Proofs.YtgpcanjmgdmdhaaDoor
