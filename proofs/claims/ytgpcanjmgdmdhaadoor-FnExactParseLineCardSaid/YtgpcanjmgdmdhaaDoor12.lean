/-
  THE LAW'S WALK: EncodeTable. No condition.
-/
import Derived.Test.YtgpcanjmgdmdhaaDoor11
namespace Go.Proofs.YtgpcanjmgdmdhaaDoor
open Go Go.Eng
set_option maxRecDepth 100000
set_option maxHeartbeats 4000000
set_option linter.unusedVariables false
end Go.Proofs.YtgpcanjmgdmdhaaDoor
