/-
  THE LAW'S WALK: NewDisk. No condition.
-/
import Derived.Test.YtgpcanjmgdmdhaaDoor8
namespace Go.Proofs.YtgpcanjmgdmdhaaDoor
open Go Go.Eng
set_option maxRecDepth 100000
set_option maxHeartbeats 4000000
set_option linter.unusedVariables false
theorem zer_len (b : Int) : (zer b).length ≤ 76800 := by
  unfold zer; split
  · rw [List.length_replicate]; omega
  · simp
end Go.Proofs.YtgpcanjmgdmdhaaDoor
