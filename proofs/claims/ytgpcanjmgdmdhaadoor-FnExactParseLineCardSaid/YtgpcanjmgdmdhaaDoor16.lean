/-
  THE LAW'S WALK: SegmentCounts. No condition.
-/
import Derived.Test.YtgpcanjmgdmdhaaDoor15
namespace Go.Proofs.YtgpcanjmgdmdhaaDoor
open Go Go.Eng
set_option maxRecDepth 100000
set_option maxHeartbeats 4000000
set_option linter.unusedVariables false
theorem segCounts_len (xs : List (Int × Bool)) (s b : Int) : (segCounts xs s b).length ≤ 64 := by
  unfold segCounts; split
  · rename_i h; rw [segc_len]; omega
  · simp
end Go.Proofs.YtgpcanjmgdmdhaaDoor
