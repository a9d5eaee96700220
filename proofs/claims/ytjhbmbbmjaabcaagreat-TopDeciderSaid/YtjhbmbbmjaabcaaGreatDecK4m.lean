/-
  TopDecider at 4 processes, by the kernel. No condition.
-/
import Derived.Test.YtjhbmbbmjaabcaaGreatTop8m
namespace Go.Proofs.YtjhbmbbmjaabcaaGreat
open Go Go.Sort Go.RowKit
set_option linter.unusedVariables false

theorem dec_41 : decB 4 1 = true := by decide +kernel
theorem dec_42 : decB 4 2 = true := by decide +kernel
theorem dec_43 : decB 4 3 = true := by decide +kernel
theorem dec_44 : decB 4 4 = true := by decide +kernel
end Go.Proofs.YtjhbmbbmjaabcaaGreat
set_option linter.unusedVariables false
set_option maxRecDepth 8000
set_option maxHeartbeats 8000000

