/-
  TopDecider at 3 processes, by the kernel. No condition.
-/
import Derived.Test.YtjhbmbbmjaabcaaGreatTop8m
namespace Go.Proofs.YtjhbmbbmjaabcaaGreat
open Go Go.Sort Go.RowKit
set_option linter.unusedVariables false

theorem dec_31 : decB 3 1 = true := by decide +kernel
theorem dec_32 : decB 3 2 = true := by decide +kernel
theorem dec_33 : decB 3 3 = true := by decide +kernel
theorem dec_34 : decB 3 4 = true := by decide +kernel
end Go.Proofs.YtjhbmbbmjaabcaaGreat
set_option linter.unusedVariables false
set_option maxRecDepth 8000
set_option maxHeartbeats 8000000

