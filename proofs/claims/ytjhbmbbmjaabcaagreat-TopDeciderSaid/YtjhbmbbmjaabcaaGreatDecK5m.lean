/-
  TopDecider at 5 processes, by the kernel. No condition.
-/
import Derived.Test.YtjhbmbbmjaabcaaGreatTop8m
namespace Go.Proofs.YtjhbmbbmjaabcaaGreat
open Go Go.Sort Go.RowKit
set_option linter.unusedVariables false

theorem dec_51 : decB 5 1 = true := by decide +kernel
theorem dec_52 : decB 5 2 = true := by decide +kernel
theorem dec_53 : decB 5 3 = true := by decide +kernel
theorem dec_54 : decB 5 4 = true := by decide +kernel
end Go.Proofs.YtjhbmbbmjaabcaaGreat
set_option linter.unusedVariables false
set_option maxRecDepth 8000
set_option maxHeartbeats 8000000

