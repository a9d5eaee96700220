/-
  TopTwice at 5 processes, by the kernel. No condition.
-/
import Derived.Test.YtjhbmbbmjaabcaaGreatTop6m
namespace Go.Proofs.YtjhbmbbmjaabcaaGreat
open Go Go.Sort Go.RowKit
set_option linter.unusedVariables false

theorem twi_500 : twiB 5 0 0 = true := by decide +kernel
theorem twi_501 : twiB 5 0 1 = true := by decide +kernel
theorem twi_502 : twiB 5 0 2 = true := by decide +kernel
theorem twi_510 : twiB 5 1 0 = true := by decide +kernel
theorem twi_511 : twiB 5 1 1 = true := by decide +kernel
theorem twi_512 : twiB 5 1 2 = true := by decide +kernel
theorem twi_520 : twiB 5 2 0 = true := by decide +kernel
theorem twi_521 : twiB 5 2 1 = true := by decide +kernel
theorem twi_522 : twiB 5 2 2 = true := by decide +kernel
theorem twi_530 : twiB 5 3 0 = true := by decide +kernel
theorem twi_531 : twiB 5 3 1 = true := by decide +kernel
theorem twi_532 : twiB 5 3 2 = true := by decide +kernel
end Go.Proofs.YtjhbmbbmjaabcaaGreat
set_option linter.unusedVariables false
set_option maxRecDepth 8000
set_option maxHeartbeats 8000000

