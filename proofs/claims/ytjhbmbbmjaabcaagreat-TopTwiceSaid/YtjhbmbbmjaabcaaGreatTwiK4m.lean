/-
  TopTwice at 4 processes, by the kernel. No condition.
-/
import Derived.Test.YtjhbmbbmjaabcaaGreatTop6m
namespace Go.Proofs.YtjhbmbbmjaabcaaGreat
open Go Go.Sort Go.RowKit
set_option linter.unusedVariables false

theorem twi_400 : twiB 4 0 0 = true := by decide +kernel
theorem twi_401 : twiB 4 0 1 = true := by decide +kernel
theorem twi_402 : twiB 4 0 2 = true := by decide +kernel
theorem twi_410 : twiB 4 1 0 = true := by decide +kernel
theorem twi_411 : twiB 4 1 1 = true := by decide +kernel
theorem twi_412 : twiB 4 1 2 = true := by decide +kernel
theorem twi_420 : twiB 4 2 0 = true := by decide +kernel
theorem twi_421 : twiB 4 2 1 = true := by decide +kernel
theorem twi_422 : twiB 4 2 2 = true := by decide +kernel
theorem twi_430 : twiB 4 3 0 = true := by decide +kernel
theorem twi_431 : twiB 4 3 1 = true := by decide +kernel
theorem twi_432 : twiB 4 3 2 = true := by decide +kernel
end Go.Proofs.YtjhbmbbmjaabcaaGreat
set_option linter.unusedVariables false
set_option maxRecDepth 8000
set_option maxHeartbeats 8000000

