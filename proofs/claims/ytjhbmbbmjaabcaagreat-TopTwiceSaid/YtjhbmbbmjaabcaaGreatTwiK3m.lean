/-
  TopTwice at 3 processes, by the kernel. No condition.
-/
import Derived.Test.YtjhbmbbmjaabcaaGreatTop6m
namespace Go.Proofs.YtjhbmbbmjaabcaaGreat
open Go Go.Sort Go.RowKit
set_option linter.unusedVariables false

theorem twi_300 : twiB 3 0 0 = true := by decide +kernel
theorem twi_301 : twiB 3 0 1 = true := by decide +kernel
theorem twi_302 : twiB 3 0 2 = true := by decide +kernel
theorem twi_310 : twiB 3 1 0 = true := by decide +kernel
theorem twi_311 : twiB 3 1 1 = true := by decide +kernel
theorem twi_312 : twiB 3 1 2 = true := by decide +kernel
theorem twi_320 : twiB 3 2 0 = true := by decide +kernel
theorem twi_321 : twiB 3 2 1 = true := by decide +kernel
theorem twi_322 : twiB 3 2 2 = true := by decide +kernel
theorem twi_330 : twiB 3 3 0 = true := by decide +kernel
theorem twi_331 : twiB 3 3 1 = true := by decide +kernel
theorem twi_332 : twiB 3 3 2 = true := by decide +kernel
end Go.Proofs.YtjhbmbbmjaabcaaGreat
set_option linter.unusedVariables false
set_option maxRecDepth 8000
set_option maxHeartbeats 8000000

