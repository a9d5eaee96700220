/-
  TopTwice. No condition.
-/
import Derived.Test.YtjhbmbbmjaabcaaGreatTwiK3m
import Derived.Test.YtjhbmbbmjaabcaaGreatTwiK4m
import Derived.Test.YtjhbmbbmjaabcaaGreatTwiK5m
namespace Go.Proofs.YtjhbmbbmjaabcaaGreat
open Go Go.Sort Go.RowKit
set_option linter.unusedVariables false

theorem twi_all (n k lv : Nat) (h3 : 3 ≤ n) (h5 : n ≤ 5) (hk : k < 4) (hl : lv < 3) : twiB n k lv = true := by
  have hn : n = 3 ∨ n = 4 ∨ n = 5 := by omega
  have hk : k = 0 ∨ k = 1 ∨ k = 2 ∨ k = 3 := by omega
  have hl : lv = 0 ∨ lv = 1 ∨ lv = 2 := by omega
  rcases hn with rfl | rfl | rfl <;> rcases hk with rfl | rfl | rfl | rfl <;> rcases hl with rfl | rfl | rfl
  · exact twi_300
  · exact twi_301
  · exact twi_302
  · exact twi_310
  · exact twi_311
  · exact twi_312
  · exact twi_320
  · exact twi_321
  · exact twi_322
  · exact twi_330
  · exact twi_331
  · exact twi_332
  · exact twi_400
  · exact twi_401
  · exact twi_402
  · exact twi_410
  · exact twi_411
  · exact twi_412
  · exact twi_420
  · exact twi_421
  · exact twi_422
  · exact twi_430
  · exact twi_431
  · exact twi_432
  · exact twi_500
  · exact twi_501
  · exact twi_502
  · exact twi_510
  · exact twi_511
  · exact twi_512
  · exact twi_520
  · exact twi_521
  · exact twi_522
  · exact twi_530
  · exact twi_531
  · exact twi_532
theorem twi_begun : begunB = true := by decide +kernel
theorem walk_TopTwice {x y z : Int} {w : World} (hx : I64 x) (hy : I64 y) (hz : I64 z) :
    Calls Tryz.prog 8 #[.int .i64 x, .int .i64 y, .int .i64 z] w fun e w' => e = .returned (.bool true) ∧ Below w.heap.size w w' :=
  ttwi_any x y z twi_all twi_begun w
end Go.Proofs.YtjhbmbbmjaabcaaGreat
set_option linter.unusedVariables false
set_option maxRecDepth 8000
set_option maxHeartbeats 8000000

