/-
  TopDecider. No condition.
-/
import Derived.Test.YtjhbmbbmjaabcaaGreatDecK3m
import Derived.Test.YtjhbmbbmjaabcaaGreatDecK4m
import Derived.Test.YtjhbmbbmjaabcaaGreatDecK5m
namespace Go.Proofs.YtjhbmbbmjaabcaaGreat
open Go Go.Sort Go.RowKit
set_option linter.unusedVariables false

theorem dec_all (n k : Nat) (h3 : 3 ≤ n) (h5 : n ≤ 5) (h1 : 1 ≤ k) (hk : k < 5) : decB n k = true := by
  have hn : n = 3 ∨ n = 4 ∨ n = 5 := by omega
  have hk : k = 1 ∨ k = 2 ∨ k = 3 ∨ k = 4 := by omega
  rcases hn with rfl | rfl | rfl <;> rcases hk with rfl | rfl | rfl | rfl
  · exact dec_31
  · exact dec_32
  · exact dec_33
  · exact dec_34
  · exact dec_41
  · exact dec_42
  · exact dec_43
  · exact dec_44
  · exact dec_51
  · exact dec_52
  · exact dec_53
  · exact dec_54
theorem dec_begun : begunB = true := by decide +kernel
theorem walk_TopDecider {x y : Int} {w : World} (hx : I64 x) (hy : I64 y) :
    Calls Tryz.prog 7 #[.int .i64 x, .int .i64 y] w fun e w' => e = .returned (.bool true) ∧ Below w.heap.size w w' :=
  tdecider_any x y dec_all dec_begun w
end Go.Proofs.YtjhbmbbmjaabcaaGreat
set_option linter.unusedVariables false
set_option maxRecDepth 8000
set_option maxHeartbeats 8000000

