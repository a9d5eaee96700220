/-
  TopReverse: the plain worlds of all its inputs, by the kernel. No condition.
-/
import Derived.Test.YtjhbmbbmjaabcaaGreatTop3m
namespace Go.Proofs.YtjhbmbbmjaabcaaGreat
open Go Go.Sort Go.RowKit
set_option linter.unusedVariables false

theorem begun_ok : begunB = true := by decide +kernel
theorem rev_30 : revB 3 0 = true := by decide +kernel
theorem rev_31 : revB 3 1 = true := by decide +kernel
theorem rev_32 : revB 3 2 = true := by decide +kernel
theorem rev_33 : revB 3 3 = true := by decide +kernel
theorem rev_40 : revB 4 0 = true := by decide +kernel
theorem rev_41 : revB 4 1 = true := by decide +kernel
theorem rev_42 : revB 4 2 = true := by decide +kernel
theorem rev_43 : revB 4 3 = true := by decide +kernel
theorem rev_50 : revB 5 0 = true := by decide +kernel
theorem rev_51 : revB 5 1 = true := by decide +kernel
theorem rev_52 : revB 5 2 = true := by decide +kernel
theorem rev_53 : revB 5 3 = true := by decide +kernel
theorem rev_all (n k : Nat) (h3 : 3 ≤ n) (h5 : n ≤ 5) (hk : k < 4) : revB n k = true := by
  have hn : n = 3 ∨ n = 4 ∨ n = 5 := by omega
  have hk : k = 0 ∨ k = 1 ∨ k = 2 ∨ k = 3 := by omega
  rcases hn with rfl | rfl | rfl <;> rcases hk with rfl | rfl | rfl | rfl
  · exact rev_30
  · exact rev_31
  · exact rev_32
  · exact rev_33
  · exact rev_40
  · exact rev_41
  · exact rev_42
  · exact rev_43
  · exact rev_50
  · exact rev_51
  · exact rev_52
  · exact rev_53
theorem walk_TopReverse {x y : Int} {w : World} (hx : I64 x) (hy : I64 y) :
    Calls Tryz.prog 9 #[.int .i64 x, .int .i64 y] w fun e w' => e = .returned (.bool true) ∧ Below w.heap.size w w' :=
  trev_any x y rev_all begun_ok w
end Go.Proofs.YtjhbmbbmjaabcaaGreat
set_option linter.unusedVariables false
set_option maxRecDepth 8000
set_option maxHeartbeats 8000000

