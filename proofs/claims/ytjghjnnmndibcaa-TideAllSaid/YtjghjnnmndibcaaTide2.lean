/-
  The statements' begun and the walks of the laws of tide: whatever the numbers, the law returns true.
-/
import Derived.Test.YtjghjnnmndibcaaTide
namespace Go.Proofs.Ytjghjnnmndibcaa
open Go Go.Sort Go.RowKit
set_option linter.unusedVariables false

theorem i64s {x : Int} (h : -1099511627776 ≤ x) (h2 : x ≤ 1099511627776) : I64 x := by unfold I64; omega

set_option maxRecDepth 8000 in
set_option maxHeartbeats 2000000 in
theorem begun11 (w : World) : Calls Try.prog 12 #[] w fun e w' => e = .returned (.bool true) ∧ Ext w w' := by
  have q0 := Lib.hid (show newA 10 = 10 from by decide)
  have q1 := Lib.hid (show goA 10 0 5 = 15 ∧ goB 0 5 = 0 from by decide)
  have q2 := Lib.hid (show rtA 15 5 11 = 15 ∧ rtB 15 0 5 11 = 4 from by decide)
  have q3 := Lib.hid (show goA 15 4 4 = 17 ∧ goB 4 4 = 2 from by decide)
  have q4 := Lib.hid (show rtA 17 20 30 = 20 ∧ rtB 17 2 20 30 = 0 from by decide)
  go_enter Try.func12, Try.ntmps12
  go_wp2_with fail
  refine (new_any (n := 10) (i64s (by omega) (by omega))).mono ?_
  rw [q0.out]
  rintro e w1 ⟨g, rfl, h1, x1⟩
  have X := Lib.hid x1
  have T := Lib.hid h1
  clear h1 x1
  go_wp2_with fail
  refine (go_any T.out (by omega) (by omega) (by omega) (by omega) (by omega) (by omega)).mono ?_
  rw [q1.out.1, q1.out.2]
  rintro e w2 ⟨rfl, h1, x1⟩
  replace X := Lib.hid (Below.trans X.out x1 : Ext w w2)
  replace T := Lib.hid h1
  clear h1 x1
  go_wp2_with fail
  refine (right_any T.out (by omega) (by omega) (i64s (by omega) (by omega)) (i64s (by omega) (by omega))).mono ?_
  rw [q2.out.1, q2.out.2]
  rintro e w3 ⟨rfl, h1, x1⟩
  replace X := Lib.hid (Below.trans X.out x1 : Ext w w3)
  replace T := Lib.hid h1
  clear h1 x1
  go_wp2_with fail
  refine (go_any T.out (by omega) (by omega) (by omega) (by omega) (by omega) (by omega)).mono ?_
  rw [q3.out.1, q3.out.2]
  rintro e w4 ⟨rfl, h1, x1⟩
  replace X := Lib.hid (Below.trans X.out x1 : Ext w w4)
  replace T := Lib.hid h1
  clear h1 x1
  go_wp2_with fail
  refine (right_any T.out (by omega) (by omega) (i64s (by omega) (by omega)) (i64s (by omega) (by omega))).mono ?_
  rw [q4.out.1, q4.out.2]
  rintro e w5 ⟨rfl, h1, x1⟩
  replace X := Lib.hid (Below.trans X.out x1 : Ext w w5)
  replace T := Lib.hid h1
  clear h1 x1
  go_wp2_with fail
  refine (now_any T.out).mono ?_
  rintro e w6 ⟨rfl, rfl⟩
  go_wp2_with fail
  refine (lag_any T.out).mono ?_
  rintro e w6 ⟨rfl, rfl⟩
  go_wp2
  go_ret
  exact ⟨rfl, X.out⟩

set_option maxHeartbeats 400000 in
theorem nil_now (w : World) : Calls Try.prog 14 #[.pointer none] w fun e w' => e = .returned (.int .i64 0) ∧ w = w' := by
  go_enter Try.func14, Try.ntmps14
  go_wp2
  go_ret
  exact ⟨rfl, rfl⟩
set_option maxHeartbeats 400000 in
theorem nil_lag (w : World) : Calls Try.prog 19 #[.pointer none] w fun e w' => e = .returned (.int .i64 0) ∧ w = w' := by
  go_enter Try.func19, Try.ntmps19
  go_wp2
  go_ret
  exact ⟨rfl, rfl⟩
set_option maxHeartbeats 400000 in
theorem nil_go (n : Int) (w : World) : Calls Try.prog 15 #[.pointer none, .int .i64 n] w fun e w' => e = .returned (.int .i64 0) ∧ w = w' := by
  go_enter Try.func15, Try.ntmps15
  go_wp2
  go_ret
  exact ⟨rfl, rfl⟩
set_option maxHeartbeats 400000 in
theorem nil_right (a b : Int) (w : World) : Calls Try.prog 17 #[.pointer none, .agg #[.int .i64 a, .int .i64 b]] w fun e w' => e = .returned (.int .i64 0) ∧ Ext w w' := by
  go_enter Try.func17, Try.ntmps17
  go_wp2
  go_ret
  exact ⟨rfl, Ext.alloc _ _⟩
set_option maxHeartbeats 1000000 in
theorem walk_TideNone {w : World} : Calls Try.prog 5 #[] w fun e w' => e = .returned (.bool true) ∧ Below w.heap.size w w' := by
  go_enter Try.func5, Try.ntmps5
  go_wp2_with fail
  refine (begun11 w).mono ?_
  rintro e w1 ⟨rfl, x1⟩
  have X := Lib.hid x1
  clear x1
  go_wp2_with fail
  refine (nil_go 1 _).mono ?_
  rintro e w2 ⟨rfl, rfl⟩
  go_wp2_with fail
  refine (nil_right 0 5 _).mono ?_
  rintro e w2 ⟨rfl, x1⟩
  replace X := Lib.hid (X.out.tr x1)
  clear x1
  go_wp2_with fail
  refine (nil_now _).mono ?_
  rintro e w3 ⟨rfl, rfl⟩
  go_wp2_with fail
  refine (nil_lag _).mono ?_
  rintro e w3 ⟨rfl, rfl⟩
  go_wp2
  go_ret
  exact ⟨rfl, X.out⟩
end Go.Proofs.Ytjghjnnmndibcaa
