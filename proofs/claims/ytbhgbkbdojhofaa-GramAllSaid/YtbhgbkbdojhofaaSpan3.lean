/-
  Contracts of the references' Add, Sub, Longest, Shortest, and of the statements' own beginning. No condition beyond numbers of 64 bits.
-/
import Derived.Test.YtbhgbkbdojhofaaSpan2
namespace Go.Proofs.Ytbhgbkbdojhofaa
open Go Go.RowKit
set_option linter.unusedVariables false

set_option maxHeartbeats 1000000 in
theorem rsub_any (a b : Int) (ha : J64 a) (hb : J64 b) (w : World) : Calls Try.prog 30 #[.int .i64 a, .int .i64 b] w fun e w' => e = .returned (.tuple #[.int .i64 (subV a b), .bool (subOk a b)]) ∧ w = w' := by
  have HO := Lib.hid (show subOk a b = (isT a && isT b && isT (a - b)) from rfl)
  have HV := Lib.hid (show subV a b = if subOk a b then a - b else 0 from rfl)
  cases h1 : isT a
  · have e1 : subOk a b = false := by rw [HO.out, h1]; rfl
    have e2 : subV a b = 0 := by rw [HV.out, e1]; rfl
    rw [e1, e2]
    clear e1 e2 ha hb
    go_enter Try.func30, Try.ntmps30
    go_wp2_with fail
    refine (rtime_any a _).mono ?_
    rw [h1]
    rintro e w1 ⟨rfl, rfl⟩
    go_wp2
    go_ret2
    exact ⟨rfl, rfl⟩
  obtain ⟨a1, a2⟩ := isT_yes h1
  cases h2 : isT b
  · have e1 : subOk a b = false := by rw [HO.out, h2]; simp
    have e2 : subV a b = 0 := by rw [HV.out, e1]; rfl
    rw [e1, e2]
    clear e1 e2 ha hb
    go_enter Try.func30, Try.ntmps30
    go_wp2_with fail
    refine (rtime_any a _).mono ?_
    rw [h1]
    rintro e w1 ⟨rfl, rfl⟩
    go_wp2_with fail
    refine (rtime_any b _).mono ?_
    rw [h2]
    rintro e w1 ⟨rfl, rfl⟩
    go_wp2
    go_ret2
    exact ⟨rfl, rfl⟩
  obtain ⟨b1, b2⟩ := isT_yes h2
  have e1 : subOk a b = isT (a - b) := by rw [HO.out, h1, h2]; rfl
  have e2 : subV a b = if isT (a - b) then a - b else 0 := by rw [HV.out, e1]
  rw [e1, e2]
  clear e1 e2 ha hb
  cases h3 : isT (a - b)
  all_goals
    go_enter Try.func30, Try.ntmps30
    go_wp2_with fail
    refine (rtime_any a _).mono ?_
    rw [h1]
    rintro e w1 ⟨rfl, rfl⟩
    go_wp2_with fail
    refine (rtime_any b _).mono ?_
    rw [h2]
    rintro e w1 ⟨rfl, rfl⟩
    go_wp2_with fail
    refine (rtime_any (a - b) _).mono ?_
    rw [h3]
    rintro e w1 ⟨rfl, rfl⟩
    go_wp2
    go_ret2
    exact ⟨rfl, rfl⟩

end Go.Proofs.Ytbhgbkbdojhofaa
