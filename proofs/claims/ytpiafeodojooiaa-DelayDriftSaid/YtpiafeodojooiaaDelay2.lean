/-
  The walks of the laws of delay: whatever the trip of numbers of 64 bits, the law returns true. No condition.
-/
import Derived.Test.YtpiafeodojooiaaDelay
namespace Go.Proofs.Ytpiafeodojooiaa
open Go Go.RowKit
set_option linter.unusedVariables false

set_option maxHeartbeats 1000000 in
theorem begun9 (w : World) : Calls Try.prog 12 #[] w fun e w' => e = .returned (.bool true) ∧ Ext w w' := by
  have q : ∀ a, -1099511627776 ≤ a → a ≤ 1099511627776 → I64 a := fun a h1 h2 => by unfold I64; omega
  have Q := Lib.hid q
  have B1 := Lib.hid (show bndV 0 500 510 30 0 = 20 ∧ bndOk 0 500 510 30 0 = true from by decide +kernel)
  have B2 := Lib.hid (show fastB 0 0 0 5 0 5 = true ∧ fastB 0 0 0 6 0 5 = false from by decide +kernel)
  clear q
  go_enter Try.func12, Try.ntmps12
  go_wp2_with fail
  refine (bound_any 0 500 510 30 0 (Q.out _ (by omega) (by omega)) (Q.out _ (by omega) (by omega)) (Q.out _ (by omega) (by omega)) (Q.out _ (by omega) (by omega)) _).mono ?_
  rw [B1.out.1, B1.out.2]
  rintro e w1 ⟨rfl, x1⟩
  have X := Lib.hid x1
  clear x1
  go_wp2_with fail
  refine (fast_any 0 0 0 5 0 5 (Q.out _ (by omega) (by omega)) (Q.out _ (by omega) (by omega)) (Q.out _ (by omega) (by omega)) (Q.out _ (by omega) (by omega)) _).mono ?_
  rw [B2.out.1]
  rintro e w1 ⟨rfl, x1⟩
  replace X := Lib.hid (X.out.tr x1)
  clear x1
  go_wp2_with fail
  refine (fast_any 0 0 0 6 0 5 (Q.out _ (by omega) (by omega)) (Q.out _ (by omega) (by omega)) (Q.out _ (by omega) (by omega)) (Q.out _ (by omega) (by omega)) _).mono ?_
  rw [B2.out.2]
  rintro e w1 ⟨rfl, x1⟩
  replace X := Lib.hid (X.out.tr x1)
  clear x1
  go_wp2
  go_ret
  exact ⟨rfl, X.out⟩
end Go.Proofs.Ytpiafeodojooiaa
