/-
  The contract of the reference's May: at any entries. Conditions: those written at each.
-/
import Derived.Test.YtgplmbchlahbkaaEntry
namespace Go.Proofs.Ytgplmbchlahbkaa
open Go Go.Sort Go.RowKit
set_option linter.unusedVariables false

set_option maxRecDepth 8000 in
set_option maxHeartbeats 8000000 in
/-- The reference's May -/
theorem rmay_any {e : EnD} {w : World} (he : EnOk e) : Calls Try.prog 35 #[enV e] w fun x w' => x = .returned (.bool (mayB e)) ∧ Ext w w' := by
  obtain ⟨f1, f2, f3, f4, f5, f6, dat⟩ := e
  obtain ⟨-, -, -, -, -, -, i7⟩ := he
  simp only at i7
  obtain ⟨B, hB⟩ : ∃ B, B = mayB ⟨f1, f2, f3, f4, f5, f6, dat⟩ := ⟨_, rfl⟩
  rw [← hB]
  simp only [mayB, inB, Bool.and_assoc] at hB
  have hd16 : decide (dat.size ≤ 16) = decide ((dat.size : Int) ≤ 16) := decide_eq_decide.2 (by omega)
  rw [hd16] at hB
  clear hd16
  have X1 := Lib.hid (Ext.alloc w (.cells (enA ⟨f1, f2, f3, f4, f5, f6, dat⟩) 54))
  cases d0 : decide (1 ≤ f1)
  · rw [d0] at hB
    simp only [Bool.false_and] at hB
    subst hB
    go_enter Try.func35, Try.ntmps35
    go_wp2
    go_ret
    exact ⟨rfl, X1.out⟩
  rw [d0] at hB
  cases d1 : decide (f1 ≤ 7)
  · rw [d1] at hB
    simp only [Bool.true_and, Bool.false_and] at hB
    subst hB
    go_enter Try.func35, Try.ntmps35
    go_wp2
    go_ret
    exact ⟨rfl, X1.out⟩
  rw [d1] at hB
  cases d2 : decide (1 ≤ f2)
  · rw [d2] at hB
    simp only [Bool.true_and, Bool.false_and] at hB
    subst hB
    go_enter Try.func35, Try.ntmps35
    go_wp2
    go_ret
    exact ⟨rfl, X1.out⟩
  rw [d2] at hB
  cases d3 : decide (f2 ≤ 1099511627776)
  · rw [d3] at hB
    simp only [Bool.true_and, Bool.false_and] at hB
    subst hB
    go_enter Try.func35, Try.ntmps35
    go_wp2
    go_ret
    exact ⟨rfl, X1.out⟩
  rw [d3] at hB
  cases d4 : decide (1 ≤ f3)
  · rw [d4] at hB
    simp only [Bool.true_and, Bool.false_and] at hB
    subst hB
    go_enter Try.func35, Try.ntmps35
    go_wp2
    go_ret
    exact ⟨rfl, X1.out⟩
  rw [d4] at hB
  cases d5 : decide (f3 ≤ 1099511627776)
  · rw [d5] at hB
    simp only [Bool.true_and, Bool.false_and] at hB
    subst hB
    go_enter Try.func35, Try.ntmps35
    go_wp2
    go_ret
    exact ⟨rfl, X1.out⟩
  rw [d5] at hB
  cases d6 : decide (0 ≤ f4)
  · rw [d6] at hB
    simp only [Bool.true_and, Bool.false_and] at hB
    subst hB
    go_enter Try.func35, Try.ntmps35
    go_wp2
    go_ret
    exact ⟨rfl, X1.out⟩
  rw [d6] at hB
  cases d7 : decide (f4 ≤ 2)
  · rw [d7] at hB
    simp only [Bool.true_and, Bool.false_and] at hB
    subst hB
    go_enter Try.func35, Try.ntmps35
    go_wp2
    go_ret
    exact ⟨rfl, X1.out⟩
  rw [d7] at hB
  cases d8 : decide (0 ≤ f5)
  · rw [d8] at hB
    simp only [Bool.true_and, Bool.false_and] at hB
    subst hB
    go_enter Try.func35, Try.ntmps35
    go_wp2
    go_ret
    exact ⟨rfl, X1.out⟩
  rw [d8] at hB
  cases d9 : decide (f5 ≤ 2)
  · rw [d9] at hB
    simp only [Bool.true_and, Bool.false_and] at hB
    subst hB
    go_enter Try.func35, Try.ntmps35
    go_wp2
    go_ret
    exact ⟨rfl, X1.out⟩
  rw [d9] at hB
  cases d10 : decide (0 ≤ f6)
  · rw [d10] at hB
    simp only [Bool.true_and, Bool.false_and] at hB
    subst hB
    go_enter Try.func35, Try.ntmps35
    go_wp2
    go_ret
    exact ⟨rfl, X1.out⟩
  rw [d10] at hB
  cases d11 : decide (f6 ≤ 1099511627776)
  · rw [d11] at hB
    simp only [Bool.true_and, Bool.false_and] at hB
    subst hB
    go_enter Try.func35, Try.ntmps35
    go_wp2
    go_ret
    exact ⟨rfl, X1.out⟩
  rw [d11] at hB
  cases d12 : decide ((dat.size : Int) ≤ 16)
  · rw [d12] at hB
    simp only [Bool.true_and] at hB
    subst hB
    go_enter Try.func35, Try.ntmps35
    go_wp2
    go_ret
    exact ⟨rfl, X1.out⟩
  rw [d12] at hB
  simp only [Bool.true_and] at hB
  subst hB
  go_enter Try.func35, Try.ntmps35
  go_wp2
  go_ret
  exact ⟨rfl, X1.out⟩
end Go.Proofs.Ytgplmbchlahbkaa
