/-
  Contracts of the references' Longest and Shortest. No condition beyond numbers of 64 bits.
-/
import Derived.Test.YtbhgbkbdojhofaaSpan3
namespace Go.Proofs.Ytbhgbkbdojhofaa
open Go Go.RowKit
set_option linter.unusedVariables false

theorem most_no {a p : Int} (h : okP p = false) : mostOk a p = false ∧ mostV a p = 0 := by
  have e1 : mostOk a p = false := by unfold mostOk; rw [h]; simp
  exact ⟨e1, by unfold mostV; rw [e1]; rfl⟩
theorem least_no {a p : Int} (h : okP p = false) : leastOk a p = false ∧ leastV a p = 0 := by
  have e1 : leastOk a p = false := by unfold leastOk; rw [h]; simp
  exact ⟨e1, by unfold leastV; rw [e1]; rfl⟩

end Go.Proofs.Ytbhgbkbdojhofaa
