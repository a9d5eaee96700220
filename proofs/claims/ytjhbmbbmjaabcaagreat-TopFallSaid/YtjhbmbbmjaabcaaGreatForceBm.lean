/-
  TopFall's run with the plain world told. No condition.
-/
import Derived.Test.YtjhbmbbmjaabcaaGreatForceFam
import Derived.Test.YtjhbmbbmjaabcaaGreatTop12m
namespace Go.Proofs.YtjhbmbbmjaabcaaGreat
open Go Go.Sort Go.RowKit
set_option linter.unusedVariables false

def fallAF (who k d : Nat) (L : LwD) : Option LwD := (foldO (decC d) (List.range' 0 k) L).bind fun L1 => (roundsF 6 L1).bind fun L2 => (stepX who L2).bind fun L3 => (roundsF 2 L3).bind (stepS who)
theorem fallAF_is (who k d : Nat) (L : LwD) : fallAF who k d L = fallA who k d L := by
  unfold fallAF fallA
  simp only [roundsF_is]
def fallF (n who k : Nat) : Bool := match (wellF n).bind (fallAF who k (1 + who % n)) with
  | some L => newS L who && match roundsF 80 L with
    | some L6 => oneT (fullT n) L6 && sameT k L6 who (1 + who % n)
    | none => false
  | none => false
theorem fallF_is (n who k : Nat) : fallF n who k = fallB n who k := by
  unfold fallF fallB fallR
  rw [wellF_is, funext (fallAF_is who k (1 + who % n))]
  simp only [roundsF_is]
  cases (wellL n).bind (fallA who k (1 + who % n)) <;> rfl
theorem fall_of {n who k : Nat} (h : fallF n who k = true) : fallB n who k = true := (fallF_is n who k).symm.trans h
end Go.Proofs.YtjhbmbbmjaabcaaGreat
set_option linter.unusedVariables false
set_option maxRecDepth 8000
set_option maxHeartbeats 8000000

