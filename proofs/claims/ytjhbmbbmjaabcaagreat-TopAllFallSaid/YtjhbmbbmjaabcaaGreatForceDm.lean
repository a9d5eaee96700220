/-
  TopAllFall's run with the plain world told. No condition.
-/
import Derived.Test.YtjhbmbbmjaabcaaGreatForceAfm
import Derived.Test.YtjhbmbbmjaabcaaGreatTop14m
namespace Go.Proofs.YtjhbmbbmjaabcaaGreat
open Go Go.Sort Go.RowKit
set_option linter.unusedVariables false

def afAF (n : Nat) (s : Int) (k : Nat) (L : LwD) : Option LwD := (foldO (afC n) (List.range' 0 k) L).bind fun L1 => (roundsF 6 L1).bind fun L2 => (foldO (pickX s) (List.range' 1 n) L2).bind fun L3 => (roundsF 2 L3).bind fun L4 => (foldO (pickS s) (List.range' 1 n) L4).bind (roundsF 60)
theorem afAF_is (n : Nat) (s : Int) (k : Nat) (L : LwD) : afAF n s k L = afA n s k L := by
  unfold afAF afA
  simp only [roundsF_is, funext (roundsF_is 60)]
def afF (n : Nat) (s : Int) (k : Nat) : Bool := match (wellF n).bind (afAF n s k) with
  | some L => afE n s L
  | none => false
theorem afF_is (n : Nat) (s : Int) (k : Nat) : afF n s k = afB n s k := by
  unfold afF afB
  rw [wellF_is, funext (afAF_is n s k)]
  cases (wellL n).bind (afA n s k) <;> rfl
theorem af_of {n k : Nat} {s : Int} (h : afF n s k = true) : afB n s k = true := (afF_is n s k).symm.trans h
end Go.Proofs.YtjhbmbbmjaabcaaGreat
set_option linter.unusedVariables false
set_option maxRecDepth 8000
set_option maxHeartbeats 8000000

