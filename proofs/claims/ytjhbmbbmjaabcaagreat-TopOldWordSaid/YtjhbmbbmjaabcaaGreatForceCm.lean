/-
  TopOldWord's run with the plain world told. No condition.
-/
import Derived.Test.YtjhbmbbmjaabcaaGreatForceOwm
import Derived.Test.YtjhbmbbmjaabcaaGreatTop13m
namespace Go.Proofs.YtjhbmbbmjaabcaaGreat
open Go Go.Sort Go.RowKit
set_option linter.unusedVariables false

def oldSF (n c : Nat) : List Nat → LwD → Option LwD
  | [], L => some L
  | r :: l, L => (oldS n c L r).bind fun L => fLw L fun L => oldSF n c l L
theorem oldSF_is (n c : Nat) : ∀ (l : List Nat) (L : LwD), oldSF n c l L = foldO (oldS n c) l L
  | [], L => rfl
  | r :: l, L => by
    unfold oldSF foldO
    cases oldS n c L r with
    | none => rfl
    | some V => exact (fLw_is _ _).trans (oldSF_is n c l V)
def oldRF (n who : Nat) (L : LwD) : Option LwD := (stepX who L).bind fun L3 => (stepS who L3).bind fun L4 => (oldSF n L.W.ns.length (List.range' 0 40) L4).bind fun L5 => (sendsL 1000 L5).bind (roundsF 40)
theorem oldRF_is (n who : Nat) (L : LwD) : oldRF n who L = oldR n who L := by
  unfold oldRF oldR
  simp only [oldSF_is, funext (roundsF_is 40)]
def oldF (n who k : Nat) : Bool := match (wellF n).bind (oldA who k) with
  | some L => fLw L fun L => (match oldRF n who L with
    | some L' => oldE n L'
    | none => false)
  | none => false
theorem oldF_is (n who k : Nat) : oldF n who k = oldB n who k := by
  unfold oldF oldB
  rw [wellF_is]
  simp only [fLw_is, oldRF_is]
  cases (wellL n).bind (oldA who k) <;> rfl
theorem old_of {n who k : Nat} (h : oldF n who k = true) : oldB n who k = true := (oldF_is n who k).symm.trans h
end Go.Proofs.YtjhbmbbmjaabcaaGreat
set_option linter.unusedVariables false
set_option maxRecDepth 8000
set_option maxHeartbeats 8000000

