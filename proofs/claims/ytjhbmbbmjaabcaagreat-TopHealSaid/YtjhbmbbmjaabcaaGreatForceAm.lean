/-
  TopHeal's run with the plain world told. No condition.
-/
import Derived.Test.YtjhbmbbmjaabcaaGreatForceHm
import Derived.Test.YtjhbmbbmjaabcaaGreatTop11m
namespace Go.Proofs.YtjhbmbbmjaabcaaGreat
open Go Go.Sort Go.RowKit
set_option linter.unusedVariables false

def apF (s : Int) : Nat → LwD → Option LwD
  | 0, L => some L
  | 1, L => apR s L
  | k + 2, L => (apR s L).bind fun L => (apR s L).bind fun L => fLw L fun L => apF s k L
theorem apF_is (s : Int) : ∀ (k : Nat) (L : LwD), apF s k L = apL s k L
  | 0, L => rfl
  | 1, L => by
    show apR s L = (apR s L).bind fun L => some L
    cases apR s L <;> rfl
  | k + 2, L => by
    show (apR s L).bind (fun L => (apR s L).bind fun L => fLw L fun L => apF s k L) = (apR s L).bind fun L => (apR s L).bind fun L => apL s k L
    exact congrArg _ (funext fun L => congrArg _ (funext fun L => (fLw_is _ _).trans (apF_is s k L)))
def healMF (s : Int) (k : Nat) (L1 : LwD) : Option LwD := (onceL L1).bind fun L2 => (foldO (healC (whoT s)) (List.range' 0 k) L2).bind fun L3 => (apF s 5 L3).bind (roundsF 60)
theorem healMF_is (s : Int) (k : Nat) (L1 : LwD) : healMF s k L1 = healM s k L1 := by
  unfold healMF healM
  rw [funext (apF_is s 5), funext (roundsF_is 60)]
def healLF (n : Nat) (s : Int) : Option LwD := (wellF n).bind (apF s 60)
def healF (n : Nat) (s : Int) (k : Nat) : Bool := match healLF n s with
  | some L => oneT s L && (match healMF s k L with
    | some L' => healE n k L'
    | none => false)
  | none => false
theorem healF_is (n : Nat) (s : Int) (k : Nat) : healF n s k = healB n s k := by
  unfold healF healB healLF healL
  rw [wellF_is, funext (apF_is s 60)]
  rcases (wellL n).bind (apL s 60) with _ | L
  · rfl
  · show (oneT s L && (match healMF s k L with | some L' => healE n k L' | none => false)) = (oneT s L && (match healM s k L with | some L' => healE n k L' | none => false))
    rw [healMF_is]
theorem heal_of {n k : Nat} {s : Int} (h : healF n s k = true) : healB n s k = true := (healF_is n s k).symm.trans h
end Go.Proofs.YtjhbmbbmjaabcaaGreat
set_option linter.unusedVariables false
set_option maxRecDepth 8000
set_option maxHeartbeats 8000000

