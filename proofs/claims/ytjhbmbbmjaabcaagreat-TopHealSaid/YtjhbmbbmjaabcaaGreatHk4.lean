/-
  TopHeal at some of its inputs, by the kernel. No condition.
-/
import Derived.Test.YtjhbmbbmjaabcaaGreatForceAm
namespace Go.Proofs.YtjhbmbbmjaabcaaGreat
theorem e5_21_0:healF 5 21 0=true:=by decide +kernel
theorem e5_21_1:healF 5 21 1=true:=by decide +kernel
theorem e5_21_2:healF 5 21 2=true:=by decide +kernel
theorem e5_21_3:healF 5 21 3=true:=by decide +kernel
theorem e5_22_0:healF 5 22 0=true:=by decide +kernel
theorem e5_22_1:healF 5 22 1=true:=by decide +kernel
theorem e5_22_2:healF 5 22 2=true:=by decide +kernel
theorem e5_22_3:healF 5 22 3=true:=by decide +kernel
end Go.Proofs.YtjhbmbbmjaabcaaGreat
