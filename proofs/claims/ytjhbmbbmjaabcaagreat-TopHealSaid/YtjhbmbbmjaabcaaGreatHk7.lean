/-
  TopHeal at some of its inputs, by the kernel. No condition.
-/
import Derived.Test.YtjhbmbbmjaabcaaGreatForceAm
namespace Go.Proofs.YtjhbmbbmjaabcaaGreat
theorem e5_28_0:healF 5 28 0=true:=by decide +kernel
theorem e5_28_1:healF 5 28 1=true:=by decide +kernel
theorem e5_28_2:healF 5 28 2=true:=by decide +kernel
theorem e5_28_3:healF 5 28 3=true:=by decide +kernel
theorem e5_29_0:healF 5 29 0=true:=by decide +kernel
theorem e5_29_1:healF 5 29 1=true:=by decide +kernel
theorem e5_29_2:healF 5 29 2=true:=by decide +kernel
theorem e5_29_3:healF 5 29 3=true:=by decide +kernel
end Go.Proofs.YtjhbmbbmjaabcaaGreat
