/-
  TopHeal at some of its inputs, by the kernel. No condition.
-/
import Derived.Test.YtjhbmbbmjaabcaaGreatForceAm
namespace Go.Proofs.YtjhbmbbmjaabcaaGreat
theorem e5_13_0:healF 5 13 0=true:=by decide +kernel
theorem e5_13_1:healF 5 13 1=true:=by decide +kernel
theorem e5_13_2:healF 5 13 2=true:=by decide +kernel
theorem e5_13_3:healF 5 13 3=true:=by decide +kernel
theorem e5_14_0:healF 5 14 0=true:=by decide +kernel
theorem e5_14_1:healF 5 14 1=true:=by decide +kernel
theorem e5_14_2:healF 5 14 2=true:=by decide +kernel
theorem e5_14_3:healF 5 14 3=true:=by decide +kernel
end Go.Proofs.YtjhbmbbmjaabcaaGreat
