/-
  TopHeal at some of its inputs, by the kernel. No condition.
-/
import Derived.Test.YtjhbmbbmjaabcaaGreatForceAm
namespace Go.Proofs.YtjhbmbbmjaabcaaGreat
theorem e4_13_2:healF 4 13 2=true:=by decide +kernel
theorem e4_13_3:healF 4 13 3=true:=by decide +kernel
theorem e4_14_0:healF 4 14 0=true:=by decide +kernel
theorem e4_14_1:healF 4 14 1=true:=by decide +kernel
theorem e4_14_2:healF 4 14 2=true:=by decide +kernel
theorem e4_14_3:healF 4 14 3=true:=by decide +kernel
theorem e4_15_0:healF 4 15 0=true:=by decide +kernel
theorem e4_15_1:healF 4 15 1=true:=by decide +kernel
theorem e4_15_2:healF 4 15 2=true:=by decide +kernel
theorem e4_15_3:healF 4 15 3=true:=by decide +kernel
end Go.Proofs.YtjhbmbbmjaabcaaGreat
