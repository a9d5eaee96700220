/-
  TopHeal at some of its inputs, by the kernel. No condition.
-/
import Derived.Test.YtjhbmbbmjaabcaaGreatForceAm
namespace Go.Proofs.YtjhbmbbmjaabcaaGreat
theorem e5_15_0:healF 5 15 0=true:=by decide +kernel
theorem e5_15_1:healF 5 15 1=true:=by decide +kernel
theorem e5_15_2:healF 5 15 2=true:=by decide +kernel
theorem e5_15_3:healF 5 15 3=true:=by decide +kernel
theorem e5_19_0:healF 5 19 0=true:=by decide +kernel
theorem e5_19_1:healF 5 19 1=true:=by decide +kernel
theorem e5_19_2:healF 5 19 2=true:=by decide +kernel
theorem e5_19_3:healF 5 19 3=true:=by decide +kernel
end Go.Proofs.YtjhbmbbmjaabcaaGreat
