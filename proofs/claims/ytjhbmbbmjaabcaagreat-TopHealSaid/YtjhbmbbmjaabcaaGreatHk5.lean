/-
  TopHeal at some of its inputs, by the kernel. No condition.
-/
import Derived.Test.YtjhbmbbmjaabcaaGreatForceAm
namespace Go.Proofs.YtjhbmbbmjaabcaaGreat
theorem e5_23_0:healF 5 23 0=true:=by decide +kernel
theorem e5_23_1:healF 5 23 1=true:=by decide +kernel
theorem e5_23_2:healF 5 23 2=true:=by decide +kernel
theorem e5_23_3:healF 5 23 3=true:=by decide +kernel
theorem e5_25_0:healF 5 25 0=true:=by decide +kernel
theorem e5_25_1:healF 5 25 1=true:=by decide +kernel
theorem e5_25_2:healF 5 25 2=true:=by decide +kernel
theorem e5_25_3:healF 5 25 3=true:=by decide +kernel
end Go.Proofs.YtjhbmbbmjaabcaaGreat
