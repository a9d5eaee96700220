/-
  TopAllFall at some of its inputs, by the kernel. No condition.
-/
import Derived.Test.YtjhbmbbmjaabcaaGreatForceDm
namespace Go.Proofs.YtjhbmbbmjaabcaaGreat
theorem e5_23_0:afF 5 23 0=true:=by decide +kernel
theorem e5_23_1:afF 5 23 1=true:=by decide +kernel
theorem e5_23_2:afF 5 23 2=true:=by decide +kernel
theorem e5_23_3:afF 5 23 3=true:=by decide +kernel
theorem e5_25_0:afF 5 25 0=true:=by decide +kernel
theorem e5_25_1:afF 5 25 1=true:=by decide +kernel
theorem e5_25_2:afF 5 25 2=true:=by decide +kernel
theorem e5_25_3:afF 5 25 3=true:=by decide +kernel
end Go.Proofs.YtjhbmbbmjaabcaaGreat
