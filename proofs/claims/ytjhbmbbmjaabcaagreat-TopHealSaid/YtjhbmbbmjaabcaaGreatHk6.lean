/-
  TopHeal at some of its inputs, by the kernel. No condition.
-/
import Derived.Test.YtjhbmbbmjaabcaaGreatForceAm
namespace Go.Proofs.YtjhbmbbmjaabcaaGreat
theorem e5_26_0:healF 5 26 0=true:=by decide +kernel
theorem e5_26_1:healF 5 26 1=true:=by decide +kernel
theorem e5_26_2:healF 5 26 2=true:=by decide +kernel
theorem e5_26_3:healF 5 26 3=true:=by decide +kernel
theorem e5_27_0:healF 5 27 0=true:=by decide +kernel
theorem e5_27_1:healF 5 27 1=true:=by decide +kernel
theorem e5_27_2:healF 5 27 2=true:=by decide +kernel
theorem e5_27_3:healF 5 27 3=true:=by decide +kernel
end Go.Proofs.YtjhbmbbmjaabcaaGreat
