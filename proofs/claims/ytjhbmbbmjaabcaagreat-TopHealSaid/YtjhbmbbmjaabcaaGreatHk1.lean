/-
  TopHeal at some of its inputs, by the kernel. No condition.
-/
import Derived.Test.YtjhbmbbmjaabcaaGreatForceAm
namespace Go.Proofs.YtjhbmbbmjaabcaaGreat
theorem e5_7_0:healF 5 7 0=true:=by decide +kernel
theorem e5_7_1:healF 5 7 1=true:=by decide +kernel
theorem e5_7_2:healF 5 7 2=true:=by decide +kernel
theorem e5_7_3:healF 5 7 3=true:=by decide +kernel
theorem e5_11_0:healF 5 11 0=true:=by decide +kernel
theorem e5_11_1:healF 5 11 1=true:=by decide +kernel
theorem e5_11_2:healF 5 11 2=true:=by decide +kernel
theorem e5_11_3:healF 5 11 3=true:=by decide +kernel
end Go.Proofs.YtjhbmbbmjaabcaaGreat
