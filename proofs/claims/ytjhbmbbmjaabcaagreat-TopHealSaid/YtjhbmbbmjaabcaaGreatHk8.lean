/-
  TopHeal at some of its inputs, by the kernel. No condition.
-/
import Derived.Test.YtjhbmbbmjaabcaaGreatForceAm
namespace Go.Proofs.YtjhbmbbmjaabcaaGreat
theorem e5_30_0:healF 5 30 0=true:=by decide +kernel
theorem e5_30_1:healF 5 30 1=true:=by decide +kernel
theorem e5_30_2:healF 5 30 2=true:=by decide +kernel
theorem e5_30_3:healF 5 30 3=true:=by decide +kernel
theorem e5_31_0:healF 5 31 0=true:=by decide +kernel
theorem e5_31_1:healF 5 31 1=true:=by decide +kernel
theorem e5_31_2:healF 5 31 2=true:=by decide +kernel
theorem e5_31_3:healF 5 31 3=true:=by decide +kernel
end Go.Proofs.YtjhbmbbmjaabcaaGreat
