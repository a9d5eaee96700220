/-
  TopHeal at some of its inputs, by the kernel. No condition.
-/
import Derived.Test.YtjhbmbbmjaabcaaGreatForceAm
namespace Go.Proofs.YtjhbmbbmjaabcaaGreat
theorem e4_7_0:healF 4 7 0=true:=by decide +kernel
theorem e4_7_1:healF 4 7 1=true:=by decide +kernel
theorem e4_7_2:healF 4 7 2=true:=by decide +kernel
theorem e4_7_3:healF 4 7 3=true:=by decide +kernel
theorem e4_11_0:healF 4 11 0=true:=by decide +kernel
theorem e4_11_1:healF 4 11 1=true:=by decide +kernel
theorem e4_11_2:healF 4 11 2=true:=by decide +kernel
theorem e4_11_3:healF 4 11 3=true:=by decide +kernel
theorem e4_13_0:healF 4 13 0=true:=by decide +kernel
theorem e4_13_1:healF 4 13 1=true:=by decide +kernel
end Go.Proofs.YtjhbmbbmjaabcaaGreat
