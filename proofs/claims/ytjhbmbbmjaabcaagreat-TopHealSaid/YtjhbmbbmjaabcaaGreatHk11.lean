/-
  TopHeal at some of its inputs, by the kernel. No condition.
-/
import Derived.Test.YtjhbmbbmjaabcaaGreatForceAm
namespace Go.Proofs.YtjhbmbbmjaabcaaGreat
theorem e3_3_0:healF 3 3 0=true:=by decide +kernel
theorem e3_3_1:healF 3 3 1=true:=by decide +kernel
theorem e3_3_2:healF 3 3 2=true:=by decide +kernel
theorem e3_3_3:healF 3 3 3=true:=by decide +kernel
theorem e3_5_0:healF 3 5 0=true:=by decide +kernel
theorem e3_5_1:healF 3 5 1=true:=by decide +kernel
theorem e3_5_2:healF 3 5 2=true:=by decide +kernel
theorem e3_5_3:healF 3 5 3=true:=by decide +kernel
theorem e3_6_0:healF 3 6 0=true:=by decide +kernel
theorem e3_6_1:healF 3 6 1=true:=by decide +kernel
theorem e3_6_2:healF 3 6 2=true:=by decide +kernel
theorem e3_6_3:healF 3 6 3=true:=by decide +kernel
theorem e3_7_0:healF 3 7 0=true:=by decide +kernel
theorem e3_7_1:healF 3 7 1=true:=by decide +kernel
theorem e3_7_2:healF 3 7 2=true:=by decide +kernel
theorem e3_7_3:healF 3 7 3=true:=by decide +kernel
end Go.Proofs.YtjhbmbbmjaabcaaGreat
