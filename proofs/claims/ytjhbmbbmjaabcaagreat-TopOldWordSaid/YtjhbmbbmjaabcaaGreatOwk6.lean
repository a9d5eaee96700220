/-
  TopOldWord at some of its inputs, by the kernel. No condition.
-/
import Derived.Test.YtjhbmbbmjaabcaaGreatForceCm
namespace Go.Proofs.YtjhbmbbmjaabcaaGreat
theorem e3_1_1:oldF 3 1 1=true:=by decide +kernel
theorem e3_1_2:oldF 3 1 2=true:=by decide +kernel
theorem e3_1_3:oldF 3 1 3=true:=by decide +kernel
theorem e3_2_1:oldF 3 2 1=true:=by decide +kernel
theorem e3_2_2:oldF 3 2 2=true:=by decide +kernel
theorem e3_2_3:oldF 3 2 3=true:=by decide +kernel
theorem e3_3_1:oldF 3 3 1=true:=by decide +kernel
theorem e3_3_2:oldF 3 3 2=true:=by decide +kernel
theorem e3_3_3:oldF 3 3 3=true:=by decide +kernel
end Go.Proofs.YtjhbmbbmjaabcaaGreat
