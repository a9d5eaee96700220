/-
  TopOldWord at some of its inputs, by the kernel. No condition.
-/
import Derived.Test.YtjhbmbbmjaabcaaGreatForceCm
namespace Go.Proofs.YtjhbmbbmjaabcaaGreat
theorem e5_2_3:oldF 5 2 3=true:=by decide +kernel
theorem e5_3_1:oldF 5 3 1=true:=by decide +kernel
theorem e5_3_2:oldF 5 3 2=true:=by decide +kernel
theorem e5_3_3:oldF 5 3 3=true:=by decide +kernel
theorem e5_4_1:oldF 5 4 1=true:=by decide +kernel
end Go.Proofs.YtjhbmbbmjaabcaaGreat
