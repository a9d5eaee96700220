/-
  TopOldWord at some of its inputs, by the kernel. No condition.
-/
import Derived.Test.YtjhbmbbmjaabcaaGreatForceCm
namespace Go.Proofs.YtjhbmbbmjaabcaaGreat
theorem e5_1_1:oldF 5 1 1=true:=by decide +kernel
theorem e5_1_2:oldF 5 1 2=true:=by decide +kernel
theorem e5_1_3:oldF 5 1 3=true:=by decide +kernel
theorem e5_2_1:oldF 5 2 1=true:=by decide +kernel
theorem e5_2_2:oldF 5 2 2=true:=by decide +kernel
end Go.Proofs.YtjhbmbbmjaabcaaGreat
