/-
  TopOldWord at some of its inputs, by the kernel. No condition.
-/
import Derived.Test.YtjhbmbbmjaabcaaGreatForceCm
namespace Go.Proofs.YtjhbmbbmjaabcaaGreat
theorem e4_1_1:oldF 4 1 1=true:=by decide +kernel
theorem e4_1_2:oldF 4 1 2=true:=by decide +kernel
theorem e4_1_3:oldF 4 1 3=true:=by decide +kernel
theorem e4_2_1:oldF 4 2 1=true:=by decide +kernel
theorem e4_2_2:oldF 4 2 2=true:=by decide +kernel
theorem e4_2_3:oldF 4 2 3=true:=by decide +kernel
end Go.Proofs.YtjhbmbbmjaabcaaGreat
