/-
  TopOldWord at some of its inputs, by the kernel. No condition.
-/
import Derived.Test.YtjhbmbbmjaabcaaGreatForceCm
namespace Go.Proofs.YtjhbmbbmjaabcaaGreat
theorem e4_3_1:oldF 4 3 1=true:=by decide +kernel
theorem e4_3_2:oldF 4 3 2=true:=by decide +kernel
theorem e4_3_3:oldF 4 3 3=true:=by decide +kernel
theorem e4_4_1:oldF 4 4 1=true:=by decide +kernel
theorem e4_4_2:oldF 4 4 2=true:=by decide +kernel
theorem e4_4_3:oldF 4 4 3=true:=by decide +kernel
end Go.Proofs.YtjhbmbbmjaabcaaGreat
