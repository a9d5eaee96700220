/-
  TopOldWord at some of its inputs, by the kernel. No condition.
-/
import Derived.Test.YtjhbmbbmjaabcaaGreatForceCm
namespace Go.Proofs.YtjhbmbbmjaabcaaGreat
theorem e5_4_2:oldF 5 4 2=true:=by decide +kernel
theorem e5_4_3:oldF 5 4 3=true:=by decide +kernel
theorem e5_5_1:oldF 5 5 1=true:=by decide +kernel
theorem e5_5_2:oldF 5 5 2=true:=by decide +kernel
theorem e5_5_3:oldF 5 5 3=true:=by decide +kernel
end Go.Proofs.YtjhbmbbmjaabcaaGreat
