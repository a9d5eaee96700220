/-
  TopFall at some of its inputs, by the kernel. No condition.
-/
import Derived.Test.YtjhbmbbmjaabcaaGreatForceBm
namespace Go.Proofs.YtjhbmbbmjaabcaaGreat
theorem e5_1_0:fallF 5 1 0=true:=by decide +kernel
theorem e5_1_1:fallF 5 1 1=true:=by decide +kernel
theorem e5_1_2:fallF 5 1 2=true:=by decide +kernel
theorem e5_1_3:fallF 5 1 3=true:=by decide +kernel
theorem e5_2_0:fallF 5 2 0=true:=by decide +kernel
theorem e5_2_1:fallF 5 2 1=true:=by decide +kernel
theorem e5_2_2:fallF 5 2 2=true:=by decide +kernel
end Go.Proofs.YtjhbmbbmjaabcaaGreat
