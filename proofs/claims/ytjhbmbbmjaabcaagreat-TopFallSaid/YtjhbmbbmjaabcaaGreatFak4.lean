/-
  TopFall at some of its inputs, by the kernel. No condition.
-/
import Derived.Test.YtjhbmbbmjaabcaaGreatForceBm
namespace Go.Proofs.YtjhbmbbmjaabcaaGreat
theorem e4_1_0:fallF 4 1 0=true:=by decide +kernel
theorem e4_1_1:fallF 4 1 1=true:=by decide +kernel
theorem e4_1_2:fallF 4 1 2=true:=by decide +kernel
theorem e4_1_3:fallF 4 1 3=true:=by decide +kernel
theorem e4_2_0:fallF 4 2 0=true:=by decide +kernel
theorem e4_2_1:fallF 4 2 1=true:=by decide +kernel
theorem e4_2_2:fallF 4 2 2=true:=by decide +kernel
theorem e4_2_3:fallF 4 2 3=true:=by decide +kernel
end Go.Proofs.YtjhbmbbmjaabcaaGreat
