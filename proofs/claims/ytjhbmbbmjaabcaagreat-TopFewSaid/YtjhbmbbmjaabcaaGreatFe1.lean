/-
  TopFew at some of its inputs, by the kernel. No condition.
-/
import Derived.Test.YtjhbmbbmjaabcaaGreatTop10m
namespace Go.Proofs.YtjhbmbbmjaabcaaGreat
theorem f3_0:fewB 3 0=true:=by decide +kernel
theorem f3_1:fewB 3 1=true:=by decide +kernel
theorem f3_2:fewB 3 2=true:=by decide +kernel
theorem f3_4:fewB 3 4=true:=by decide +kernel
theorem f4_0:fewB 4 0=true:=by decide +kernel
theorem f4_1:fewB 4 1=true:=by decide +kernel
theorem f4_2:fewB 4 2=true:=by decide +kernel
theorem f4_3:fewB 4 3=true:=by decide +kernel
theorem f4_4:fewB 4 4=true:=by decide +kernel
theorem f4_5:fewB 4 5=true:=by decide +kernel
theorem f4_6:fewB 4 6=true:=by decide +kernel
theorem f4_8:fewB 4 8=true:=by decide +kernel
theorem f4_9:fewB 4 9=true:=by decide +kernel
theorem f4_10:fewB 4 10=true:=by decide +kernel
theorem f4_12:fewB 4 12=true:=by decide +kernel
theorem f5_0:fewB 5 0=true:=by decide +kernel
theorem f5_1:fewB 5 1=true:=by decide +kernel
theorem f5_2:fewB 5 2=true:=by decide +kernel
theorem f5_3:fewB 5 3=true:=by decide +kernel
theorem f5_4:fewB 5 4=true:=by decide +kernel
theorem f5_5:fewB 5 5=true:=by decide +kernel
end Go.Proofs.YtjhbmbbmjaabcaaGreat
