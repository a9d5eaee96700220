/-
  TopFew at some of its inputs, by the kernel. No condition.
-/
import Derived.Test.YtjhbmbbmjaabcaaGreatTop10m
namespace Go.Proofs.YtjhbmbbmjaabcaaGreat
theorem f5_6:fewB 5 6=true:=by decide +kernel
theorem f5_8:fewB 5 8=true:=by decide +kernel
theorem f5_9:fewB 5 9=true:=by decide +kernel
theorem f5_10:fewB 5 10=true:=by decide +kernel
theorem f5_12:fewB 5 12=true:=by decide +kernel
theorem f5_16:fewB 5 16=true:=by decide +kernel
theorem f5_17:fewB 5 17=true:=by decide +kernel
theorem f5_18:fewB 5 18=true:=by decide +kernel
theorem f5_20:fewB 5 20=true:=by decide +kernel
theorem f5_24:fewB 5 24=true:=by decide +kernel
theorem f6_0:fewB 6 0=true:=by decide +kernel
theorem f6_1:fewB 6 1=true:=by decide +kernel
theorem f6_2:fewB 6 2=true:=by decide +kernel
theorem f6_3:fewB 6 3=true:=by decide +kernel
theorem f6_4:fewB 6 4=true:=by decide +kernel
theorem f6_5:fewB 6 5=true:=by decide +kernel
end Go.Proofs.YtjhbmbbmjaabcaaGreat
