/-
  TopFew at some of its inputs, by the kernel. No condition.
-/
import Derived.Test.YtjhbmbbmjaabcaaGreatTop10m
namespace Go.Proofs.YtjhbmbbmjaabcaaGreat
theorem f6_6:fewB 6 6=true:=by decide +kernel
theorem f6_7:fewB 6 7=true:=by decide +kernel
theorem f6_8:fewB 6 8=true:=by decide +kernel
theorem f6_9:fewB 6 9=true:=by decide +kernel
theorem f6_10:fewB 6 10=true:=by decide +kernel
theorem f6_11:fewB 6 11=true:=by decide +kernel
theorem f6_12:fewB 6 12=true:=by decide +kernel
theorem f6_13:fewB 6 13=true:=by decide +kernel
theorem f6_14:fewB 6 14=true:=by decide +kernel
theorem f6_16:fewB 6 16=true:=by decide +kernel
theorem f6_17:fewB 6 17=true:=by decide +kernel
theorem f6_18:fewB 6 18=true:=by decide +kernel
end Go.Proofs.YtjhbmbbmjaabcaaGreat
