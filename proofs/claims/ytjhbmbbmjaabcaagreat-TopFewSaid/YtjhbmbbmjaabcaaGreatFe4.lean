/-
  TopFew at some of its inputs, by the kernel. No condition.
-/
import Derived.Test.YtjhbmbbmjaabcaaGreatTop10m
namespace Go.Proofs.YtjhbmbbmjaabcaaGreat
theorem f6_19:fewB 6 19=true:=by decide +kernel
theorem f6_20:fewB 6 20=true:=by decide +kernel
theorem f6_21:fewB 6 21=true:=by decide +kernel
theorem f6_22:fewB 6 22=true:=by decide +kernel
theorem f6_24:fewB 6 24=true:=by decide +kernel
theorem f6_25:fewB 6 25=true:=by decide +kernel
theorem f6_26:fewB 6 26=true:=by decide +kernel
theorem f6_28:fewB 6 28=true:=by decide +kernel
theorem f6_32:fewB 6 32=true:=by decide +kernel
theorem f6_33:fewB 6 33=true:=by decide +kernel
theorem f6_34:fewB 6 34=true:=by decide +kernel
theorem f6_35:fewB 6 35=true:=by decide +kernel
end Go.Proofs.YtjhbmbbmjaabcaaGreat
