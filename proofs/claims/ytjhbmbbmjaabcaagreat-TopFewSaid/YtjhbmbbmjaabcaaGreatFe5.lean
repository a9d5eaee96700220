/-
  TopFew at some of its inputs, by the kernel. No condition.
-/
import Derived.Test.YtjhbmbbmjaabcaaGreatTop10m
namespace Go.Proofs.YtjhbmbbmjaabcaaGreat
theorem f6_36:fewB 6 36=true:=by decide +kernel
theorem f6_37:fewB 6 37=true:=by decide +kernel
theorem f6_38:fewB 6 38=true:=by decide +kernel
theorem f6_40:fewB 6 40=true:=by decide +kernel
theorem f6_41:fewB 6 41=true:=by decide +kernel
theorem f6_42:fewB 6 42=true:=by decide +kernel
theorem f6_44:fewB 6 44=true:=by decide +kernel
theorem f6_48:fewB 6 48=true:=by decide +kernel
theorem f6_49:fewB 6 49=true:=by decide +kernel
theorem f6_50:fewB 6 50=true:=by decide +kernel
theorem f6_52:fewB 6 52=true:=by decide +kernel
theorem f6_56:fewB 6 56=true:=by decide +kernel
end Go.Proofs.YtjhbmbbmjaabcaaGreat
