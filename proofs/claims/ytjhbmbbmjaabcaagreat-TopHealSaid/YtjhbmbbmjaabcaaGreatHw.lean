/-
  TopHeal: for every input. No condition.
-/
import Derived.Test.YtjhbmbbmjaabcaaGreatHk1
import Derived.Test.YtjhbmbbmjaabcaaGreatHk2
import Derived.Test.YtjhbmbbmjaabcaaGreatHk3
import Derived.Test.YtjhbmbbmjaabcaaGreatHk4
import Derived.Test.YtjhbmbbmjaabcaaGreatHk5
import Derived.Test.YtjhbmbbmjaabcaaGreatHk6
import Derived.Test.YtjhbmbbmjaabcaaGreatHk7
import Derived.Test.YtjhbmbbmjaabcaaGreatHk8
import Derived.Test.YtjhbmbbmjaabcaaGreatHk9
import Derived.Test.YtjhbmbbmjaabcaaGreatHk10
import Derived.Test.YtjhbmbbmjaabcaaGreatHk11
set_option linter.unusedVariables false
namespace Go.Proofs.YtjhbmbbmjaabcaaGreat
open Go Go.Sort Go.RowKit
theorem g3:∀ s k:Nat,s<8→k<4→mostT (s:Int) 3=true→healB 3 (s:Int) k=true
 |0,_,_,_,h=>absurd h (by decide +kernel)
 |1,_,_,_,h=>absurd h (by decide +kernel)
 |2,_,_,_,h=>absurd h (by decide +kernel)
 |3,0,_,_,_=>heal_of e3_3_0
 |3,1,_,_,_=>heal_of e3_3_1
 |3,2,_,_,_=>heal_of e3_3_2
 |3,3,_,_,_=>heal_of e3_3_3
 |3,k+4,_,h,_=>absurd h (by omega)
 |4,_,_,_,h=>absurd h (by decide +kernel)
 |5,0,_,_,_=>heal_of e3_5_0
 |5,1,_,_,_=>heal_of e3_5_1
 |5,2,_,_,_=>heal_of e3_5_2
 |5,3,_,_,_=>heal_of e3_5_3
 |5,k+4,_,h,_=>absurd h (by omega)
 |6,0,_,_,_=>heal_of e3_6_0
 |6,1,_,_,_=>heal_of e3_6_1
 |6,2,_,_,_=>heal_of e3_6_2
 |6,3,_,_,_=>heal_of e3_6_3
 |6,k+4,_,h,_=>absurd h (by omega)
 |7,0,_,_,_=>heal_of e3_7_0
 |7,1,_,_,_=>heal_of e3_7_1
 |7,2,_,_,_=>heal_of e3_7_2
 |7,3,_,_,_=>heal_of e3_7_3
 |7,k+4,_,h,_=>absurd h (by omega)
 |s+8,_,h,_,_=>absurd h (by omega)
theorem g4:∀ s k:Nat,s<16→k<4→mostT (s:Int) 4=true→healB 4 (s:Int) k=true
 |0,_,_,_,h=>absurd h (by decide +kernel)
 |1,_,_,_,h=>absurd h (by decide +kernel)
 |2,_,_,_,h=>absurd h (by decide +kernel)
 |3,_,_,_,h=>absurd h (by decide +kernel)
 |4,_,_,_,h=>absurd h (by decide +kernel)
 |5,_,_,_,h=>absurd h (by decide +kernel)
 |6,_,_,_,h=>absurd h (by decide +kernel)
 |7,0,_,_,_=>heal_of e4_7_0
 |7,1,_,_,_=>heal_of e4_7_1
 |7,2,_,_,_=>heal_of e4_7_2
 |7,3,_,_,_=>heal_of e4_7_3
 |7,k+4,_,h,_=>absurd h (by omega)
 |8,_,_,_,h=>absurd h (by decide +kernel)
 |9,_,_,_,h=>absurd h (by decide +kernel)
 |10,_,_,_,h=>absurd h (by decide +kernel)
 |11,0,_,_,_=>heal_of e4_11_0
 |11,1,_,_,_=>heal_of e4_11_1
 |11,2,_,_,_=>heal_of e4_11_2
 |11,3,_,_,_=>heal_of e4_11_3
 |11,k+4,_,h,_=>absurd h (by omega)
 |12,_,_,_,h=>absurd h (by decide +kernel)
 |13,0,_,_,_=>heal_of e4_13_0
 |13,1,_,_,_=>heal_of e4_13_1
 |13,2,_,_,_=>heal_of e4_13_2
 |13,3,_,_,_=>heal_of e4_13_3
 |13,k+4,_,h,_=>absurd h (by omega)
 |14,0,_,_,_=>heal_of e4_14_0
 |14,1,_,_,_=>heal_of e4_14_1
 |14,2,_,_,_=>heal_of e4_14_2
 |14,3,_,_,_=>heal_of e4_14_3
 |14,k+4,_,h,_=>absurd h (by omega)
 |15,0,_,_,_=>heal_of e4_15_0
 |15,1,_,_,_=>heal_of e4_15_1
 |15,2,_,_,_=>heal_of e4_15_2
 |15,3,_,_,_=>heal_of e4_15_3
 |15,k+4,_,h,_=>absurd h (by omega)
 |s+16,_,h,_,_=>absurd h (by omega)
theorem g5:∀ s k:Nat,s<32→k<4→mostT (s:Int) 5=true→healB 5 (s:Int) k=true
 |0,_,_,_,h=>absurd h (by decide +kernel)
 |1,_,_,_,h=>absurd h (by decide +kernel)
 |2,_,_,_,h=>absurd h (by decide +kernel)
 |3,_,_,_,h=>absurd h (by decide +kernel)
 |4,_,_,_,h=>absurd h (by decide +kernel)
 |5,_,_,_,h=>absurd h (by decide +kernel)
 |6,_,_,_,h=>absurd h (by decide +kernel)
 |7,0,_,_,_=>heal_of e5_7_0
 |7,1,_,_,_=>heal_of e5_7_1
 |7,2,_,_,_=>heal_of e5_7_2
 |7,3,_,_,_=>heal_of e5_7_3
 |7,k+4,_,h,_=>absurd h (by omega)
 |8,_,_,_,h=>absurd h (by decide +kernel)
 |9,_,_,_,h=>absurd h (by decide +kernel)
 |10,_,_,_,h=>absurd h (by decide +kernel)
 |11,0,_,_,_=>heal_of e5_11_0
 |11,1,_,_,_=>heal_of e5_11_1
 |11,2,_,_,_=>heal_of e5_11_2
 |11,3,_,_,_=>heal_of e5_11_3
 |11,k+4,_,h,_=>absurd h (by omega)
 |12,_,_,_,h=>absurd h (by decide +kernel)
 |13,0,_,_,_=>heal_of e5_13_0
 |13,1,_,_,_=>heal_of e5_13_1
 |13,2,_,_,_=>heal_of e5_13_2
 |13,3,_,_,_=>heal_of e5_13_3
 |13,k+4,_,h,_=>absurd h (by omega)
 |14,0,_,_,_=>heal_of e5_14_0
 |14,1,_,_,_=>heal_of e5_14_1
 |14,2,_,_,_=>heal_of e5_14_2
 |14,3,_,_,_=>heal_of e5_14_3
 |14,k+4,_,h,_=>absurd h (by omega)
 |15,0,_,_,_=>heal_of e5_15_0
 |15,1,_,_,_=>heal_of e5_15_1
 |15,2,_,_,_=>heal_of e5_15_2
 |15,3,_,_,_=>heal_of e5_15_3
 |15,k+4,_,h,_=>absurd h (by omega)
 |16,_,_,_,h=>absurd h (by decide +kernel)
 |17,_,_,_,h=>absurd h (by decide +kernel)
 |18,_,_,_,h=>absurd h (by decide +kernel)
 |19,0,_,_,_=>heal_of e5_19_0
 |19,1,_,_,_=>heal_of e5_19_1
 |19,2,_,_,_=>heal_of e5_19_2
 |19,3,_,_,_=>heal_of e5_19_3
 |19,k+4,_,h,_=>absurd h (by omega)
 |20,_,_,_,h=>absurd h (by decide +kernel)
 |21,0,_,_,_=>heal_of e5_21_0
 |21,1,_,_,_=>heal_of e5_21_1
 |21,2,_,_,_=>heal_of e5_21_2
 |21,3,_,_,_=>heal_of e5_21_3
 |21,k+4,_,h,_=>absurd h (by omega)
 |22,0,_,_,_=>heal_of e5_22_0
 |22,1,_,_,_=>heal_of e5_22_1
 |22,2,_,_,_=>heal_of e5_22_2
 |22,3,_,_,_=>heal_of e5_22_3
 |22,k+4,_,h,_=>absurd h (by omega)
 |23,0,_,_,_=>heal_of e5_23_0
 |23,1,_,_,_=>heal_of e5_23_1
 |23,2,_,_,_=>heal_of e5_23_2
 |23,3,_,_,_=>heal_of e5_23_3
 |23,k+4,_,h,_=>absurd h (by omega)
 |24,_,_,_,h=>absurd h (by decide +kernel)
 |25,0,_,_,_=>heal_of e5_25_0
 |25,1,_,_,_=>heal_of e5_25_1
 |25,2,_,_,_=>heal_of e5_25_2
 |25,3,_,_,_=>heal_of e5_25_3
 |25,k+4,_,h,_=>absurd h (by omega)
 |26,0,_,_,_=>heal_of e5_26_0
 |26,1,_,_,_=>heal_of e5_26_1
 |26,2,_,_,_=>heal_of e5_26_2
 |26,3,_,_,_=>heal_of e5_26_3
 |26,k+4,_,h,_=>absurd h (by omega)
 |27,0,_,_,_=>heal_of e5_27_0
 |27,1,_,_,_=>heal_of e5_27_1
 |27,2,_,_,_=>heal_of e5_27_2
 |27,3,_,_,_=>heal_of e5_27_3
 |27,k+4,_,h,_=>absurd h (by omega)
 |28,0,_,_,_=>heal_of e5_28_0
 |28,1,_,_,_=>heal_of e5_28_1
 |28,2,_,_,_=>heal_of e5_28_2
 |28,3,_,_,_=>heal_of e5_28_3
 |28,k+4,_,h,_=>absurd h (by omega)
 |29,0,_,_,_=>heal_of e5_29_0
 |29,1,_,_,_=>heal_of e5_29_1
 |29,2,_,_,_=>heal_of e5_29_2
 |29,3,_,_,_=>heal_of e5_29_3
 |29,k+4,_,h,_=>absurd h (by omega)
 |30,0,_,_,_=>heal_of e5_30_0
 |30,1,_,_,_=>heal_of e5_30_1
 |30,2,_,_,_=>heal_of e5_30_2
 |30,3,_,_,_=>heal_of e5_30_3
 |30,k+4,_,h,_=>absurd h (by omega)
 |31,0,_,_,_=>heal_of e5_31_0
 |31,1,_,_,_=>heal_of e5_31_1
 |31,2,_,_,_=>heal_of e5_31_2
 |31,3,_,_,_=>heal_of e5_31_3
 |31,k+4,_,h,_=>absurd h (by omega)
 |s+32,_,h,_,_=>absurd h (by omega)
theorem all_in (n k:Nat) (s:Int) (h3:3≤n) (h5:n≤5) (hk:k<4) (h0:0≤s) (hs:s<((2^n:Nat):Int)) (hm:mostT s (n:Int)=true):healB n s k=true:=by
 obtain ⟨m,rfl⟩:∃ m:Nat,s=(m:Int):=⟨s.toNat,by omega⟩
 have hm2:m<2^n:=by omega
 have hn:n=3∨n=4∨n=5:=by omega
 rcases hn with rfl | rfl | rfl
 ·exact g3 m k hm2 hk hm
 ·exact g4 m k hm2 hk hm
 ·exact g5 m k hm2 hk hm
theorem begun_in:begunB=true:=by decide +kernel
theorem walk_TopHeal {x y z:Int} {w:World} (hx:I64 x) (hy:I64 y) (hz:I64 z):
  Calls Tryz.prog 4 #[.int .i64 x,.int .i64 y,.int .i64 z] w fun e w'=>e=.returned (.bool true)∧Below w.heap.size w w':=
 theal_any x y z all_in begun_in w
end Go.Proofs.YtjhbmbbmjaabcaaGreat
