/-
  TopFew: for every input. No condition.
-/
import Derived.Test.YtjhbmbbmjaabcaaGreatFe1
import Derived.Test.YtjhbmbbmjaabcaaGreatFe2
import Derived.Test.YtjhbmbbmjaabcaaGreatFe3
import Derived.Test.YtjhbmbbmjaabcaaGreatFe4
import Derived.Test.YtjhbmbbmjaabcaaGreatFe5
set_option linter.unusedVariables false
namespace Go.Proofs.YtjhbmbbmjaabcaaGreat
open Go Go.Sort Go.RowKit
theorem g3:∀ s:Nat,s<8→fewB 3 (s:Int)=true
 |0,_=>f3_0
 |1,_=>f3_1
 |2,_=>f3_2
 |3,_=>by decide +kernel
 |4,_=>f3_4
 |5,_=>by decide +kernel
 |6,_=>by decide +kernel
 |7,_=>by decide +kernel
 |s+8,h=>absurd h (by omega)
theorem g4:∀ s:Nat,s<16→fewB 4 (s:Int)=true
 |0,_=>f4_0
 |1,_=>f4_1
 |2,_=>f4_2
 |3,_=>f4_3
 |4,_=>f4_4
 |5,_=>f4_5
 |6,_=>f4_6
 |7,_=>by decide +kernel
 |8,_=>f4_8
 |9,_=>f4_9
 |10,_=>f4_10
 |11,_=>by decide +kernel
 |12,_=>f4_12
 |13,_=>by decide +kernel
 |14,_=>by decide +kernel
 |15,_=>by decide +kernel
 |s+16,h=>absurd h (by omega)
theorem g5:∀ s:Nat,s<32→fewB 5 (s:Int)=true
 |0,_=>f5_0
 |1,_=>f5_1
 |2,_=>f5_2
 |3,_=>f5_3
 |4,_=>f5_4
 |5,_=>f5_5
 |6,_=>f5_6
 |7,_=>by decide +kernel
 |8,_=>f5_8
 |9,_=>f5_9
 |10,_=>f5_10
 |11,_=>by decide +kernel
 |12,_=>f5_12
 |13,_=>by decide +kernel
 |14,_=>by decide +kernel
 |15,_=>by decide +kernel
 |16,_=>f5_16
 |17,_=>f5_17
 |18,_=>f5_18
 |19,_=>by decide +kernel
 |20,_=>f5_20
 |21,_=>by decide +kernel
 |22,_=>by decide +kernel
 |23,_=>by decide +kernel
 |24,_=>f5_24
 |25,_=>by decide +kernel
 |26,_=>by decide +kernel
 |27,_=>by decide +kernel
 |28,_=>by decide +kernel
 |29,_=>by decide +kernel
 |30,_=>by decide +kernel
 |31,_=>by decide +kernel
 |s+32,h=>absurd h (by omega)
theorem g6:∀ s:Nat,s<64→fewB 6 (s:Int)=true
 |0,_=>f6_0
 |1,_=>f6_1
 |2,_=>f6_2
 |3,_=>f6_3
 |4,_=>f6_4
 |5,_=>f6_5
 |6,_=>f6_6
 |7,_=>f6_7
 |8,_=>f6_8
 |9,_=>f6_9
 |10,_=>f6_10
 |11,_=>f6_11
 |12,_=>f6_12
 |13,_=>f6_13
 |14,_=>f6_14
 |15,_=>by decide +kernel
 |16,_=>f6_16
 |17,_=>f6_17
 |18,_=>f6_18
 |19,_=>f6_19
 |20,_=>f6_20
 |21,_=>f6_21
 |22,_=>f6_22
 |23,_=>by decide +kernel
 |24,_=>f6_24
 |25,_=>f6_25
 |26,_=>f6_26
 |27,_=>by decide +kernel
 |28,_=>f6_28
 |29,_=>by decide +kernel
 |30,_=>by decide +kernel
 |31,_=>by decide +kernel
 |32,_=>f6_32
 |33,_=>f6_33
 |34,_=>f6_34
 |35,_=>f6_35
 |36,_=>f6_36
 |37,_=>f6_37
 |38,_=>f6_38
 |39,_=>by decide +kernel
 |40,_=>f6_40
 |41,_=>f6_41
 |42,_=>f6_42
 |43,_=>by decide +kernel
 |44,_=>f6_44
 |45,_=>by decide +kernel
 |46,_=>by decide +kernel
 |47,_=>by decide +kernel
 |48,_=>f6_48
 |49,_=>f6_49
 |50,_=>f6_50
 |51,_=>by decide +kernel
 |52,_=>f6_52
 |53,_=>by decide +kernel
 |54,_=>by decide +kernel
 |55,_=>by decide +kernel
 |56,_=>f6_56
 |57,_=>by decide +kernel
 |58,_=>by decide +kernel
 |59,_=>by decide +kernel
 |60,_=>by decide +kernel
 |61,_=>by decide +kernel
 |62,_=>by decide +kernel
 |63,_=>by decide +kernel
 |s+64,h=>absurd h (by omega)
theorem few_all (n s:Nat) (h3:3≤n) (h6:n≤6) (hs:s<2^n):fewB n (s:Int)=true:=by
 have hn:n=3∨n=4∨n=5∨n=6:=by omega
 rcases hn with rfl | rfl | rfl | rfl
 ·exact g3 s hs
 ·exact g4 s hs
 ·exact g5 s hs
 ·exact g6 s hs
theorem few_begun:begunB=true:=by decide +kernel
theorem walk_TopFew {x y:Int} {w:World} (hx:I64 x) (hy:I64 y):
  Calls Tryz.prog 5 #[.int .i64 x,.int .i64 y] w fun e w'=>e=.returned (.bool true)∧Below w.heap.size w w':=
 tfew_any x y few_all few_begun w
end Go.Proofs.YtjhbmbbmjaabcaaGreat
