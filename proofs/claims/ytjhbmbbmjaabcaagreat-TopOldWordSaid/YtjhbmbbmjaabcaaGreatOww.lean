/-
  TopOldWord: for every input. No condition.
-/
import Derived.Test.YtjhbmbbmjaabcaaGreatOwk1
import Derived.Test.YtjhbmbbmjaabcaaGreatOwk2
import Derived.Test.YtjhbmbbmjaabcaaGreatOwk3
import Derived.Test.YtjhbmbbmjaabcaaGreatOwk4
import Derived.Test.YtjhbmbbmjaabcaaGreatOwk5
import Derived.Test.YtjhbmbbmjaabcaaGreatOwk6
set_option linter.unusedVariables false
namespace Go.Proofs.YtjhbmbbmjaabcaaGreat
open Go Go.Sort Go.RowKit
theorem g3:∀ u k:Nat,1≤u→u≤3→1≤k→k<4→oldB 3 u k=true
 |0,_,h,_,_,_=>absurd h (by omega)
 |1,0,_,_,h,_=>absurd h (by omega)
 |1,1,_,_,_,_=>old_of e3_1_1
 |1,2,_,_,_,_=>old_of e3_1_2
 |1,3,_,_,_,_=>old_of e3_1_3
 |1,k+4,_,_,_,h=>absurd h (by omega)
 |2,0,_,_,h,_=>absurd h (by omega)
 |2,1,_,_,_,_=>old_of e3_2_1
 |2,2,_,_,_,_=>old_of e3_2_2
 |2,3,_,_,_,_=>old_of e3_2_3
 |2,k+4,_,_,_,h=>absurd h (by omega)
 |3,0,_,_,h,_=>absurd h (by omega)
 |3,1,_,_,_,_=>old_of e3_3_1
 |3,2,_,_,_,_=>old_of e3_3_2
 |3,3,_,_,_,_=>old_of e3_3_3
 |3,k+4,_,_,_,h=>absurd h (by omega)
 |u+4,_,_,h,_,_=>absurd h (by omega)
theorem g4:∀ u k:Nat,1≤u→u≤4→1≤k→k<4→oldB 4 u k=true
 |0,_,h,_,_,_=>absurd h (by omega)
 |1,0,_,_,h,_=>absurd h (by omega)
 |1,1,_,_,_,_=>old_of e4_1_1
 |1,2,_,_,_,_=>old_of e4_1_2
 |1,3,_,_,_,_=>old_of e4_1_3
 |1,k+4,_,_,_,h=>absurd h (by omega)
 |2,0,_,_,h,_=>absurd h (by omega)
 |2,1,_,_,_,_=>old_of e4_2_1
 |2,2,_,_,_,_=>old_of e4_2_2
 |2,3,_,_,_,_=>old_of e4_2_3
 |2,k+4,_,_,_,h=>absurd h (by omega)
 |3,0,_,_,h,_=>absurd h (by omega)
 |3,1,_,_,_,_=>old_of e4_3_1
 |3,2,_,_,_,_=>old_of e4_3_2
 |3,3,_,_,_,_=>old_of e4_3_3
 |3,k+4,_,_,_,h=>absurd h (by omega)
 |4,0,_,_,h,_=>absurd h (by omega)
 |4,1,_,_,_,_=>old_of e4_4_1
 |4,2,_,_,_,_=>old_of e4_4_2
 |4,3,_,_,_,_=>old_of e4_4_3
 |4,k+4,_,_,_,h=>absurd h (by omega)
 |u+5,_,_,h,_,_=>absurd h (by omega)
theorem g5:∀ u k:Nat,1≤u→u≤5→1≤k→k<4→oldB 5 u k=true
 |0,_,h,_,_,_=>absurd h (by omega)
 |1,0,_,_,h,_=>absurd h (by omega)
 |1,1,_,_,_,_=>old_of e5_1_1
 |1,2,_,_,_,_=>old_of e5_1_2
 |1,3,_,_,_,_=>old_of e5_1_3
 |1,k+4,_,_,_,h=>absurd h (by omega)
 |2,0,_,_,h,_=>absurd h (by omega)
 |2,1,_,_,_,_=>old_of e5_2_1
 |2,2,_,_,_,_=>old_of e5_2_2
 |2,3,_,_,_,_=>old_of e5_2_3
 |2,k+4,_,_,_,h=>absurd h (by omega)
 |3,0,_,_,h,_=>absurd h (by omega)
 |3,1,_,_,_,_=>old_of e5_3_1
 |3,2,_,_,_,_=>old_of e5_3_2
 |3,3,_,_,_,_=>old_of e5_3_3
 |3,k+4,_,_,_,h=>absurd h (by omega)
 |4,0,_,_,h,_=>absurd h (by omega)
 |4,1,_,_,_,_=>old_of e5_4_1
 |4,2,_,_,_,_=>old_of e5_4_2
 |4,3,_,_,_,_=>old_of e5_4_3
 |4,k+4,_,_,_,h=>absurd h (by omega)
 |5,0,_,_,h,_=>absurd h (by omega)
 |5,1,_,_,_,_=>old_of e5_5_1
 |5,2,_,_,_,_=>old_of e5_5_2
 |5,3,_,_,_,_=>old_of e5_5_3
 |5,k+4,_,_,_,h=>absurd h (by omega)
 |u+6,_,_,h,_,_=>absurd h (by omega)
theorem all_in (n u k:Nat) (h3:3≤n) (h5:n≤5) (h1:1≤u) (hu:u≤n) (hl:1≤k) (hk:k<4):oldB n u k=true:=by
 have hn:n=3∨n=4∨n=5:=by omega
 rcases hn with rfl | rfl | rfl
 ·exact g3 u k h1 hu hl hk
 ·exact g4 u k h1 hu hl hk
 ·exact g5 u k h1 hu hl hk
theorem begun_in:begunB=true:=by decide +kernel
theorem walk_TopOldWord {x y z:Int} {w:World} (hx:I64 x) (hy:I64 y) (hz:I64 z):
  Calls Tryz.prog 11 #[.int .i64 x,.int .i64 y,.int .i64 z] w fun e w'=>e=.returned (.bool true)∧Below w.heap.size w w':=
 toldword_any x y z all_in begun_in w
end Go.Proofs.YtjhbmbbmjaabcaaGreat
