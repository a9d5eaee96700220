/-
  The statements' begun of stable, the walks of StableNone and StableRise: whatever the numbers, the law returns true.
-/
import Derived.Test.YtkgcmobijbakmaaStable3
import Derived.Test.YtkgcmobijbakmaaInts
namespace Go.Proofs.Ytkgcmobijbakmaa
open Go Go.Sort Go.RowKit
set_option linter.unusedVariables false

set_option maxHeartbeats 400000 in
theorem nil_boot (w : World) : Calls Try.prog 35 #[.pointer none] w fun e w' => e = .returned (.int .i64 0) ∧ w = w' := by
  go_enter Try.func35, Try.ntmps35
  go_wp2
  go_ret
  exact ⟨rfl, rfl⟩
set_option maxHeartbeats 400000 in
theorem nil_view (w : World) : Calls Try.prog 36 #[.pointer none] w fun e w' => e = .returned (.int .i64 0) ∧ w = w' := by
  go_enter Try.func36, Try.ntmps36
  go_wp2
  go_ret
  exact ⟨rfl, rfl⟩
set_option maxHeartbeats 400000 in
theorem nil_start (w : World) : Calls Try.prog 33 #[.pointer none] w fun e w' => e = .returned (.int .i64 0) ∧ w = w' := by
  go_enter Try.func33, Try.ntmps33
  go_wp2
  go_ret
  exact ⟨rfl, rfl⟩
set_option maxHeartbeats 400000 in
theorem nil_promise (v : Int) (w : World) : Calls Try.prog 31 #[.pointer none, .int .i64 v] w fun e w' => e = .returned (.bool false) ∧ w = w' := by
  go_enter Try.func31, Try.ntmps31
  go_wp2
  go_ret
  exact ⟨rfl, rfl⟩
set_option maxHeartbeats 400000 in
theorem nil_bytes (w : World) : Calls Try.prog 34 #[.pointer none] w fun e w' => e = .returned (.slice none 0 0) ∧ w = w' := by
  go_enter Try.func34, Try.ntmps34
  go_wp2
  go_ret
  exact ⟨rfl, rfl⟩

set_option maxRecDepth 8000 in
set_option maxHeartbeats 4000000 in
theorem begun19 (w : World) : Calls Try.prog 30 #[] w fun e w' => e = .returned (.bool true) ∧ Ext w w' := by
  have q1 := Lib.hid (show stR 0 = 1 ∧ stA 0 = 1 from by decide)
  have q2 := Lib.hid (show prB 0 5 = true ∧ prV 0 5 = 5 from by decide)
  have q3 := Lib.hid (show prB 5 5 = false ∧ prV 5 5 = 5 from by decide)
  have j1 : J64 1 := by unfold J64; omega
  have j5 : J64 5 := by unfold J64; omega
  have q4 := Lib.hid (show diskR (diskL 1 5) = some (1, 5) by rw [diskR_bytes j1 j5, if_pos (by decide)])
  have hlen : (diskL 1 5).length ≤ 1000000 := by
    have h1 := enc_len10 j1
    have h2 := enc_len10 j5
    unfold diskL
    rw [sealL_length, List.length_append]
    omega
  have T := Lib.hid (two_new w 0 0 (t := 45))
  have X := Lib.hid (Ext.alloc w (.cells #[.int .i64 0, .int .i64 0] 45))
  go_enter Try.func30, Try.ntmps30
  go_wp2_with fail
  refine (start_only T.out (by omega) (by omega)).mono ?_
  rw [q1.out.1, q1.out.2]
  rintro e w1 ⟨rfl, t1, g1⟩
  replace X := Lib.hid (Below.trans X.out (only_below g1 (Nat.le_refl _) X.out.size))
  replace T := Lib.hid t1
  clear t1 g1
  go_wp2_with fail
  refine (promise_only T.out).mono ?_
  rw [q2.out.1, q2.out.2]
  rintro e w2 ⟨rfl, t1, g1⟩
  replace X := Lib.hid (Below.trans X.out (only_below g1 (Nat.le_refl _) X.out.size))
  replace T := Lib.hid t1
  clear t1 g1
  go_wp2_with fail
  refine (promise_only T.out).mono ?_
  rw [q3.out.1, q3.out.2]
  rintro e w3 ⟨rfl, t1, g1⟩
  replace X := Lib.hid (Below.trans X.out (only_below g1 (Nat.le_refl _) X.out.size))
  replace T := Lib.hid t1
  clear t1 g1
  go_wp2_with fail
  refine (bytes_any T.out j1 j5).mono ?_
  rintro e w4 ⟨p4, n4, c4, rfl, o4, x4⟩
  have O4 := Lib.hid o4.sl
  replace X := Lib.hid (Ext.tr X.out x4)
  replace T := Lib.hid (T.out.ext x4)
  have hn4 : n4 ≤ 1000000 := by have := o4.len; omega
  clear x4 o4
  have RD := sread_any O4.out hn4
  rw [q4.out] at RD
  go_wp2_with fail
  refine RD.mono ?_
  rintro e w5 ⟨g5, rfl, t5, x5⟩
  have D := Lib.hid t5
  replace X := Lib.hid (Ext.tr X.out x5)
  replace T := Lib.hid (T.out.ext x5)
  clear x5 t5 RD
  go_wp2_with fail
  refine (boot_any D.out).mono ?_
  rintro e w6 ⟨rfl, rfl⟩
  go_wp2_with fail
  refine (view_any D.out).mono ?_
  rintro e w6 ⟨rfl, rfl⟩
  go_wp2_with fail
  refine (view_any T.out).mono ?_
  rintro e w6 ⟨rfl, rfl⟩
  go_wp2
  go_ret
  exact ⟨rfl, X.out⟩

set_option maxHeartbeats 2000000 in
theorem walk_StableNone {w : World} : Calls Try.prog 12 #[] w fun e w' => e = .returned (.bool true) ∧ Below w.heap.size w w' := by
  go_enter Try.func12, Try.ntmps12
  go_wp2_with fail
  refine (begun19 w).mono ?_
  rintro e w1 ⟨rfl, x1⟩
  have X := Lib.hid x1
  clear x1
  go_wp2_with fail
  refine (nil_start _).mono ?_
  rintro e w2 ⟨rfl, rfl⟩
  go_wp2_with fail
  refine (nil_promise 1 _).mono ?_
  rintro e w2 ⟨rfl, rfl⟩
  go_wp2_with fail
  refine (nil_boot _).mono ?_
  rintro e w2 ⟨rfl, rfl⟩
  go_wp2_with fail
  refine (nil_view _).mono ?_
  rintro e w2 ⟨rfl, rfl⟩
  go_wp2_with fail
  refine (nil_bytes _).mono ?_
  rintro e w2 ⟨rfl, rfl⟩
  go_wp2
  go_ret
  exact ⟨rfl, X.out⟩
end Go.Proofs.Ytkgcmobijbakmaa
