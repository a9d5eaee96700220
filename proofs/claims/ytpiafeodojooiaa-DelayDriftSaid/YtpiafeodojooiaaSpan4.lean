/-
  Contracts of the references' Longest and Shortest. No condition beyond numbers of 64 bits.
-/
import Derived.Test.YtpiafeodojooiaaSpan3
namespace Go.Proofs.Ytpiafeodojooiaa
open Go Go.RowKit
set_option linter.unusedVariables false

theorem most_no {a p : Int} (h : okP p = false) : mostOk a p = false ∧ mostV a p = 0 := by
  have e1 : mostOk a p = false := by unfold mostOk; rw [h]; simp
  exact ⟨e1, by unfold mostV; rw [e1]; rfl⟩
theorem least_no {a p : Int} (h : okP p = false) : leastOk a p = false ∧ leastV a p = 0 := by
  have e1 : leastOk a p = false := by unfold leastOk; rw [h]; simp
  exact ⟨e1, by unfold leastV; rw [e1]; rfl⟩

theorem scaled_most (a p : Int) (h : okP p = true → 0 ≤ 1000000 + p ∧ 1000000 + p ≤ 1500000 ∧ 1 ≤ 1000000 - p ∧ 1000000 - p ≤ 1500000) (w : World) :
    Calls Try.prog 30 #[.int .i64 a, .int .i64 (1000000 + p), .int .i64 (1000000 - p), .int .i64 p, .bool true] w fun e w' => e = .returned (.tuple #[.int .i64 (mostV a p), .bool (mostOk a p)]) ∧ w = w' := by
  have := scaled_any a (1000000 + p) (1000000 - p) p true h w
  unfold mostV mostOk
  exact this
theorem scaled_least (a p : Int) (h : okP p = true → 0 ≤ 1000000 - p ∧ 1000000 - p ≤ 1500000 ∧ 1 ≤ 1000000 + p ∧ 1000000 + p ≤ 1500000) (w : World) :
    Calls Try.prog 30 #[.int .i64 a, .int .i64 (1000000 - p), .int .i64 (1000000 + p), .int .i64 p, .bool false] w fun e w' => e = .returned (.tuple #[.int .i64 (leastV a p), .bool (leastOk a p)]) ∧ w = w' := by
  have := scaled_any a (1000000 - p) (1000000 + p) p false h w
  unfold leastV leastOk
  exact this

set_option maxHeartbeats 1000000 in
theorem longest_any (a p : Int) (hp : I64 p) (w : World) : Calls Try.prog 22 #[.int .i64 a, .int .i64 p] w fun e w' => e = .returned (.tuple #[.int .i64 (mostV a p), .bool (mostOk a p)]) ∧ w = w' := by
  cases h : okP p
  · obtain ⟨e1, e2⟩ := most_no (a := a) h
    rw [e1, e2]
    clear e1 e2
    go_enter Try.func22, Try.ntmps22
    go_wp2_with fail
    refine (scaled_any a _ _ p true (fun hh => by rw [h] at hh; cases hh) _).mono ?_
    rw [h]
    simp only [Bool.and_false, Bool.false_and]
    rintro e w1 ⟨rfl, rfl⟩
    go_wp2
    go_ret2
    exact ⟨rfl, rfl⟩
  · obtain ⟨p1, p2⟩ := okP_yes h
    have e := Lib.hid (long_pre p)
    clear h
    go_enter Try.func22, Try.ntmps22
    go_wp2_with fail
    refine (scaled_most a p e.out _).mono ?_
    rintro e w1 ⟨rfl, rfl⟩
    go_wp2
    go_ret2
    exact ⟨rfl, rfl⟩

set_option maxHeartbeats 1000000 in
theorem shortest_any (a p : Int) (hp : I64 p) (w : World) : Calls Try.prog 24 #[.int .i64 a, .int .i64 p] w fun e w' => e = .returned (.tuple #[.int .i64 (leastV a p), .bool (leastOk a p)]) ∧ w = w' := by
  cases h : okP p
  · obtain ⟨e1, e2⟩ := least_no (a := a) h
    rw [e1, e2]
    clear e1 e2
    go_enter Try.func24, Try.ntmps24
    go_wp2_with fail
    refine (scaled_any a _ _ p false (fun hh => by rw [h] at hh; cases hh) _).mono ?_
    rw [h]
    simp only [Bool.and_false, Bool.false_and]
    rintro e w1 ⟨rfl, rfl⟩
    go_wp2
    go_ret2
    exact ⟨rfl, rfl⟩
  · obtain ⟨p1, p2⟩ := okP_yes h
    have e := Lib.hid (short_pre p)
    clear h
    go_enter Try.func24, Try.ntmps24
    go_wp2_with fail
    refine (scaled_least a p e.out _).mono ?_
    rintro e w1 ⟨rfl, rfl⟩
    go_wp2
    go_ret2
    exact ⟨rfl, rfl⟩


set_option maxHeartbeats 1000000 in
/-- The statements' own beginning. -/
theorem begun4 (w : World) : Calls Try.prog 16 #[] w fun e w' => e = .returned (.bool true) ∧ Ext w w' := by
  go_enter Try.func16, Try.ntmps16
  go_wp2_with fail
  refine (add_any 3 4 (by unfold I64; omega) (by unfold I64; omega) _).mono ?_
  rw [show addV 3 4 = 7 from rfl, show addOk 3 4 = true from rfl]
  rintro e w1 ⟨rfl, x1⟩
  have X := Lib.hid x1
  clear x1
  go_wp2_with fail
  refine (sub_any 3 4 (by unfold I64; omega) (by unfold I64; omega) _).mono ?_
  rw [show subV 3 4 = -1 from rfl, show subOk 3 4 = true from rfl]
  rintro e w2 ⟨rfl, x1⟩
  replace X := Lib.hid (X.out.tr x1)
  clear x1
  go_wp2_with fail
  refine (add_any 1099511627776 1 (by unfold I64; omega) (by unfold I64; omega) _).mono ?_
  rw [show addV 1099511627776 1 = 0 from rfl, show addOk 1099511627776 1 = false from rfl]
  rintro e w3 ⟨rfl, x1⟩
  replace X := Lib.hid (X.out.tr x1)
  clear x1
  go_wp2_with fail
  refine (most_any 10 100000 (by unfold I64; omega) (by unfold I64; omega) _).mono ?_
  rw [show mostV 10 100000 = 13 from by decide +kernel, show mostOk 10 100000 = true from by decide +kernel]
  rintro e w4 ⟨rfl, x1⟩
  replace X := Lib.hid (X.out.tr x1)
  clear x1
  go_wp2_with fail
  refine (least_any 10 100000 (by unfold I64; omega) (by unfold I64; omega) _).mono ?_
  rw [show leastV 10 100000 = 8 from by decide +kernel, show leastOk 10 100000 = true from by decide +kernel]
  rintro e w5 ⟨rfl, x1⟩
  replace X := Lib.hid (X.out.tr x1)
  clear x1
  go_wp2
  go_ret
  exact ⟨rfl, X.out⟩

set_option maxHeartbeats 2000000 in
theorem walk_SpanAll {a b p : Int} {w : World} (ha : I64 a) (hb : I64 b) (hp : I64 p) :
    Calls Try.prog 7 #[.int .i64 a, .int .i64 b, .int .i64 p] w fun e w' => e = .returned (.bool true) ∧ Below w.heap.size w w' := by
  have HA := Lib.hid ha
  have HB := Lib.hid hb
  have HP := Lib.hid hp
  clear ha hb hp
  go_enter Try.func7, Try.ntmps7
  go_wp2_with fail
  refine (begun4 w).mono ?_
  rintro e w1 ⟨rfl, x1⟩
  have X := Lib.hid x1
  clear x1
  go_wp2_with fail
  refine (add_any a b HA.out HB.out _).mono ?_
  rintro e w2 ⟨rfl, x1⟩
  replace X := Lib.hid (X.out.tr x1)
  clear x1
  go_wp2_with fail
  refine (radd_any a b HA.out HB.out _).mono ?_
  rintro e w3 ⟨rfl, rfl⟩
  go_wp2_with fail
  refine (sub_any a b HA.out HB.out _).mono ?_
  rintro e w3 ⟨rfl, x1⟩
  replace X := Lib.hid (X.out.tr x1)
  clear x1
  go_wp2_with fail
  refine (rsub_any a b HA.out HB.out _).mono ?_
  rintro e w4 ⟨rfl, rfl⟩
  generalize addV a b = v1
  generalize addOk a b = o1
  generalize subV a b = v2
  generalize subOk a b = o2
  go_wp2_with fail
  refine (most_any a p HA.out HP.out _).mono ?_
  rintro e w4 ⟨rfl, x1⟩
  replace X := Lib.hid (X.out.tr x1)
  clear x1
  go_wp2_with fail
  refine (longest_any a p HP.out _).mono ?_
  rintro e w5 ⟨rfl, rfl⟩
  go_wp2_with fail
  refine (least_any a p HA.out HP.out _).mono ?_
  rintro e w5 ⟨rfl, x1⟩
  replace X := Lib.hid (X.out.tr x1)
  clear x1
  go_wp2_with fail
  refine (shortest_any a p HP.out _).mono ?_
  rintro e w6 ⟨rfl, rfl⟩
  generalize mostV a p = v3
  generalize mostOk a p = o3
  generalize leastV a p = v4
  generalize leastOk a p = o4
  go_wp2
  go_ret
  exact ⟨rfl, X.out⟩
end Go.Proofs.Ytpiafeodojooiaa
