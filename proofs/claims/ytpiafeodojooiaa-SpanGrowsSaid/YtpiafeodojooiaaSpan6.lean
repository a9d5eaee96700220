/-
  The walks of SpanWithin, SpanBack, SpanGrows: whatever the numbers of 64 bits, the law returns true. No condition.
-/
import Derived.Test.YtpiafeodojooiaaSpan5
namespace Go.Proofs.Ytpiafeodojooiaa
open Go Go.RowKit
set_option linter.unusedVariables false

set_option maxHeartbeats 2000000 in
theorem walk_SpanWithin {a p : Int} {w : World} (ha : I64 a) (hp : I64 p) :
    Calls Try.prog 9 #[.int .i64 a, .int .i64 p] w fun e w' => e = .returned (.bool true) ∧ Below w.heap.size w w' := by
  have Ha := Lib.hid ha
  have Hp := Lib.hid hp
  clear ha hp
  by_cases c0 : a < 0
  · go_enter Try.func9, Try.ntmps9
    go_wp2_with fail
    refine (begun4 w).mono ?_
    rintro e w1 ⟨rfl, x1⟩
    have X := Lib.hid x1
    clear x1
    go_wp2
    go_ret
    exact ⟨rfl, X.out⟩
  by_cases c1 : 274877906944 < a
  · go_enter Try.func9, Try.ntmps9
    go_wp2_with fail
    refine (begun4 w).mono ?_
    rintro e w1 ⟨rfl, x1⟩
    have X := Lib.hid x1
    clear x1
    go_wp2
    go_ret
    exact ⟨rfl, X.out⟩
  by_cases c2 : p < 0
  · go_enter Try.func9, Try.ntmps9
    go_wp2_with fail
    refine (begun4 w).mono ?_
    rintro e w1 ⟨rfl, x1⟩
    have X := Lib.hid x1
    clear x1
    go_wp2
    go_ret
    exact ⟨rfl, X.out⟩
  by_cases c3 : 500000 < p
  · go_enter Try.func9, Try.ntmps9
    go_wp2_with fail
    refine (begun4 w).mono ?_
    rintro e w1 ⟨rfl, x1⟩
    have X := Lib.hid x1
    clear x1
    go_wp2
    go_ret
    exact ⟨rfl, X.out⟩
  obtain ⟨m1, -, m3, m4, -⟩ := most_is (show 0 ≤ a by omega) (show a ≤ 366503875925 by omega) (show 0 ≤ p by omega) (show p ≤ 500000 by omega)
  obtain ⟨l1, -, l3, l4, -⟩ := least_is (show 0 ≤ a by omega) (show a ≤ 1099511627776 by omega) (show 0 ≤ p by omega) (show p ≤ 500000 by omega)
  have m5 := most_ge (show 0 ≤ a by omega) (show a ≤ 366503875925 by omega) (show 0 ≤ p by omega) (show p ≤ 500000 by omega)
  have M1 := Lib.hid m1
  have L1 := Lib.hid l1
  clear m1 l1
  by_cases hz : p = 0
  · subst hz
    have Z1 := Lib.hid (most_zero (show 0 ≤ a by omega) (by omega))
    have Z2 := Lib.hid (least_zero (show 0 ≤ a by omega) (by omega))
    go_enter Try.func9, Try.ntmps9
    go_wp2_with fail
    refine (begun4 w).mono ?_
    rintro e w1 ⟨rfl, x1⟩
    have X := Lib.hid x1
    clear x1
    go_wp2_with fail
    refine (most_any a 0 Ha.out Hp.out _).mono ?_
    rw [M1.out, Z1.out]
    rintro e w2 ⟨rfl, x1⟩
    replace X := Lib.hid (X.out.tr x1)
    clear x1
    go_wp2_with fail
    refine (least_any a 0 Ha.out Hp.out _).mono ?_
    rw [L1.out, Z2.out]
    rintro e w2 ⟨rfl, x1⟩
    replace X := Lib.hid (X.out.tr x1)
    clear x1
    go_wp2
    go_ret
    exact ⟨rfl, X.out⟩
  · have hz2 : (p != 0) = true := bne_iff_ne.2 hz
    go_enter Try.func9, Try.ntmps9
    go_wp2_with fail
    refine (begun4 w).mono ?_
    rintro e w1 ⟨rfl, x1⟩
    have X := Lib.hid x1
    clear x1
    go_wp2_with fail
    refine (most_any a p Ha.out Hp.out _).mono ?_
    rw [M1.out]
    rintro e w2 ⟨rfl, x1⟩
    replace X := Lib.hid (X.out.tr x1)
    clear x1
    go_wp2_with fail
    refine (least_any a p Ha.out Hp.out _).mono ?_
    rw [L1.out]
    rintro e w2 ⟨rfl, x1⟩
    replace X := Lib.hid (X.out.tr x1)
    clear x1
    generalize mostV a p = u at *
    generalize leastV a p = v at *
    have d1 : decide (v ≤ a) = true := decide_eq_true l4
    have d2 : decide (a ≤ u) = true := decide_eq_true m5
    go_wp2
    go_ret
    exact ⟨rfl, X.out⟩

set_option maxHeartbeats 2000000 in
theorem walk_SpanBack {a p : Int} {w : World} (ha : I64 a) (hp : I64 p) :
    Calls Try.prog 10 #[.int .i64 a, .int .i64 p] w fun e w' => e = .returned (.bool true) ∧ Below w.heap.size w w' := by
  have Ha := Lib.hid ha
  have Hp := Lib.hid hp
  clear ha hp
  by_cases c0 : a < 0
  · go_enter Try.func10, Try.ntmps10
    go_wp2_with fail
    refine (begun4 w).mono ?_
    rintro e w1 ⟨rfl, x1⟩
    have X := Lib.hid x1
    clear x1
    go_wp2
    go_ret
    exact ⟨rfl, X.out⟩
  by_cases c1 : 274877906944 < a
  · go_enter Try.func10, Try.ntmps10
    go_wp2_with fail
    refine (begun4 w).mono ?_
    rintro e w1 ⟨rfl, x1⟩
    have X := Lib.hid x1
    clear x1
    go_wp2
    go_ret
    exact ⟨rfl, X.out⟩
  by_cases c2 : p < 0
  · go_enter Try.func10, Try.ntmps10
    go_wp2_with fail
    refine (begun4 w).mono ?_
    rintro e w1 ⟨rfl, x1⟩
    have X := Lib.hid x1
    clear x1
    go_wp2
    go_ret
    exact ⟨rfl, X.out⟩
  by_cases c3 : 500000 < p
  · go_enter Try.func10, Try.ntmps10
    go_wp2_with fail
    refine (begun4 w).mono ?_
    rintro e w1 ⟨rfl, x1⟩
    have X := Lib.hid x1
    clear x1
    go_wp2
    go_ret
    exact ⟨rfl, X.out⟩
  obtain ⟨m1, -, m3, m4, -⟩ := most_is (show 0 ≤ a by omega) (show a ≤ 366503875925 by omega) (show 0 ≤ p by omega) (show p ≤ 500000 by omega)
  obtain ⟨l1, -, l3, l4, -⟩ := least_is (show 0 ≤ a by omega) (show a ≤ 1099511627776 by omega) (show 0 ≤ p by omega) (show p ≤ 500000 by omega)
  obtain ⟨l5, -, l6, l7, -⟩ := least_is (show 0 ≤ mostV a p by omega) (show mostV a p ≤ 1099511627776 by omega) (show 0 ≤ p by omega) (show p ≤ 500000 by omega)
  obtain ⟨m5, -, m6, m7, -⟩ := most_is (show 0 ≤ leastV a p by omega) (show leastV a p ≤ 366503875925 by omega) (show 0 ≤ p by omega) (show p ≤ 500000 by omega)
  have b1 := back_up (show 0 ≤ a by omega) (show a ≤ 274877906944 by omega) (show 0 ≤ p by omega) (show p ≤ 500000 by omega)
  have b2 := back_down (show 0 ≤ a by omega) (show a ≤ 274877906944 by omega) (show 0 ≤ p by omega) (show p ≤ 500000 by omega)
  have I1 := Lib.hid (i64_small m3 (by omega))
  have I2 := Lib.hid (i64_small l3 (by omega))
  have M1 := Lib.hid m1
  have L1 := Lib.hid l1
  have M5 := Lib.hid m5
  have L5 := Lib.hid l5
  clear m1 l1 m5 l5
  go_enter Try.func10, Try.ntmps10
  go_wp2_with fail
  refine (begun4 w).mono ?_
  rintro e w1 ⟨rfl, x1⟩
  have X := Lib.hid x1
  clear x1
  go_wp2_with fail
  refine (most_any a p Ha.out Hp.out _).mono ?_
  rw [M1.out]
  rintro e w2 ⟨rfl, x1⟩
  replace X := Lib.hid (X.out.tr x1)
  clear x1
  go_wp2_with fail
  refine (least_any (mostV a p) p I1.out Hp.out _).mono ?_
  rw [L5.out]
  rintro e w2 ⟨rfl, x1⟩
  replace X := Lib.hid (X.out.tr x1)
  clear x1
  go_wp2_with fail
  refine (least_any a p Ha.out Hp.out _).mono ?_
  rw [L1.out]
  rintro e w2 ⟨rfl, x1⟩
  replace X := Lib.hid (X.out.tr x1)
  clear x1
  go_wp2_with fail
  refine (most_any (leastV a p) p I2.out Hp.out _).mono ?_
  rw [M5.out]
  rintro e w2 ⟨rfl, x1⟩
  replace X := Lib.hid (X.out.tr x1)
  clear x1
  generalize leastV (mostV a p) p = u at *
  generalize mostV (leastV a p) p = v at *
  have d1 : decide (a ≤ u) = true := decide_eq_true b1
  have d2 : decide (v ≤ a) = true := decide_eq_true b2
  go_wp2
  go_ret
  exact ⟨rfl, X.out⟩

set_option maxHeartbeats 2000000 in
theorem walk_SpanGrows {a b p more : Int} {w : World} (ha : I64 a) (hb : I64 b) (hp : I64 p) (hmore : I64 more) :
    Calls Try.prog 11 #[.int .i64 a, .int .i64 b, .int .i64 p, .int .i64 more] w fun e w' => e = .returned (.bool true) ∧ Below w.heap.size w w' := by
  have Ha := Lib.hid ha
  have Hb := Lib.hid hb
  have Hp := Lib.hid hp
  have Hmore := Lib.hid hmore
  clear ha hb hp hmore
  by_cases c0 : a < 0
  · go_enter Try.func11, Try.ntmps11
    go_wp2_with fail
    refine (begun4 w).mono ?_
    rintro e w1 ⟨rfl, x1⟩
    have X := Lib.hid x1
    clear x1
    go_wp2
    go_ret
    exact ⟨rfl, X.out⟩
  by_cases c1 : b < a
  · go_enter Try.func11, Try.ntmps11
    go_wp2_with fail
    refine (begun4 w).mono ?_
    rintro e w1 ⟨rfl, x1⟩
    have X := Lib.hid x1
    clear x1
    go_wp2
    go_ret
    exact ⟨rfl, X.out⟩
  by_cases c2 : 274877906944 < b
  · go_enter Try.func11, Try.ntmps11
    go_wp2_with fail
    refine (begun4 w).mono ?_
    rintro e w1 ⟨rfl, x1⟩
    have X := Lib.hid x1
    clear x1
    go_wp2
    go_ret
    exact ⟨rfl, X.out⟩
  by_cases c3 : p < 0
  · go_enter Try.func11, Try.ntmps11
    go_wp2_with fail
    refine (begun4 w).mono ?_
    rintro e w1 ⟨rfl, x1⟩
    have X := Lib.hid x1
    clear x1
    go_wp2
    go_ret
    exact ⟨rfl, X.out⟩
  by_cases c4 : more < p
  · go_enter Try.func11, Try.ntmps11
    go_wp2_with fail
    refine (begun4 w).mono ?_
    rintro e w1 ⟨rfl, x1⟩
    have X := Lib.hid x1
    clear x1
    go_wp2
    go_ret
    exact ⟨rfl, X.out⟩
  by_cases c5 : 500000 < more
  · go_enter Try.func11, Try.ntmps11
    go_wp2_with fail
    refine (begun4 w).mono ?_
    rintro e w1 ⟨rfl, x1⟩
    have X := Lib.hid x1
    clear x1
    go_wp2
    go_ret
    exact ⟨rfl, X.out⟩
  have g1 := most_grows (a := a) (b := b) (p := p) (r := p) (by omega) (by omega) (by omega) (by omega) (by omega) (by omega)
  have g2 := most_grows (a := a) (b := a) (p := p) (r := more) (by omega) (by omega) (by omega) (by omega) (by omega) (by omega)
  have g3 := least_grows (a := a) (b := b) (p := p) (r := p) (by omega) (by omega) (by omega) (by omega) (by omega) (by omega)
  have g4 := least_grows (a := a) (b := a) (p := p) (r := more) (by omega) (by omega) (by omega) (by omega) (by omega) (by omega)
  go_enter Try.func11, Try.ntmps11
  go_wp2_with fail
  refine (begun4 w).mono ?_
  rintro e w1 ⟨rfl, x1⟩
  have X := Lib.hid x1
  clear x1
  go_wp2_with fail
  refine (most_any a p Ha.out Hp.out _).mono ?_
  rintro e w2 ⟨rfl, x1⟩
  replace X := Lib.hid (X.out.tr x1)
  clear x1
  go_wp2_with fail
  refine (most_any b p Hb.out Hp.out _).mono ?_
  rintro e w2 ⟨rfl, x1⟩
  replace X := Lib.hid (X.out.tr x1)
  clear x1
  go_wp2_with fail
  refine (most_any a more Ha.out Hmore.out _).mono ?_
  rintro e w2 ⟨rfl, x1⟩
  replace X := Lib.hid (X.out.tr x1)
  clear x1
  go_wp2_with fail
  refine (least_any a p Ha.out Hp.out _).mono ?_
  rintro e w2 ⟨rfl, x1⟩
  replace X := Lib.hid (X.out.tr x1)
  clear x1
  go_wp2_with fail
  refine (least_any b p Hb.out Hp.out _).mono ?_
  rintro e w2 ⟨rfl, x1⟩
  replace X := Lib.hid (X.out.tr x1)
  clear x1
  go_wp2_with fail
  refine (least_any a more Ha.out Hmore.out _).mono ?_
  rintro e w2 ⟨rfl, x1⟩
  replace X := Lib.hid (X.out.tr x1)
  clear x1
  generalize mostV a p = u1 at *
  generalize mostV b p = u2 at *
  generalize mostV a more = u3 at *
  generalize leastV a p = u4 at *
  generalize leastV b p = u5 at *
  generalize leastV a more = u6 at *
  have d1 : decide (u1 ≤ u2) = true := decide_eq_true g1
  have d2 : decide (u1 ≤ u3) = true := decide_eq_true g2
  have d3 : decide (u4 ≤ u5) = true := decide_eq_true g3
  have d4 : decide (u6 ≤ u4) = true := decide_eq_true g4
  go_wp2
  go_ret
  exact ⟨rfl, X.out⟩
end Go.Proofs.Ytpiafeodojooiaa
