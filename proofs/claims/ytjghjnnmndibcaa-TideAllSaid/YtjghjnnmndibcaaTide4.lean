/-
  The walks of TideCatches and TideWithin: whatever the numbers, the law returns true.
-/
import Derived.Test.YtjghjnnmndibcaaTide3
namespace Go.Proofs.Ytjghjnnmndibcaa
open Go Go.Sort Go.RowKit
set_option linter.unusedVariables false

theorem go_two {a b : Int} (ha : 0 ≤ a) (ha2 : a ≤ 4294967296) (hb : 1 ≤ b) : goA a b 2 = a + 1 ∧ goB b 2 = b - 1 := by
  obtain ⟨h1, h2⟩ := go_is (a := a) (b := b) (n := 2) (by omega) (by omega) ha ha2 (by omega)
  rw [h1, h2]
  omega

set_option maxHeartbeats 2000000 in
theorem walk_TideCatches {lag : Int} {w : World} (h1 : I64 lag) :
    Calls Try.prog 4 #[.int .i64 lag] w fun e w' => e = .returned (.bool true) ∧ Below w.heap.size w w' := by
  by_cases c0 : lag < 0
  · go_enter Try.func4, Try.ntmps4
    go_wp2_with fail
    refine (begun11 w).mono ?_
    rintro e w1 ⟨rfl, x1⟩
    have X := Lib.hid x1
    clear x1
    go_wp2
    go_ret
    exact ⟨rfl, X.out⟩
  by_cases c1 : 1000 < lag
  · go_enter Try.func4, Try.ntmps4
    go_wp2_with fail
    refine (begun11 w).mono ?_
    rintro e w1 ⟨rfl, x1⟩
    have X := Lib.hid x1
    clear x1
    go_wp2
    go_ret
    exact ⟨rfl, X.out⟩
  obtain ⟨b1, b2⟩ := back_to (now := 5000) (lag := lag) (by omega) (by omega) (by omega)
  have q0 := Lib.hid (show newA 5000 = 5000 from by decide)
  have B1 := Lib.hid b1
  have B2 := Lib.hid b2
  clear b1 b2
  go_enter Try.func4, Try.ntmps4
  go_wp2_with fail
  refine (begun11 w).mono ?_
  rintro e w1 ⟨rfl, x1⟩
  have X := Lib.hid x1
  clear x1
  go_wp2_with fail
  refine (new_any (n := 5000) (i64s (by omega) (by omega))).mono ?_
  rw [q0.out]
  rintro e w2 ⟨g, rfl, h1, x1⟩
  have T := Lib.hid (Two.base h1 X.out.size)
  replace X := Lib.hid (X.out.tr x1)
  clear h1 x1
  go_wp2_with fail
  refine (right_any T.out (by omega) (by omega) (i64s (by omega) (by omega)) (i64s (by omega) (by omega))).mono ?_
  rw [B1.out, B2.out]
  rintro e w3 ⟨rfl, h1, x1⟩
  replace X := Lib.hid (Below.trans X.out x1 : Ext w w3)
  replace T := Lib.hid h1
  clear h1 x1
  go_wp2_with fail
  refine (lag_any T.out).mono ?_
  rintro e w4 ⟨rfl, rfl⟩
  go_wp2
  go_loopw [5] (fun i wr => ∃ k : Nat, (k : Int) ≤ lag ∧ i = .int .i64 (k : Int) ∧ Two wr w.heap.size g (5000 + (k : Int)) (lag - (k : Int)) ∧ Below w.heap.size w wr) (fun i _ => lag.toNat - (intOf i).toNat)
  case atStart => exact ⟨0, by omega, rfl, by simpa using T.out, X.out⟩
  case round =>
    obtain ⟨k, hk, rfl, ho, hbl⟩ := hrel
    have TO := Lib.hid ho
    have HB := Lib.hid hbl
    clear ho hbl
    by_cases hlt : (k : Int) < lag
    · obtain ⟨g1, g2⟩ := go_two (a := 5000 + (k : Int)) (b := lag - (k : Int)) (by omega) (by omega) (by omega)
      have G1 := Lib.hid g1
      have G2 := Lib.hid g2
      clear g1 g2
      go_wp2_with fail
      refine (go_any TO.out (by omega) (by omega) (by omega) (by omega) (by omega) (by omega)).mono ?_
      rw [G1.out, G2.out]
      rintro e w7 ⟨rfl, h1, x1⟩
      have T7 := Lib.hid h1
      have X7 := Lib.hid (Below.trans HB.out x1)
      clear h1 x1
      go_wp2
      go_round
      case rel =>
        refine ⟨k + 1, by omega, by go_num, ?_, X7.out⟩
        have e1 : 5000 + ((k + 1 : Nat) : Int) = 5000 + (k : Int) + 1 := by omega
        have e2 : lag - ((k + 1 : Nat) : Int) = lag - (k : Int) - 1 := by omega
        rw [e1, e2]
        exact T7.out
      case measure => simp [intOf]; omega
    · have hkl : lag = (k : Int) := by omega
      subst hkl
      rw [show (k : Int) - (k : Int) = 0 by omega] at TO
      go_wp2_with fail
      refine (lag_any TO.out).mono ?_
      rintro e w8 ⟨rfl, rfl⟩
      go_wp2_with fail
      refine (now_any TO.out).mono ?_
      rintro e w8 ⟨rfl, rfl⟩
      go_wp2
      go_ret
      exact ⟨rfl, HB.out⟩

set_option maxHeartbeats 2000000 in
theorem walk_TideWithin {now low width : Int} {w : World} (h1 : I64 now) (h2 : I64 low) (h3 : I64 width) :
    Calls Try.prog 6 #[.int .i64 now, .int .i64 low, .int .i64 width] w fun e w' => e = .returned (.bool true) ∧ Below w.heap.size w w' := by
  by_cases c0 : now < 0
  · go_enter Try.func6, Try.ntmps6
    go_wp2_with fail
    refine (begun11 w).mono ?_
    rintro e w1 ⟨rfl, x1⟩
    have X := Lib.hid x1
    clear x1
    go_wp2
    go_ret
    exact ⟨rfl, X.out⟩
  by_cases c1 : 10000 < now
  · go_enter Try.func6, Try.ntmps6
    go_wp2_with fail
    refine (begun11 w).mono ?_
    rintro e w1 ⟨rfl, x1⟩
    have X := Lib.hid x1
    clear x1
    go_wp2
    go_ret
    exact ⟨rfl, X.out⟩
  by_cases c2 : low < 0
  · go_enter Try.func6, Try.ntmps6
    go_wp2_with fail
    refine (begun11 w).mono ?_
    rintro e w1 ⟨rfl, x1⟩
    have X := Lib.hid x1
    clear x1
    go_wp2
    go_ret
    exact ⟨rfl, X.out⟩
  by_cases c3 : 10000 < low
  · go_enter Try.func6, Try.ntmps6
    go_wp2_with fail
    refine (begun11 w).mono ?_
    rintro e w1 ⟨rfl, x1⟩
    have X := Lib.hid x1
    clear x1
    go_wp2
    go_ret
    exact ⟨rfl, X.out⟩
  by_cases c4 : width < 0
  · go_enter Try.func6, Try.ntmps6
    go_wp2_with fail
    refine (begun11 w).mono ?_
    rintro e w1 ⟨rfl, x1⟩
    have X := Lib.hid x1
    clear x1
    go_wp2
    go_ret
    exact ⟨rfl, X.out⟩
  by_cases c5 : 1000 < width
  · go_enter Try.func6, Try.ntmps6
    go_wp2_with fail
    refine (begun11 w).mono ?_
    rintro e w1 ⟨rfl, x1⟩
    have X := Lib.hid x1
    clear x1
    go_wp2
    go_ret
    exact ⟨rfl, X.out⟩
  obtain ⟨lag, hlag⟩ : ∃ x, x = max 0 (now - low - width) := ⟨_, rfl⟩
  obtain ⟨A, hA⟩ : ∃ x, x = max now low := ⟨_, rfl⟩
  have hz := okR_small (a := low) (b := low + width) (by omega) (by omega) (by omega)
  have r1 : rtA now low (low + width) = A := by
    unfold rtA
    rw [hz, hA]
    by_cases c : low + width < now
    · rw [if_neg (by simp [c])]; omega
    · rw [if_pos ⟨rfl, c⟩]
  have r2 : rtB now 0 low (low + width) = lag := by
    unfold rtB
    rw [hz, if_pos rfl]
    split <;> omega
  have q0 := Lib.hid (show newA now = now from by
    unfold newA
    rw [if_neg]
    simp only [not_or, Decidable.not_not]
    exact ⟨by omega, isT_small (by omega) (by omega)⟩)
  have R1 := Lib.hid r1
  have R2 := Lib.hid r2
  have m1 : ∀ ts t w, (Builtin.max_ ts t #[.int .i64 0, .int .i64 (now - low - width)]).run Try.prog w = .ok (.int .i64 lag) w := fun ts t w => by
    rw [run_max_int2]
    congr 2
    split <;> omega
  have m2 : ∀ ts t w, (Builtin.max_ ts t #[.int .i64 now, .int .i64 low]).run Try.prog w = .ok (.int .i64 A) w := fun ts t w => by
    rw [run_max_int2]
    congr 2
    split <;> omega
  have z1 : 0 ≤ lag ∧ lag ≤ 10000 := by omega
  have z2 : 0 ≤ A ∧ A ≤ 10000 := by omega
  have d1 : decide (low + 2 * lag ≤ A + lag) = true := decide_eq_true (by omega)
  have d2 : decide (A + lag ≤ low + width + 2 * lag) = true := decide_eq_true (by omega)
  clear hlag hA r1 r2 hz
  go_enter Try.func6, Try.ntmps6
  go_wp2_with fail
  refine (begun11 w).mono ?_
  rintro e w1 ⟨rfl, x1⟩
  have X := Lib.hid x1
  clear x1
  go_wp2_with fail
  refine (new_any (n := now) (i64s (by omega) (by omega))).mono ?_
  rw [q0.out]
  rintro e w2 ⟨g, rfl, h1, x1⟩
  have T := Lib.hid (Two.base h1 X.out.size)
  replace X := Lib.hid (X.out.tr x1)
  clear h1 x1
  go_wp2_with fail
  refine (right_any T.out (by omega) (by omega) (i64s (by omega) (by omega)) (i64s (by omega) (by omega))).mono ?_
  rw [R1.out, R2.out]
  rintro e w3 ⟨rfl, h1, x1⟩
  replace X := Lib.hid (Below.trans X.out x1 : Ext w w3)
  replace T := Lib.hid h1
  clear h1 x1
  go_wp2_with fail
  refine (lag_any T.out).mono ?_
  rintro e w4 ⟨rfl, rfl⟩
  go_wp2_with fail
  refine (now_any T.out).mono ?_
  rintro e w4 ⟨rfl, rfl⟩
  go_wp2
  go_loopw [10] (fun i wr => ∃ k : Nat, (k : Int) ≤ lag ∧ i = .int .i64 (k : Int) ∧ Two wr w.heap.size g (A + (k : Int)) (lag - (k : Int)) ∧ Below w.heap.size w wr) (fun i _ => lag.toNat - (intOf i).toNat)
  case atStart => exact ⟨0, by omega, rfl, by simpa using T.out, X.out⟩
  case round =>
    obtain ⟨k, hk, rfl, ho, hbl⟩ := hrel
    have TO := Lib.hid ho
    have HB := Lib.hid hbl
    clear ho hbl
    by_cases hlt : (k : Int) < lag
    · obtain ⟨g1, g2⟩ := go_two (a := A + (k : Int)) (b := lag - (k : Int)) (by omega) (by omega) (by omega)
      have G1 := Lib.hid g1
      have G2 := Lib.hid g2
      clear g1 g2
      go_wp2_with fail
      refine (go_any TO.out (by omega) (by omega) (by omega) (by omega) (by omega) (by omega)).mono ?_
      rw [G1.out, G2.out]
      rintro e w7 ⟨rfl, h1, x1⟩
      have T7 := Lib.hid h1
      have X7 := Lib.hid (Below.trans HB.out x1)
      clear h1 x1
      go_wp2
      go_round
      case rel =>
        refine ⟨k + 1, by omega, by go_num, ?_, X7.out⟩
        have e1 : A + ((k + 1 : Nat) : Int) = A + (k : Int) + 1 := by omega
        have e2 : lag - ((k + 1 : Nat) : Int) = lag - (k : Int) - 1 := by omega
        rw [e1, e2]
        exact T7.out
      case measure => simp [intOf]; omega
    · have hkl : lag = (k : Int) := by omega
      subst hkl
      rw [show (k : Int) - (k : Int) = 0 by omega] at TO
      go_wp2_with fail
      refine (now_any TO.out).mono ?_
      rintro e w8 ⟨rfl, rfl⟩
      go_wp2_with fail
      refine (lag_any TO.out).mono ?_
      rintro e w8 ⟨rfl, rfl⟩
      go_wp2
      go_ret
      exact ⟨rfl, HB.out⟩
end Go.Proofs.Ytjghjnnmndibcaa
