/-
  The walk of TideSlow: whatever the numbers, the law returns true.
-/
import Derived.Test.YtjghjnnmndibcaaTide2
namespace Go.Proofs.Ytjghjnnmndibcaa
open Go Go.Sort Go.RowKit
set_option linter.unusedVariables false

theorem isT_small {x : Int} (h : -1099511627776 ≤ x) (h2 : x ≤ 1099511627776) : isT x = true := (isT_iff x).2 ⟨h, h2⟩
theorem okR_small {a b : Int} (h : a ≤ b) (h1 : -1099511627776 ≤ a) (h2 : b ≤ 1099511627776) : okR a b = true := by
  unfold okR
  rw [decide_eq_true h, isT_small h1 (by omega), isT_small (by omega) h2]; rfl
theorem back_to {now lag : Int} (h0 : 0 ≤ lag) (h1 : lag ≤ now) (h2 : now ≤ 1000000) : rtA now 0 (now - lag) = now ∧ rtB now 0 0 (now - lag) = lag := by
  have hz := okR_small (a := 0) (b := now - lag) (by omega) (by omega) (by omega)
  unfold rtA rtB
  rw [hz]
  constructor
  · split <;> omega
  · rw [if_pos rfl]; split <;> omega
theorem go_is {a b n : Int} (h : 0 ≤ n) (h2 : n ≤ 1048576) (ha : 0 ≤ a) (ha2 : a ≤ 4294967296) (hb : 0 ≤ b) : goA a b n = a + n - min (n - n / 2) b ∧ goB b n = b - min (n - n / 2) b := by
  unfold goA goB
  rw [if_neg (by omega), if_neg (by omega)]
  exact ⟨by omega, rfl⟩

set_option maxHeartbeats 2000000 in
theorem walk_TideSlow {lag n : Int} {w : World} (h1 : I64 lag) (h2 : I64 n) :
    Calls Try.prog 7 #[.int .i64 lag, .int .i64 n] w fun e w' => e = .returned (.bool true) ∧ Below w.heap.size w w' := by
  by_cases c0 : lag < 0
  · go_enter Try.func7, Try.ntmps7
    go_wp2_with fail
    refine (begun11 w).mono ?_
    rintro e w1 ⟨rfl, x1⟩
    have X := Lib.hid x1
    clear x1
    go_wp2
    go_ret
    exact ⟨rfl, X.out⟩
  by_cases c1 : 100000 < lag
  · go_enter Try.func7, Try.ntmps7
    go_wp2_with fail
    refine (begun11 w).mono ?_
    rintro e w1 ⟨rfl, x1⟩
    have X := Lib.hid x1
    clear x1
    go_wp2
    go_ret
    exact ⟨rfl, X.out⟩
  by_cases c2 : n < 0
  · go_enter Try.func7, Try.ntmps7
    go_wp2_with fail
    refine (begun11 w).mono ?_
    rintro e w1 ⟨rfl, x1⟩
    have X := Lib.hid x1
    clear x1
    go_wp2
    go_ret
    exact ⟨rfl, X.out⟩
  by_cases c3 : 100000 < n
  · go_enter Try.func7, Try.ntmps7
    go_wp2_with fail
    refine (begun11 w).mono ?_
    rintro e w1 ⟨rfl, x1⟩
    have X := Lib.hid x1
    clear x1
    go_wp2
    go_ret
    exact ⟨rfl, X.out⟩
  obtain ⟨b1, b2⟩ := back_to (now := 200000) (lag := lag) (by omega) (by omega) (by omega)
  obtain ⟨g1, g2⟩ := go_is (a := 200000) (b := lag) (n := n) (by omega) (by omega) (by omega) (by omega) (by omega)
  have q0 := Lib.hid (show newA 200000 = 200000 from by decide)
  have B1 := Lib.hid b1
  have B2 := Lib.hid b2
  obtain ⟨u, hu⟩ : ∃ u, u = goA 200000 lag n := ⟨_, rfl⟩
  obtain ⟨v, hv⟩ : ∃ v, v = goB lag n := ⟨_, rfl⟩
  rw [← hu] at g1
  rw [← hv] at g2
  have d1 : decide (n / 2 ≤ u - 200000) = true := decide_eq_true (by omega)
  have d2 : decide (u - 200000 ≤ n) = true := decide_eq_true (by omega)
  have hmn : ∀ ts t w, (Builtin.min_ ts t #[.int .i64 lag, .int .i64 (n - n / 2)]).run Try.prog w = .ok (.int .i64 (lag - v)) w := fun ts t w => by
    rw [run_min_int2]
    congr 2
    split <;> omega
  have d3 : lag - (lag - v) = v := by omega
  have b3 : 0 ≤ u ∧ u ≤ 4294967296 := by omega
  have b4 : 0 ≤ v ∧ v ≤ 100000 := by omega
  have HU := Lib.hid hu
  have HV := Lib.hid hv
  clear hu hv b1 b2 g1 g2
  go_enter Try.func7, Try.ntmps7
  go_wp2_with fail
  refine (begun11 w).mono ?_
  rintro e w1 ⟨rfl, x1⟩
  have X := Lib.hid x1
  clear x1
  go_wp2_with fail
  refine (new_any (n := 200000) (i64s (by omega) (by omega))).mono ?_
  rw [q0.out]
  rintro e w2 ⟨g, rfl, h1, x1⟩
  have T := Lib.hid (Two.base h1 X.out.size)
  replace X := Lib.hid (X.out.tr x1)
  clear h1 x1
  go_wp2_with fail
  refine (right_any T.out (by omega) (by omega) (i64s (by omega) (by omega)) (i64s (by omega) (by omega))).mono ?_
  rw [B1.out, B2.out]
  rintro e w3 ⟨rfl, h1, x1⟩
  replace X := Lib.hid (Below.trans X.out x1 : Ext w w3)
  replace T := Lib.hid h1
  clear h1 x1
  go_wp2_with fail
  refine (go_any T.out (by omega) (by omega) (by omega) (by omega) (by omega) (by omega)).mono ?_
  rw [← HU.out, ← HV.out]
  rintro e w4 ⟨rfl, h1, x1⟩
  replace X := Lib.hid (Below.trans X.out x1 : Ext w w4)
  replace T := Lib.hid h1
  clear h1 x1
  go_wp2_with fail
  refine (lag_any T.out).mono ?_
  rintro e w6 ⟨rfl, rfl⟩
  go_wp2
  go_ret
  exact ⟨rfl, X.out⟩
end Go.Proofs.Ytjghjnnmndibcaa
