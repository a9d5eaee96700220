/-
  The walks of the laws of delay: whatever the trip of numbers of 64 bits, the law returns true. No condition.
-/
import Derived.Test.YtpiafeodojooiaaDelay2
import Derived.Test.YtpiafeodojooiaaSpan5
namespace Go.Proofs.Ytpiafeodojooiaa
open Go Go.RowKit
set_option linter.unusedVariables false

/-! ### The bound, plainly -/
theorem subOk_small {a b : Int} (h1 : 0 ≤ a) (h2 : a ≤ 1099511627776) (h3 : 0 ≤ b) (h4 : b ≤ 1099511627776) : subOk a b = true ∧ subV a b = a - b := by
  have e : subOk a b = true := by unfold subOk; rw [(isT_iff a).2 (by omega), (isT_iff b).2 (by omega), (isT_iff (a - b)).2 (by omega)]; rfl
  exact ⟨e, (sub_yes e).1⟩
theorem bnd_small {s h b c p : Int} (k1 : 0 ≤ s) (k2 : s ≤ c) (k3 : c ≤ 4294967296) (k4 : 0 ≤ h) (k5 : h ≤ b) (k6 : b ≤ 4294967296) (k7 : 0 ≤ p) (k8 : p ≤ 500000) :
    bndOk s h b c p = true ∧ bndV s h b c p = max (bN (c - s) (b - h) p) 0 := by
  obtain ⟨o1, v1⟩ := subOk_small (a := c) (b := s) (by omega) (by omega) (by omega) (by omega)
  obtain ⟨o2, v2⟩ := subOk_small (a := b) (b := h) (by omega) (by omega) (by omega) (by omega)
  obtain ⟨e1, e2⟩ := bnd_yes o1 o2 (by omega) (by omega) (show okP p = true by simp [okP, k7, k8])
  have hq : 1 ≤ 1000000 - p := by omega
  have g1 : 0 ≤ ((c - s) * 1000000 + (1000000 - p) - 1) / (1000000 - p) := Int.ediv_nonneg (by omega) (by omega)
  have g2 : ((c - s) * 1000000 + (1000000 - p) - 1) / (1000000 - p) ≤ 8589934592 := ceil_le (by omega) (by omega)
  have g3 : 0 ≤ (b - h) * 1000000 / (1000000 + p) := Int.ediv_nonneg (by omega) (by omega)
  have g4 : (b - h) * 1000000 / (1000000 + p) < 4294967296 + 1 := (Int.ediv_lt_iff_lt_mul (by omega)).2 (by omega)
  have ht : isT (bN (subV c s) (subV b h) p) = true := by
    rw [v1, v2, isT_iff]; unfold bN; omega
  rw [e1, e2, ht, v1, v2]; exact ⟨rfl, rfl⟩
theorem bnd_told {s h b c p : Int} (hok : bndOk s h b c p = true) : s ≤ c ∧ h ≤ b ∧ 0 ≤ p ∧ p ≤ 500000 := by
  unfold bndOk at hok
  simp only [Bool.and_eq_true, decide_eq_true_eq] at hok
  obtain ⟨⟨⟨⟨⟨o1, o2⟩, k1⟩, k2⟩, hP⟩, -⟩ := hok
  rw [(sub_yes o1).1] at k1
  rw [(sub_yes o2).1] at k2
  obtain ⟨p1, p2⟩ := okP_yes hP
  omega
theorem bN_more {w m h p : Int} (hm : 0 ≤ m) (hp : 0 ≤ p) (hp2 : p ≤ 500000) : bN w h p ≤ bN (w + m) h p := by
  unfold bN
  have := Int.ediv_le_ediv (show 0 < 1000000 - p by omega) (show w * 1000000 + (1000000 - p) - 1 ≤ (w + m) * 1000000 + (1000000 - p) - 1 by omega)
  omega
theorem bN_drift {w h p r : Int} (hw : 0 ≤ w) (hh : 0 ≤ h) (hp : 0 ≤ p) (hpr : p ≤ r) (hr : r ≤ 500000) : bN w h p ≤ bN w h r := by
  unfold bN
  have a1 : (w * 1000000 + (1000000 - p) - 1) / (1000000 - p) ≤ (w * 1000000 + (1000000 - r) - 1) / (1000000 - r) := by
    refine ceil_le (by omega) ?_
    have h0 : 0 ≤ (w * 1000000 + (1000000 - r) - 1) / (1000000 - r) := Int.ediv_nonneg (by omega) (by omega)
    exact Int.le_trans (ceil_ge (q := 1000000 - r) (by omega)) (Int.mul_le_mul_of_nonneg_left (by omega) h0)
  have a2 : h * 1000000 / (1000000 + r) ≤ h * 1000000 / (1000000 + p) := by
    refine le_floor (by omega) ?_
    have h0 : 0 ≤ h * 1000000 / (1000000 + r) := Int.ediv_nonneg (by omega) (by omega)
    exact Int.le_trans (Int.mul_le_mul_of_nonneg_left (by omega) h0) (floor_le (x := h * 1000000) (q := 1000000 + r) (by omega))
  omega
theorem bN_same {w h : Int} : bN w h 0 = w - h := by unfold bN; omega
theorem bnd_more {s h b c p m : Int} (hok : bndOk s h b c p = true) (k1 : 0 ≤ s) (k3 : c ≤ 1073741824) (k4 : 0 ≤ h) (k6 : b ≤ 1073741824) (m1 : 0 ≤ m) (m2 : m ≤ 1073741824) :
    bndOk s h b (c + m) p = true ∧ bndV s h b c p ≤ bndV s h b (c + m) p := by
  obtain ⟨t1, t2, t3, t4⟩ := bnd_told hok
  obtain ⟨-, x2⟩ := bnd_small (s := s) (h := h) (b := b) (c := c) (p := p) (by omega) (by omega) (by omega) (by omega) (by omega) (by omega) (by omega) (by omega)
  obtain ⟨x3, x4⟩ := bnd_small (s := s) (h := h) (b := b) (c := c + m) (p := p) (by omega) (by omega) (by omega) (by omega) (by omega) (by omega) (by omega) (by omega)
  have := bN_more (w := c - s) (m := m) (h := b - h) (p := p) m1 t3 t4
  rw [show c - s + m = c + m - s by omega] at this
  rw [x2, x4]
  exact ⟨x3, by omega⟩
theorem bnd_drift {s h b c p r : Int} (k1 : 0 ≤ s) (k3 : c ≤ 1073741824) (k4 : 0 ≤ h) (k6 : b ≤ 1073741824) (p1 : 0 ≤ p) (p2 : p ≤ r) (p3 : r ≤ 500000) :
    bndOk s h b c p = bndOk s h b c r ∧ (bndOk s h b c r = true → bndV s h b c p ≤ bndV s h b c r) := by
  have up : ∀ {x y : Int}, 0 ≤ y → y ≤ 500000 → bndOk s h b c x = true → bndOk s h b c y = true := fun {x y} y1 y2 hx => by
    obtain ⟨t1, t2, t3, t4⟩ := bnd_told hx
    exact (bnd_small (s := s) (h := h) (b := b) (c := c) (p := y) (by omega) (by omega) (by omega) (by omega) (by omega) (by omega) (by omega) (by omega)).1
  refine ⟨?_, fun hr => ?_⟩
  · rw [Bool.eq_iff_iff]
    exact ⟨up (by omega) (by omega), up (by omega) (by omega)⟩
  · obtain ⟨t1, t2, t3, t4⟩ := bnd_told hr
    rw [(bnd_small (s := s) (h := h) (b := b) (c := c) (p := p) (by omega) (by omega) (by omega) (by omega) (by omega) (by omega) (by omega) (by omega)).2,
      (bnd_small (s := s) (h := h) (b := b) (c := c) (p := r) (by omega) (by omega) (by omega) (by omega) (by omega) (by omega) (by omega) (by omega)).2]
    have := bN_drift (w := c - s) (h := b - h) (p := p) (r := r) (by omega) (by omega) p1 p2 p3
    omega

set_option maxHeartbeats 2000000 in
theorem walk_DelaySame {sent heard stay took : Int} {w : World} (h1 : I64 sent) (h2 : I64 heard) (h3 : I64 stay) (h4 : I64 took) :
    Calls Try.prog 5 #[.int .i64 sent, .int .i64 heard, .int .i64 stay, .int .i64 took] w fun e w' => e = .returned (.bool true) ∧ Below w.heap.size w w' := by
  have H1 := Lib.hid h1
  have H2 := Lib.hid h2
  have H3 := Lib.hid h3
  have H4 := Lib.hid h4
  clear h1 h2 h3 h4
  by_cases c0 : sent < 0
  · go_enter Try.func5, Try.ntmps5
    go_wp2_with fail
    refine (begun9 w).mono ?_
    rintro e w1 ⟨rfl, x1⟩
    have X := Lib.hid x1
    clear x1
    go_wp2
    go_ret
    exact ⟨rfl, X.out⟩
  by_cases c1 : 1073741824 < sent
  · go_enter Try.func5, Try.ntmps5
    go_wp2_with fail
    refine (begun9 w).mono ?_
    rintro e w1 ⟨rfl, x1⟩
    have X := Lib.hid x1
    clear x1
    go_wp2
    go_ret
    exact ⟨rfl, X.out⟩
  by_cases c2 : heard < 0
  · go_enter Try.func5, Try.ntmps5
    go_wp2_with fail
    refine (begun9 w).mono ?_
    rintro e w1 ⟨rfl, x1⟩
    have X := Lib.hid x1
    clear x1
    go_wp2
    go_ret
    exact ⟨rfl, X.out⟩
  by_cases c3 : 1073741824 < heard
  · go_enter Try.func5, Try.ntmps5
    go_wp2_with fail
    refine (begun9 w).mono ?_
    rintro e w1 ⟨rfl, x1⟩
    have X := Lib.hid x1
    clear x1
    go_wp2
    go_ret
    exact ⟨rfl, X.out⟩
  by_cases c4 : stay < 0
  · go_enter Try.func5, Try.ntmps5
    go_wp2_with fail
    refine (begun9 w).mono ?_
    rintro e w1 ⟨rfl, x1⟩
    have X := Lib.hid x1
    clear x1
    go_wp2
    go_ret
    exact ⟨rfl, X.out⟩
  by_cases c5 : 1048576 < stay
  · go_enter Try.func5, Try.ntmps5
    go_wp2_with fail
    refine (begun9 w).mono ?_
    rintro e w1 ⟨rfl, x1⟩
    have X := Lib.hid x1
    clear x1
    go_wp2
    go_ret
    exact ⟨rfl, X.out⟩
  by_cases c6 : took < 0
  · go_enter Try.func5, Try.ntmps5
    go_wp2_with fail
    refine (begun9 w).mono ?_
    rintro e w1 ⟨rfl, x1⟩
    have X := Lib.hid x1
    clear x1
    go_wp2
    go_ret
    exact ⟨rfl, X.out⟩
  by_cases c7 : 1048576 < took
  · go_enter Try.func5, Try.ntmps5
    go_wp2_with fail
    refine (begun9 w).mono ?_
    rintro e w1 ⟨rfl, x1⟩
    have X := Lib.hid x1
    clear x1
    go_wp2
    go_ret
    exact ⟨rfl, X.out⟩
  obtain ⟨b1, b2⟩ := bnd_small (s := sent) (h := heard) (b := heard + stay) (c := sent + stay + took) (p := 0) (by omega) (by omega) (by omega) (by omega) (by omega) (by omega) (by omega) (by omega)
  rw [bN_same, show max (sent + stay + took - sent - (heard + stay - heard)) 0 = took by omega] at b2
  have B1 := Lib.hid b1
  have B2 := Lib.hid b2
  clear b1 b2
  have I := Lib.hid (fun (x : Int) (h1 : 0 ≤ x) (h2 : x ≤ 1099511627776) => i64_small h1 h2)
  go_enter Try.func5, Try.ntmps5
  go_wp2_with fail
  refine (begun9 w).mono ?_
  rintro e w1 ⟨rfl, x1⟩
  have X := Lib.hid x1
  clear x1
  go_wp2_with fail
  refine (bound_any sent heard (heard + stay) (sent + stay + took) 0 (I.out _ (by omega) (by omega)) (I.out _ (by omega) (by omega)) (I.out _ (by omega) (by omega)) (I.out _ (by omega) (by omega)) _).mono ?_
  rw [B1.out, B2.out]
  rintro e w2 ⟨rfl, x1⟩
  replace X := Lib.hid (X.out.tr x1)
  clear x1
  go_wp2
  go_ret
  exact ⟨rfl, X.out⟩

/-! ### Two clocks -/
def went (fast : Bool) (n p : Int) : Int := if fast then rat n (1000000 + p) 1000000 false else rat n (1000000 - p) 1000000 true
theorem went_in {n p : Int} (fast : Bool) (h0 : 0 ≤ n) (hp : 0 ≤ p) (hp2 : p ≤ 500000) :
    0 ≤ went fast n p ∧ went fast n p * 1000000 ≤ n * (1000000 + p) ∧ n * (1000000 - p) ≤ went fast n p * 1000000 := by
  have lo : n * (1000000 - p) ≤ n * 1000000 := Int.mul_le_mul_of_nonneg_left (by omega) h0
  have hi : n * 1000000 ≤ n * (1000000 + p) := Int.mul_le_mul_of_nonneg_left (by omega) h0
  have nn : 0 ≤ n * (1000000 - p) := Int.mul_nonneg h0 (by omega)
  cases fast
  · show 0 ≤ (n * (1000000 - p) + 1000000 - 1) / 1000000 ∧ (n * (1000000 - p) + 1000000 - 1) / 1000000 * 1000000 ≤ _ ∧ _ ≤ (n * (1000000 - p) + 1000000 - 1) / 1000000 * 1000000
    generalize n * (1000000 - p) = x at *
    generalize n * (1000000 + p) = y at *
    omega
  · show 0 ≤ n * (1000000 + p) / 1000000 ∧ n * (1000000 + p) / 1000000 * 1000000 ≤ _ ∧ _ ≤ n * (1000000 + p) / 1000000 * 1000000
    generalize n * (1000000 - p) = x at *
    generalize n * (1000000 + p) = y at *
    omega
theorem went_le {n p : Int} (fast : Bool) (h0 : 0 ≤ n) (hp : 0 ≤ p) (hp2 : p ≤ 500000) : went fast n p ≤ 2 * n := by
  obtain ⟨-, h, -⟩ := went_in fast h0 hp hp2
  have : n * (1000000 + p) ≤ n * 2000000 := Int.mul_le_mul_of_nonneg_left (by omega) h0
  omega
theorem true_way {there stay back p : Int} (fast slow : Bool) (h1 : 0 ≤ there) (h2 : 0 ≤ stay) (h3 : 0 ≤ back) (hp : 0 ≤ p) (hp2 : p ≤ 500000) :
    back ≤ bN (went fast (there + stay + back) p) (went (!slow) stay p) p := by
  obtain ⟨a1, -, a2⟩ := went_in fast (show 0 ≤ there + stay + back by omega) hp hp2
  obtain ⟨b1, b2, -⟩ := went_in (!slow) h2 hp hp2
  generalize went fast (there + stay + back) p = w at *
  generalize went (!slow) stay p = h at *
  unfold bN
  have c1 : there + stay + back ≤ (w * 1000000 + (1000000 - p) - 1) / (1000000 - p) := by
    have := ceil_ge (x := w * 1000000) (q := 1000000 - p) (by omega)
    exact Int.le_of_mul_le_mul_right (Int.le_trans a2 this) (show 0 < 1000000 - p by omega)
  have c2 : h * 1000000 / (1000000 + p) ≤ stay := by
    have := floor_le (x := h * 1000000) (q := 1000000 + p) (by omega)
    exact Int.le_of_mul_le_mul_right (Int.le_trans this b2) (show 0 < 1000000 + p by omega)
  omega

set_option maxHeartbeats 2000000 in
theorem walk_DelayTrue {there stay back first second p : Int} {fast slow : Bool} {w : World} (h1 : I64 there) (h2 : I64 stay) (h3 : I64 back) (h4 : I64 first) (h5 : I64 second) (h6 : I64 p) :
    Calls Try.prog 3 #[.int .i64 there, .int .i64 stay, .int .i64 back, .int .i64 first, .int .i64 second, .int .i64 p, .bool fast, .bool slow] w fun e w' => e = .returned (.bool true) ∧ Below w.heap.size w w' := by
  have H1 := Lib.hid h1
  have H2 := Lib.hid h2
  have H3 := Lib.hid h3
  have H4 := Lib.hid h4
  have H5 := Lib.hid h5
  have H6 := Lib.hid h6
  clear h1 h2 h3 h4 h5 h6
  by_cases c0 : there < 0
  · go_enter Try.func3, Try.ntmps3
    go_wp2_with fail
    refine (begun9 w).mono ?_
    rintro e w1 ⟨rfl, x1⟩
    have X := Lib.hid x1
    clear x1
    go_wp2
    go_ret
    exact ⟨rfl, X.out⟩
  by_cases c1 : 1048576 < there
  · go_enter Try.func3, Try.ntmps3
    go_wp2_with fail
    refine (begun9 w).mono ?_
    rintro e w1 ⟨rfl, x1⟩
    have X := Lib.hid x1
    clear x1
    go_wp2
    go_ret
    exact ⟨rfl, X.out⟩
  by_cases c2 : stay < 0
  · go_enter Try.func3, Try.ntmps3
    go_wp2_with fail
    refine (begun9 w).mono ?_
    rintro e w1 ⟨rfl, x1⟩
    have X := Lib.hid x1
    clear x1
    go_wp2
    go_ret
    exact ⟨rfl, X.out⟩
  by_cases c3 : 1048576 < stay
  · go_enter Try.func3, Try.ntmps3
    go_wp2_with fail
    refine (begun9 w).mono ?_
    rintro e w1 ⟨rfl, x1⟩
    have X := Lib.hid x1
    clear x1
    go_wp2
    go_ret
    exact ⟨rfl, X.out⟩
  by_cases c4 : back < 0
  · go_enter Try.func3, Try.ntmps3
    go_wp2_with fail
    refine (begun9 w).mono ?_
    rintro e w1 ⟨rfl, x1⟩
    have X := Lib.hid x1
    clear x1
    go_wp2
    go_ret
    exact ⟨rfl, X.out⟩
  by_cases c5 : 1048576 < back
  · go_enter Try.func3, Try.ntmps3
    go_wp2_with fail
    refine (begun9 w).mono ?_
    rintro e w1 ⟨rfl, x1⟩
    have X := Lib.hid x1
    clear x1
    go_wp2
    go_ret
    exact ⟨rfl, X.out⟩
  by_cases c6 : first < 0
  · go_enter Try.func3, Try.ntmps3
    go_wp2_with fail
    refine (begun9 w).mono ?_
    rintro e w1 ⟨rfl, x1⟩
    have X := Lib.hid x1
    clear x1
    go_wp2
    go_ret
    exact ⟨rfl, X.out⟩
  by_cases c7 : 1073741824 < first
  · go_enter Try.func3, Try.ntmps3
    go_wp2_with fail
    refine (begun9 w).mono ?_
    rintro e w1 ⟨rfl, x1⟩
    have X := Lib.hid x1
    clear x1
    go_wp2
    go_ret
    exact ⟨rfl, X.out⟩
  by_cases c8 : second < 0
  · go_enter Try.func3, Try.ntmps3
    go_wp2_with fail
    refine (begun9 w).mono ?_
    rintro e w1 ⟨rfl, x1⟩
    have X := Lib.hid x1
    clear x1
    go_wp2
    go_ret
    exact ⟨rfl, X.out⟩
  by_cases c9 : 1073741824 < second
  · go_enter Try.func3, Try.ntmps3
    go_wp2_with fail
    refine (begun9 w).mono ?_
    rintro e w1 ⟨rfl, x1⟩
    have X := Lib.hid x1
    clear x1
    go_wp2
    go_ret
    exact ⟨rfl, X.out⟩
  by_cases c10 : p < 0
  · go_enter Try.func3, Try.ntmps3
    go_wp2_with fail
    refine (begun9 w).mono ?_
    rintro e w1 ⟨rfl, x1⟩
    have X := Lib.hid x1
    clear x1
    go_wp2
    go_ret
    exact ⟨rfl, X.out⟩
  by_cases c11 : 500000 < p
  · go_enter Try.func3, Try.ntmps3
    go_wp2_with fail
    refine (begun9 w).mono ?_
    rintro e w1 ⟨rfl, x1⟩
    have X := Lib.hid x1
    clear x1
    go_wp2
    go_ret
    exact ⟨rfl, X.out⟩
  have tw := true_way (there := there) (stay := stay) (back := back) (p := p) fast slow (by omega) (by omega) (by omega) (by omega) (by omega)
  have z1 := went_le (n := there + stay + back) (p := p) fast (by omega) (by omega) (by omega)
  have z2 := went_le (n := stay) (p := p) (!slow) (by omega) (by omega) (by omega)
  obtain ⟨z3, -, -⟩ := went_in (n := there + stay + back) (p := p) fast (by omega) (by omega) (by omega)
  obtain ⟨z4, -, -⟩ := went_in (n := stay) (p := p) (!slow) (by omega) (by omega) (by omega)
  obtain ⟨u, hu⟩ : ∃ u, u = went fast (there + stay + back) p := ⟨_, rfl⟩
  obtain ⟨v, hv⟩ : ∃ v, v = went (!slow) stay p := ⟨_, rfl⟩
  rw [← hu, ← hv] at tw
  rw [← hu] at z1 z3
  rw [← hv] at z2 z4
  obtain ⟨b1, b2⟩ := bnd_small (s := first) (h := second) (b := second + v) (c := first + u) (p := p) (by omega) (by omega) (by omega) (by omega) (by omega) (by omega) (by omega) (by omega)
  rw [show first + u - first = u by omega, show second + v - second = v by omega] at b2
  have b3 : back ≤ bndV first second (second + v) (first + u) p := by rw [b2]; omega
  generalize hz : bndV first second (second + v) (first + u) p = z at *
  have HU := Lib.hid hu
  have HV := Lib.hid hv
  have HZ := Lib.hid hz
  have B1 := Lib.hid b1
  have d1 : decide (back ≤ z) = true := decide_eq_true b3
  have I := Lib.hid (fun (x : Int) (h1 : 0 ≤ x) (h2 : x ≤ 1099511627776) => i64_small h1 h2)
  clear hu hv hz b1 b2 tw b3
  cases fast <;> cases slow
  · go_enter Try.func3, Try.ntmps3
    go_wp2_with fail
    refine (begun9 w).mono ?_
    rintro e w1 ⟨rfl, x1⟩
    have X := Lib.hid x1
    clear x1
    go_wp2_with fail
    refine (ratio_any (there + stay + back) (1000000 - p) 1000000 true (by omega) (by omega) (by omega) (by omega) (by omega) (by omega) _).mono ?_
    rw [show rat (there + stay + back) (1000000 - p) 1000000 true = u from HU.out.symm]
    rintro e w2 ⟨rfl, rfl⟩
    go_wp2_with fail
    refine (ratio_any stay (1000000 + p) 1000000 false (by omega) (by omega) (by omega) (by omega) (by omega) (by omega) _).mono ?_
    rw [show rat stay (1000000 + p) 1000000 false = v from HV.out.symm]
    rintro e w2 ⟨rfl, rfl⟩
    go_wp2_with fail
    refine (bound_any first second (second + v) (first + u) p (I.out _ (by omega) (by omega)) (I.out _ (by omega) (by omega)) (I.out _ (by omega) (by omega)) (I.out _ (by omega) (by omega)) _).mono ?_
    rw [B1.out, HZ.out]
    rintro e w2 ⟨rfl, x1⟩
    replace X := Lib.hid (X.out.tr x1)
    clear x1
    go_wp2
    go_ret
    exact ⟨rfl, X.out⟩
  · go_enter Try.func3, Try.ntmps3
    go_wp2_with fail
    refine (begun9 w).mono ?_
    rintro e w1 ⟨rfl, x1⟩
    have X := Lib.hid x1
    clear x1
    go_wp2_with fail
    refine (ratio_any (there + stay + back) (1000000 - p) 1000000 true (by omega) (by omega) (by omega) (by omega) (by omega) (by omega) _).mono ?_
    rw [show rat (there + stay + back) (1000000 - p) 1000000 true = u from HU.out.symm]
    rintro e w2 ⟨rfl, rfl⟩
    go_wp2_with fail
    refine (ratio_any stay (1000000 - p) 1000000 true (by omega) (by omega) (by omega) (by omega) (by omega) (by omega) _).mono ?_
    rw [show rat stay (1000000 - p) 1000000 true = v from HV.out.symm]
    rintro e w2 ⟨rfl, rfl⟩
    go_wp2_with fail
    refine (bound_any first second (second + v) (first + u) p (I.out _ (by omega) (by omega)) (I.out _ (by omega) (by omega)) (I.out _ (by omega) (by omega)) (I.out _ (by omega) (by omega)) _).mono ?_
    rw [B1.out, HZ.out]
    rintro e w2 ⟨rfl, x1⟩
    replace X := Lib.hid (X.out.tr x1)
    clear x1
    go_wp2
    go_ret
    exact ⟨rfl, X.out⟩
  · go_enter Try.func3, Try.ntmps3
    go_wp2_with fail
    refine (begun9 w).mono ?_
    rintro e w1 ⟨rfl, x1⟩
    have X := Lib.hid x1
    clear x1
    go_wp2_with fail
    refine (ratio_any (there + stay + back) (1000000 + p) 1000000 false (by omega) (by omega) (by omega) (by omega) (by omega) (by omega) _).mono ?_
    rw [show rat (there + stay + back) (1000000 + p) 1000000 false = u from HU.out.symm]
    rintro e w2 ⟨rfl, rfl⟩
    go_wp2_with fail
    refine (ratio_any stay (1000000 + p) 1000000 false (by omega) (by omega) (by omega) (by omega) (by omega) (by omega) _).mono ?_
    rw [show rat stay (1000000 + p) 1000000 false = v from HV.out.symm]
    rintro e w2 ⟨rfl, rfl⟩
    go_wp2_with fail
    refine (bound_any first second (second + v) (first + u) p (I.out _ (by omega) (by omega)) (I.out _ (by omega) (by omega)) (I.out _ (by omega) (by omega)) (I.out _ (by omega) (by omega)) _).mono ?_
    rw [B1.out, HZ.out]
    rintro e w2 ⟨rfl, x1⟩
    replace X := Lib.hid (X.out.tr x1)
    clear x1
    go_wp2
    go_ret
    exact ⟨rfl, X.out⟩
  · go_enter Try.func3, Try.ntmps3
    go_wp2_with fail
    refine (begun9 w).mono ?_
    rintro e w1 ⟨rfl, x1⟩
    have X := Lib.hid x1
    clear x1
    go_wp2_with fail
    refine (ratio_any (there + stay + back) (1000000 + p) 1000000 false (by omega) (by omega) (by omega) (by omega) (by omega) (by omega) _).mono ?_
    rw [show rat (there + stay + back) (1000000 + p) 1000000 false = u from HU.out.symm]
    rintro e w2 ⟨rfl, rfl⟩
    go_wp2_with fail
    refine (ratio_any stay (1000000 - p) 1000000 true (by omega) (by omega) (by omega) (by omega) (by omega) (by omega) _).mono ?_
    rw [show rat stay (1000000 - p) 1000000 true = v from HV.out.symm]
    rintro e w2 ⟨rfl, rfl⟩
    go_wp2_with fail
    refine (bound_any first second (second + v) (first + u) p (I.out _ (by omega) (by omega)) (I.out _ (by omega) (by omega)) (I.out _ (by omega) (by omega)) (I.out _ (by omega) (by omega)) _).mono ?_
    rw [B1.out, HZ.out]
    rintro e w2 ⟨rfl, x1⟩
    replace X := Lib.hid (X.out.tr x1)
    clear x1
    go_wp2
    go_ret
    exact ⟨rfl, X.out⟩
end Go.Proofs.Ytpiafeodojooiaa
