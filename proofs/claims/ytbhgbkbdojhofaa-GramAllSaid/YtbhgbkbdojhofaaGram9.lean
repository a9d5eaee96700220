/-
  The contract of the reference's Bound: what delay.Bound tells. Conditions stand at it.
-/
import Derived.Test.YtbhgbkbdojhofaaDelay
namespace Go.Proofs.Ytbhgbkbdojhofaa
open Go Go.Sort Go.RowKit
set_option linter.unusedVariables false

set_option maxRecDepth 8000 in
set_option maxHeartbeats 4000000 in
theorem rbound_any (s h b c p : Int) (hs : J64 s) (hh : J64 h) (hb : J64 b) (hc : J64 c) (w : World) :
    Calls Try.prog 18 #[.agg #[.int .i64 s, .int .i64 h, .int .i64 b, .int .i64 c], .int .i64 p] w fun e w' => e = .returned (.tuple #[.int .i64 (bndV s h b c p), .bool (bndOk s h b c p)]) ∧ Ext w w' := by
  have X := Lib.hid (Ext.alloc w (.cells #[.int .i64 s, .int .i64 h, .int .i64 b, .int .i64 c] 47))
  have HS := Lib.hid hs
  have HH := Lib.hid hh
  have HB := Lib.hid hb
  have HC := Lib.hid hc
  clear hs hh hb hc
  have R1 := fun w => rsub_any c s HC.out HS.out w
  have R2 := fun w => rsub_any b h HB.out HH.out w
  obtain ⟨Z, hZ⟩ : ∃ Z, Z = bndV s h b c p := ⟨_, rfl⟩
  obtain ⟨O, hO⟩ : ∃ O, O = bndOk s h b c p := ⟨_, rfl⟩
  rw [← hZ, ← hO]
  have HO := Lib.hid hO
  have HZ : Hid (Z = if O then max (bN (subV c s) (subV b h) p) 0 else 0) := Lib.hid (by rw [hZ, hO]; rfl)
  have HOK : Hid (O = (subOk c s && subOk b h && decide (0 ≤ subV c s) && decide (0 ≤ subV b h) && okP p && isT (bN (subV c s) (subV b h) p))) := Lib.hid (by rw [hO]; rfl)
  clear hO hZ HO
  have SY1 : Hid (subOk c s = true → -1099511627776 ≤ subV c s ∧ subV c s ≤ 1099511627776) := Lib.hid (fun q => (sub_yes q).2)
  have SY2 : Hid (subOk b h = true → -1099511627776 ≤ subV b h ∧ subV b h ≤ 1099511627776) := Lib.hid (fun q => (sub_yes q).2)
  generalize subV c s = u at *
  generalize subV b h = v at *
  generalize subOk c s = o1 at *
  generalize subOk b h = o2 at *
  have R1 := Lib.hid R1
  have R2 := Lib.hid R2
  cases o1
  · obtain rfl : O = false := by rw [HOK.out]; rfl
    obtain rfl : Z = 0 := by rw [HZ.out]; rfl
    go_enter Try.func18, Try.ntmps18
    go_wp2_with fail
    refine (R1.out _).mono ?_
    rintro e w1 ⟨rfl, rfl⟩
    go_wp2_with fail
    refine (R2.out _).mono ?_
    rintro e w1 ⟨rfl, rfl⟩
    go_wp2
    go_ret2
    exact ⟨rfl, X.out⟩
  cases o2
  · obtain rfl : O = false := by rw [HOK.out]; rfl
    obtain rfl : Z = 0 := by rw [HZ.out]; rfl
    go_enter Try.func18, Try.ntmps18
    go_wp2_with fail
    refine (R1.out _).mono ?_
    rintro e w1 ⟨rfl, rfl⟩
    go_wp2_with fail
    refine (R2.out _).mono ?_
    rintro e w1 ⟨rfl, rfl⟩
    go_wp2
    go_ret2
    exact ⟨rfl, X.out⟩
  by_cases h1 : u < 0
  · obtain rfl : O = false := by rw [HOK.out, decide_eq_false (show ¬ 0 ≤ u by omega)]; rfl
    obtain rfl : Z = 0 := by rw [HZ.out]; rfl
    go_enter Try.func18, Try.ntmps18
    go_wp2_with fail
    refine (R1.out _).mono ?_
    rintro e w1 ⟨rfl, rfl⟩
    go_wp2_with fail
    refine (R2.out _).mono ?_
    rintro e w1 ⟨rfl, rfl⟩
    go_wp2
    go_ret2
    exact ⟨rfl, X.out⟩
  by_cases h2 : v < 0
  · obtain rfl : O = false := by rw [HOK.out, decide_eq_false (show ¬ 0 ≤ v by omega)]; simp
    obtain rfl : Z = 0 := by rw [HZ.out]; rfl
    go_enter Try.func18, Try.ntmps18
    go_wp2_with fail
    refine (R1.out _).mono ?_
    rintro e w1 ⟨rfl, rfl⟩
    go_wp2_with fail
    refine (R2.out _).mono ?_
    rintro e w1 ⟨rfl, rfl⟩
    go_wp2
    go_ret2
    exact ⟨rfl, X.out⟩
  by_cases h3 : p < 0
  · obtain rfl : O = false := by rw [HOK.out, show okP p = false by unfold okP; rw [decide_eq_false (show ¬ 0 ≤ p by omega)]; rfl]; simp
    obtain rfl : Z = 0 := by rw [HZ.out]; rfl
    go_enter Try.func18, Try.ntmps18
    go_wp2_with fail
    refine (R1.out _).mono ?_
    rintro e w1 ⟨rfl, rfl⟩
    go_wp2_with fail
    refine (R2.out _).mono ?_
    rintro e w1 ⟨rfl, rfl⟩
    go_wp2
    go_ret2
    exact ⟨rfl, X.out⟩
  by_cases h4 : 500000 < p
  · obtain rfl : O = false := by rw [HOK.out, show okP p = false by unfold okP; rw [decide_eq_false (show ¬ p ≤ 500000 by omega)]; simp]; simp
    obtain rfl : Z = 0 := by rw [HZ.out]; rfl
    go_enter Try.func18, Try.ntmps18
    go_wp2_with fail
    refine (R1.out _).mono ?_
    rintro e w1 ⟨rfl, rfl⟩
    go_wp2_with fail
    refine (R2.out _).mono ?_
    rintro e w1 ⟨rfl, rfl⟩
    go_wp2
    go_ret2
    exact ⟨rfl, X.out⟩
  obtain ⟨-, u1⟩ := SY1.out rfl
  obtain ⟨-, v1⟩ := SY2.out rfl
  obtain ⟨g1, g2, g3, g4⟩ := bN_small (w := u) (h := v) (p := p) (by omega) u1 (by omega) v1 (by omega) (by omega)
  have HOT : Hid (O = isT (bN u v p)) := Lib.hid (by rw [HOK.out, decide_eq_true (show 0 ≤ u by omega), decide_eq_true (show 0 ≤ v by omega), show okP p = true by unfold okP; rw [decide_eq_true (show 0 ≤ p by omega), decide_eq_true (show p ≤ 500000 by omega)]; rfl]; rfl)
  have hb1 : wrap64 (1000000 - p) = 1000000 - p := by unfold wrap64; omega
  have hb2 : wrap64 (1000000 + p) = 1000000 + p := by unfold wrap64; omega
  have Q1 := Lib.hid (fun w => ratio_any u 1000000 (1000000 - p) true (by omega) u1 (by omega) (by omega) (by omega) (by omega) w)
  have Q2 := Lib.hid (fun w => ratio_any v 1000000 (1000000 + p) false (by omega) v1 (by omega) (by omega) (by omega) (by omega) w)
  obtain ⟨r1, hr1⟩ : ∃ r1, r1 = rat u 1000000 (1000000 - p) true := ⟨_, rfl⟩
  obtain ⟨r2, hr2⟩ : ∃ r2, r2 = rat v 1000000 (1000000 + p) false := ⟨_, rfl⟩
  rw [← hr1] at Q1
  rw [← hr2] at Q2
  have a1 : 0 ≤ r1 ∧ r1 ≤ 2199023255552 := by rw [hr1]; exact ⟨g1, g2⟩
  have a2 : 0 ≤ r2 ∧ r2 ≤ 1099511627776 := by rw [hr2]; exact ⟨g3, g4⟩
  have hbn : bN u v p = r1 - r2 := by rw [hr1, hr2]; rfl
  obtain ⟨d, hd⟩ : ∃ d, d = r1 - r2 := ⟨_, rfl⟩
  have hw : wrap64 (r1 - r2) = d := by rw [hd]; unfold wrap64; omega
  have HD : Hid (-1099511627776 ≤ d) := Lib.hid (by omega)
  rw [hbn, ← hd] at HZ HOT
  clear HOK hbn hd hr1 hr2 g1 g2 g3 g4
  have A1 := Lib.hid a1
  have A2 := Lib.hid a2
  clear a1 a2 u1 v1 SY1 SY2
  by_cases hneg : 0 < d
  · have Z1 : Hid (Z = if O then d else 0) := Lib.hid (by rw [HZ.out, show max d 0 = d by omega])
    have TM := Lib.hid (fun w => rtime_any d w)
    rw [← HOT.out] at TM
    cases O
    · obtain rfl : Z = 0 := by rw [Z1.out]; rfl
      go_enter Try.func18, Try.ntmps18
      go_wp2_with fail
      refine (R1.out _).mono ?_
      rintro e w1 ⟨rfl, rfl⟩
      go_wp2_with fail
      refine (R2.out _).mono ?_
      rintro e w1 ⟨rfl, rfl⟩
      go_wp2_with fail
      refine (Q1.out _).mono ?_
      rintro e w2 ⟨rfl, rfl⟩
      go_wp2_with fail
      refine (Q2.out _).mono ?_
      rintro e w2 ⟨rfl, rfl⟩
      go_wp2_with fail
      refine (TM.out _).mono ?_
      rintro e w2 ⟨rfl, rfl⟩
      go_wp2
      go_ret2
      exact ⟨rfl, X.out⟩
    · obtain rfl : d = Z := by rw [Z1.out]; rfl
      go_enter Try.func18, Try.ntmps18
      go_wp2_with fail
      refine (R1.out _).mono ?_
      rintro e w1 ⟨rfl, rfl⟩
      go_wp2_with fail
      refine (R2.out _).mono ?_
      rintro e w1 ⟨rfl, rfl⟩
      go_wp2_with fail
      refine (Q1.out _).mono ?_
      rintro e w2 ⟨rfl, rfl⟩
      go_wp2_with fail
      refine (Q2.out _).mono ?_
      rintro e w2 ⟨rfl, rfl⟩
      go_wp2_with fail
      refine (TM.out _).mono ?_
      rintro e w2 ⟨rfl, rfl⟩
      go_wp2
      go_ret2
      exact ⟨rfl, X.out⟩
  · have TM := Lib.hid (fun w => rtime_any 0 w)
    have O1 : O = true := by
      rw [HOT.out]
      have := HD.out
      unfold isT
      rw [decide_eq_true (by omega), decide_eq_true (by omega)]
      rfl
    subst O1
    obtain rfl : Z = 0 := by rw [HZ.out, if_pos rfl]; omega
    rw [show isT 0 = true by decide] at TM
    go_enter Try.func18, Try.ntmps18
    go_wp2_with fail
    refine (R1.out _).mono ?_
    rintro e w1 ⟨rfl, rfl⟩
    go_wp2_with fail
    refine (R2.out _).mono ?_
    rintro e w1 ⟨rfl, rfl⟩
    go_wp2_with fail
    refine (Q1.out _).mono ?_
    rintro e w2 ⟨rfl, rfl⟩
    go_wp2_with fail
    refine (Q2.out _).mono ?_
    rintro e w2 ⟨rfl, rfl⟩
    go_wp2_with fail
    refine (TM.out _).mono ?_
    rintro e w2 ⟨rfl, rfl⟩
    go_wp2
    go_ret2
    exact ⟨rfl, X.out⟩
end Go.Proofs.Ytbhgbkbdojhofaa
