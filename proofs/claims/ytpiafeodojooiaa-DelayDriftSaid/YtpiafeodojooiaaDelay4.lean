/-
  The walks of the laws of delay: whatever the trip of numbers of 64 bits, the law returns true. No condition.
-/
import Derived.Test.YtpiafeodojooiaaDelay3
import Derived.Test.YtpiafeodojooiaaSpan5
namespace Go.Proofs.Ytpiafeodojooiaa
open Go Go.RowKit
set_option linter.unusedVariables false


set_option maxHeartbeats 2000000 in
theorem walk_DelayMore {s h b c m p : Int} {w : World} (hs : I64 s) (hh : I64 h) (hb : I64 b) (hc : I64 c) (hm : I64 m) (hp : I64 p) :
    Calls Try.prog 4 #[.agg #[.int .i64 s, .int .i64 h, .int .i64 b, .int .i64 c], .int .i64 m, .int .i64 p] w fun e w' => e = .returned (.bool true) ∧ Below w.heap.size w w' := by
  have Hs := Lib.hid hs
  have Hh := Lib.hid hh
  have Hb := Lib.hid hb
  have Hc := Lib.hid hc
  have Hm := Lib.hid hm
  have Hp := Lib.hid hp
  clear hs hh hb hc hm hp
  by_cases c0 : m < 0
  · go_enter Try.func4, Try.ntmps4
    go_wp2_with fail
    refine (begun9 _).mono ?_
    rintro e w1 ⟨rfl, x1⟩
    have d0 : w1.cell? ⟨w.heap.size, 0, none⟩ = some (.int .i64 s) := Ext.cell x1 (World.cell?_alloc_mark ..)
    have d1 : w1.cell? ⟨w.heap.size, 1, none⟩ = some (.int .i64 h) := Ext.cell x1 (World.cell?_alloc_mark ..)
    have d2 : w1.cell? ⟨w.heap.size, 2, none⟩ = some (.int .i64 b) := Ext.cell x1 (World.cell?_alloc_mark ..)
    have d3 : w1.cell? ⟨w.heap.size, 3, none⟩ = some (.int .i64 c) := Ext.cell x1 (World.cell?_alloc_mark ..)
    have X := Lib.hid (Ext.tr (Ext.alloc w _) x1)
    clear x1
    go_wp2
    go_ret
    exact ⟨rfl, X.out⟩
  by_cases c1 : 1073741824 < m
  · go_enter Try.func4, Try.ntmps4
    go_wp2_with fail
    refine (begun9 _).mono ?_
    rintro e w1 ⟨rfl, x1⟩
    have d0 : w1.cell? ⟨w.heap.size, 0, none⟩ = some (.int .i64 s) := Ext.cell x1 (World.cell?_alloc_mark ..)
    have d1 : w1.cell? ⟨w.heap.size, 1, none⟩ = some (.int .i64 h) := Ext.cell x1 (World.cell?_alloc_mark ..)
    have d2 : w1.cell? ⟨w.heap.size, 2, none⟩ = some (.int .i64 b) := Ext.cell x1 (World.cell?_alloc_mark ..)
    have d3 : w1.cell? ⟨w.heap.size, 3, none⟩ = some (.int .i64 c) := Ext.cell x1 (World.cell?_alloc_mark ..)
    have X := Lib.hid (Ext.tr (Ext.alloc w _) x1)
    clear x1
    go_wp2
    go_ret
    exact ⟨rfl, X.out⟩
  by_cases c2 : c < 0
  · go_enter Try.func4, Try.ntmps4
    go_wp2_with fail
    refine (begun9 _).mono ?_
    rintro e w1 ⟨rfl, x1⟩
    have d0 : w1.cell? ⟨w.heap.size, 0, none⟩ = some (.int .i64 s) := Ext.cell x1 (World.cell?_alloc_mark ..)
    have d1 : w1.cell? ⟨w.heap.size, 1, none⟩ = some (.int .i64 h) := Ext.cell x1 (World.cell?_alloc_mark ..)
    have d2 : w1.cell? ⟨w.heap.size, 2, none⟩ = some (.int .i64 b) := Ext.cell x1 (World.cell?_alloc_mark ..)
    have d3 : w1.cell? ⟨w.heap.size, 3, none⟩ = some (.int .i64 c) := Ext.cell x1 (World.cell?_alloc_mark ..)
    have X := Lib.hid (Ext.tr (Ext.alloc w _) x1)
    clear x1
    go_wp2
    go_ret
    exact ⟨rfl, X.out⟩
  by_cases c3 : 1073741824 < c
  · go_enter Try.func4, Try.ntmps4
    go_wp2_with fail
    refine (begun9 _).mono ?_
    rintro e w1 ⟨rfl, x1⟩
    have d0 : w1.cell? ⟨w.heap.size, 0, none⟩ = some (.int .i64 s) := Ext.cell x1 (World.cell?_alloc_mark ..)
    have d1 : w1.cell? ⟨w.heap.size, 1, none⟩ = some (.int .i64 h) := Ext.cell x1 (World.cell?_alloc_mark ..)
    have d2 : w1.cell? ⟨w.heap.size, 2, none⟩ = some (.int .i64 b) := Ext.cell x1 (World.cell?_alloc_mark ..)
    have d3 : w1.cell? ⟨w.heap.size, 3, none⟩ = some (.int .i64 c) := Ext.cell x1 (World.cell?_alloc_mark ..)
    have X := Lib.hid (Ext.tr (Ext.alloc w _) x1)
    clear x1
    go_wp2
    go_ret
    exact ⟨rfl, X.out⟩
  by_cases c4 : s < 0
  · go_enter Try.func4, Try.ntmps4
    go_wp2_with fail
    refine (begun9 _).mono ?_
    rintro e w1 ⟨rfl, x1⟩
    have d0 : w1.cell? ⟨w.heap.size, 0, none⟩ = some (.int .i64 s) := Ext.cell x1 (World.cell?_alloc_mark ..)
    have d1 : w1.cell? ⟨w.heap.size, 1, none⟩ = some (.int .i64 h) := Ext.cell x1 (World.cell?_alloc_mark ..)
    have d2 : w1.cell? ⟨w.heap.size, 2, none⟩ = some (.int .i64 b) := Ext.cell x1 (World.cell?_alloc_mark ..)
    have d3 : w1.cell? ⟨w.heap.size, 3, none⟩ = some (.int .i64 c) := Ext.cell x1 (World.cell?_alloc_mark ..)
    have X := Lib.hid (Ext.tr (Ext.alloc w _) x1)
    clear x1
    go_wp2
    go_ret
    exact ⟨rfl, X.out⟩
  by_cases c5 : h < 0
  · go_enter Try.func4, Try.ntmps4
    go_wp2_with fail
    refine (begun9 _).mono ?_
    rintro e w1 ⟨rfl, x1⟩
    have d0 : w1.cell? ⟨w.heap.size, 0, none⟩ = some (.int .i64 s) := Ext.cell x1 (World.cell?_alloc_mark ..)
    have d1 : w1.cell? ⟨w.heap.size, 1, none⟩ = some (.int .i64 h) := Ext.cell x1 (World.cell?_alloc_mark ..)
    have d2 : w1.cell? ⟨w.heap.size, 2, none⟩ = some (.int .i64 b) := Ext.cell x1 (World.cell?_alloc_mark ..)
    have d3 : w1.cell? ⟨w.heap.size, 3, none⟩ = some (.int .i64 c) := Ext.cell x1 (World.cell?_alloc_mark ..)
    have X := Lib.hid (Ext.tr (Ext.alloc w _) x1)
    clear x1
    go_wp2
    go_ret
    exact ⟨rfl, X.out⟩
  by_cases c6 : b < 0
  · go_enter Try.func4, Try.ntmps4
    go_wp2_with fail
    refine (begun9 _).mono ?_
    rintro e w1 ⟨rfl, x1⟩
    have d0 : w1.cell? ⟨w.heap.size, 0, none⟩ = some (.int .i64 s) := Ext.cell x1 (World.cell?_alloc_mark ..)
    have d1 : w1.cell? ⟨w.heap.size, 1, none⟩ = some (.int .i64 h) := Ext.cell x1 (World.cell?_alloc_mark ..)
    have d2 : w1.cell? ⟨w.heap.size, 2, none⟩ = some (.int .i64 b) := Ext.cell x1 (World.cell?_alloc_mark ..)
    have d3 : w1.cell? ⟨w.heap.size, 3, none⟩ = some (.int .i64 c) := Ext.cell x1 (World.cell?_alloc_mark ..)
    have X := Lib.hid (Ext.tr (Ext.alloc w _) x1)
    clear x1
    go_wp2
    go_ret
    exact ⟨rfl, X.out⟩
  by_cases c7 : 1073741824 < b
  · go_enter Try.func4, Try.ntmps4
    go_wp2_with fail
    refine (begun9 _).mono ?_
    rintro e w1 ⟨rfl, x1⟩
    have d0 : w1.cell? ⟨w.heap.size, 0, none⟩ = some (.int .i64 s) := Ext.cell x1 (World.cell?_alloc_mark ..)
    have d1 : w1.cell? ⟨w.heap.size, 1, none⟩ = some (.int .i64 h) := Ext.cell x1 (World.cell?_alloc_mark ..)
    have d2 : w1.cell? ⟨w.heap.size, 2, none⟩ = some (.int .i64 b) := Ext.cell x1 (World.cell?_alloc_mark ..)
    have d3 : w1.cell? ⟨w.heap.size, 3, none⟩ = some (.int .i64 c) := Ext.cell x1 (World.cell?_alloc_mark ..)
    have X := Lib.hid (Ext.tr (Ext.alloc w _) x1)
    clear x1
    go_wp2
    go_ret
    exact ⟨rfl, X.out⟩
  cases ho : bndOk s h b c p
  · go_enter Try.func4, Try.ntmps4
    go_wp2_with fail
    refine (begun9 _).mono ?_
    rintro e w1 ⟨rfl, x1⟩
    have d0 : w1.cell? ⟨w.heap.size, 0, none⟩ = some (.int .i64 s) := Ext.cell x1 (World.cell?_alloc_mark ..)
    have d1 : w1.cell? ⟨w.heap.size, 1, none⟩ = some (.int .i64 h) := Ext.cell x1 (World.cell?_alloc_mark ..)
    have d2 : w1.cell? ⟨w.heap.size, 2, none⟩ = some (.int .i64 b) := Ext.cell x1 (World.cell?_alloc_mark ..)
    have d3 : w1.cell? ⟨w.heap.size, 3, none⟩ = some (.int .i64 c) := Ext.cell x1 (World.cell?_alloc_mark ..)
    have X := Lib.hid (Ext.tr (Ext.alloc w _) x1)
    clear x1
    go_wp2_with fail
    refine (bound_any s h b c p Hs.out Hh.out Hb.out Hc.out _).mono ?_
    rw [ho]
    rintro e w2 ⟨rfl, x1⟩
    replace X := Lib.hid (X.out.tr x1)
    replace d0 := Ext.cell x1 d0
    replace d1 := Ext.cell x1 d1
    replace d2 := Ext.cell x1 d2
    replace d3 := Ext.cell x1 d3
    clear x1
    go_wp2_with fail
    refine (bound_any s h b (c + m) p Hs.out Hh.out Hb.out (i64_small (by omega) (by omega)) _).mono ?_
    rintro e w2 ⟨rfl, x1⟩
    replace X := Lib.hid (X.out.tr (Ext.tr (Ext.alloc _ _) x1))
    clear x1
    go_wp2
    go_ret
    exact ⟨rfl, X.out⟩
  · obtain ⟨b1, b2⟩ := bnd_more ho (show 0 ≤ s by omega) (by omega) (show 0 ≤ h by omega) (by omega) (show 0 ≤ m by omega) (by omega)
    have B1 := Lib.hid b1
    clear b1
    go_enter Try.func4, Try.ntmps4
    go_wp2_with fail
    refine (begun9 _).mono ?_
    rintro e w1 ⟨rfl, x1⟩
    have d0 : w1.cell? ⟨w.heap.size, 0, none⟩ = some (.int .i64 s) := Ext.cell x1 (World.cell?_alloc_mark ..)
    have d1 : w1.cell? ⟨w.heap.size, 1, none⟩ = some (.int .i64 h) := Ext.cell x1 (World.cell?_alloc_mark ..)
    have d2 : w1.cell? ⟨w.heap.size, 2, none⟩ = some (.int .i64 b) := Ext.cell x1 (World.cell?_alloc_mark ..)
    have d3 : w1.cell? ⟨w.heap.size, 3, none⟩ = some (.int .i64 c) := Ext.cell x1 (World.cell?_alloc_mark ..)
    have X := Lib.hid (Ext.tr (Ext.alloc w _) x1)
    clear x1
    go_wp2_with fail
    refine (bound_any s h b c p Hs.out Hh.out Hb.out Hc.out _).mono ?_
    rw [ho]
    rintro e w2 ⟨rfl, x1⟩
    replace X := Lib.hid (X.out.tr x1)
    replace d0 := Ext.cell x1 d0
    replace d1 := Ext.cell x1 d1
    replace d2 := Ext.cell x1 d2
    replace d3 := Ext.cell x1 d3
    clear x1
    go_wp2_with fail
    refine (bound_any s h b (c + m) p Hs.out Hh.out Hb.out (i64_small (by omega) (by omega)) _).mono ?_
    rw [B1.out]
    rintro e w2 ⟨rfl, x1⟩
    replace X := Lib.hid (X.out.tr (Ext.tr (Ext.alloc _ _) x1))
    clear x1
    generalize bndV s h b c p = u1 at *
    generalize bndV s h b (c + m) p = u2 at *
    have d1 : decide (u1 ≤ u2) = true := decide_eq_true b2
    go_wp2
    go_ret
    exact ⟨rfl, X.out⟩

theorem bndV_in {s h b c p : Int} : 0 ≤ bndV s h b c p ∧ bndV s h b c p ≤ 1099511627776 := by
  unfold bndV
  split
  next hh =>
    unfold bndOk at hh
    simp only [Bool.and_eq_true] at hh
    have := isT_yes hh.2
    omega
  next => omega

set_option maxHeartbeats 2000000 in
theorem walk_DelayDrift {s h b c p r : Int} {w : World} (hs : I64 s) (hh : I64 h) (hb : I64 b) (hc : I64 c) (hp : I64 p) (hr : I64 r) :
    Calls Try.prog 6 #[.agg #[.int .i64 s, .int .i64 h, .int .i64 b, .int .i64 c], .int .i64 p, .int .i64 r] w fun e w' => e = .returned (.bool true) ∧ Below w.heap.size w w' := by
  have Hs := Lib.hid hs
  have Hh := Lib.hid hh
  have Hb := Lib.hid hb
  have Hc := Lib.hid hc
  have Hp := Lib.hid hp
  have Hr := Lib.hid hr
  clear hs hh hb hc hp hr
  by_cases c0 : p < 0
  · go_enter Try.func6, Try.ntmps6
    go_wp2_with fail
    refine (begun9 _).mono ?_
    rintro e w1 ⟨rfl, x1⟩
    have d0 : w1.cell? ⟨w.heap.size, 0, none⟩ = some (.int .i64 s) := Ext.cell x1 (World.cell?_alloc_mark ..)
    have d1 : w1.cell? ⟨w.heap.size, 1, none⟩ = some (.int .i64 h) := Ext.cell x1 (World.cell?_alloc_mark ..)
    have d2 : w1.cell? ⟨w.heap.size, 2, none⟩ = some (.int .i64 b) := Ext.cell x1 (World.cell?_alloc_mark ..)
    have d3 : w1.cell? ⟨w.heap.size, 3, none⟩ = some (.int .i64 c) := Ext.cell x1 (World.cell?_alloc_mark ..)
    have X := Lib.hid (Ext.tr (Ext.alloc w _) x1)
    clear x1
    go_wp2
    go_ret
    exact ⟨rfl, X.out⟩
  by_cases c1 : r < p
  · go_enter Try.func6, Try.ntmps6
    go_wp2_with fail
    refine (begun9 _).mono ?_
    rintro e w1 ⟨rfl, x1⟩
    have d0 : w1.cell? ⟨w.heap.size, 0, none⟩ = some (.int .i64 s) := Ext.cell x1 (World.cell?_alloc_mark ..)
    have d1 : w1.cell? ⟨w.heap.size, 1, none⟩ = some (.int .i64 h) := Ext.cell x1 (World.cell?_alloc_mark ..)
    have d2 : w1.cell? ⟨w.heap.size, 2, none⟩ = some (.int .i64 b) := Ext.cell x1 (World.cell?_alloc_mark ..)
    have d3 : w1.cell? ⟨w.heap.size, 3, none⟩ = some (.int .i64 c) := Ext.cell x1 (World.cell?_alloc_mark ..)
    have X := Lib.hid (Ext.tr (Ext.alloc w _) x1)
    clear x1
    go_wp2
    go_ret
    exact ⟨rfl, X.out⟩
  by_cases c2 : 500000 < r
  · go_enter Try.func6, Try.ntmps6
    go_wp2_with fail
    refine (begun9 _).mono ?_
    rintro e w1 ⟨rfl, x1⟩
    have d0 : w1.cell? ⟨w.heap.size, 0, none⟩ = some (.int .i64 s) := Ext.cell x1 (World.cell?_alloc_mark ..)
    have d1 : w1.cell? ⟨w.heap.size, 1, none⟩ = some (.int .i64 h) := Ext.cell x1 (World.cell?_alloc_mark ..)
    have d2 : w1.cell? ⟨w.heap.size, 2, none⟩ = some (.int .i64 b) := Ext.cell x1 (World.cell?_alloc_mark ..)
    have d3 : w1.cell? ⟨w.heap.size, 3, none⟩ = some (.int .i64 c) := Ext.cell x1 (World.cell?_alloc_mark ..)
    have X := Lib.hid (Ext.tr (Ext.alloc w _) x1)
    clear x1
    go_wp2
    go_ret
    exact ⟨rfl, X.out⟩
  by_cases c3 : s < 0
  · go_enter Try.func6, Try.ntmps6
    go_wp2_with fail
    refine (begun9 _).mono ?_
    rintro e w1 ⟨rfl, x1⟩
    have d0 : w1.cell? ⟨w.heap.size, 0, none⟩ = some (.int .i64 s) := Ext.cell x1 (World.cell?_alloc_mark ..)
    have d1 : w1.cell? ⟨w.heap.size, 1, none⟩ = some (.int .i64 h) := Ext.cell x1 (World.cell?_alloc_mark ..)
    have d2 : w1.cell? ⟨w.heap.size, 2, none⟩ = some (.int .i64 b) := Ext.cell x1 (World.cell?_alloc_mark ..)
    have d3 : w1.cell? ⟨w.heap.size, 3, none⟩ = some (.int .i64 c) := Ext.cell x1 (World.cell?_alloc_mark ..)
    have X := Lib.hid (Ext.tr (Ext.alloc w _) x1)
    clear x1
    go_wp2
    go_ret
    exact ⟨rfl, X.out⟩
  by_cases c4 : 1073741824 < c
  · go_enter Try.func6, Try.ntmps6
    go_wp2_with fail
    refine (begun9 _).mono ?_
    rintro e w1 ⟨rfl, x1⟩
    have d0 : w1.cell? ⟨w.heap.size, 0, none⟩ = some (.int .i64 s) := Ext.cell x1 (World.cell?_alloc_mark ..)
    have d1 : w1.cell? ⟨w.heap.size, 1, none⟩ = some (.int .i64 h) := Ext.cell x1 (World.cell?_alloc_mark ..)
    have d2 : w1.cell? ⟨w.heap.size, 2, none⟩ = some (.int .i64 b) := Ext.cell x1 (World.cell?_alloc_mark ..)
    have d3 : w1.cell? ⟨w.heap.size, 3, none⟩ = some (.int .i64 c) := Ext.cell x1 (World.cell?_alloc_mark ..)
    have X := Lib.hid (Ext.tr (Ext.alloc w _) x1)
    clear x1
    go_wp2
    go_ret
    exact ⟨rfl, X.out⟩
  by_cases c5 : h < 0
  · go_enter Try.func6, Try.ntmps6
    go_wp2_with fail
    refine (begun9 _).mono ?_
    rintro e w1 ⟨rfl, x1⟩
    have d0 : w1.cell? ⟨w.heap.size, 0, none⟩ = some (.int .i64 s) := Ext.cell x1 (World.cell?_alloc_mark ..)
    have d1 : w1.cell? ⟨w.heap.size, 1, none⟩ = some (.int .i64 h) := Ext.cell x1 (World.cell?_alloc_mark ..)
    have d2 : w1.cell? ⟨w.heap.size, 2, none⟩ = some (.int .i64 b) := Ext.cell x1 (World.cell?_alloc_mark ..)
    have d3 : w1.cell? ⟨w.heap.size, 3, none⟩ = some (.int .i64 c) := Ext.cell x1 (World.cell?_alloc_mark ..)
    have X := Lib.hid (Ext.tr (Ext.alloc w _) x1)
    clear x1
    go_wp2
    go_ret
    exact ⟨rfl, X.out⟩
  by_cases c6 : 1073741824 < b
  · go_enter Try.func6, Try.ntmps6
    go_wp2_with fail
    refine (begun9 _).mono ?_
    rintro e w1 ⟨rfl, x1⟩
    have d0 : w1.cell? ⟨w.heap.size, 0, none⟩ = some (.int .i64 s) := Ext.cell x1 (World.cell?_alloc_mark ..)
    have d1 : w1.cell? ⟨w.heap.size, 1, none⟩ = some (.int .i64 h) := Ext.cell x1 (World.cell?_alloc_mark ..)
    have d2 : w1.cell? ⟨w.heap.size, 2, none⟩ = some (.int .i64 b) := Ext.cell x1 (World.cell?_alloc_mark ..)
    have d3 : w1.cell? ⟨w.heap.size, 3, none⟩ = some (.int .i64 c) := Ext.cell x1 (World.cell?_alloc_mark ..)
    have X := Lib.hid (Ext.tr (Ext.alloc w _) x1)
    clear x1
    go_wp2
    go_ret
    exact ⟨rfl, X.out⟩
  obtain ⟨b1, b2⟩ := bnd_drift (s := s) (h := h) (b := b) (c := c) (p := p) (r := r) (by omega) (by omega) (by omega) (by omega) (by omega) (by omega) (by omega)
  cases ho : bndOk s h b c r
  · rw [ho] at b1
    have B1 := Lib.hid b1
    have HO := Lib.hid ho
    clear b1 b2 ho
    go_enter Try.func6, Try.ntmps6
    go_wp2_with fail
    refine (begun9 _).mono ?_
    rintro e w1 ⟨rfl, x1⟩
    have d0 : w1.cell? ⟨w.heap.size, 0, none⟩ = some (.int .i64 s) := Ext.cell x1 (World.cell?_alloc_mark ..)
    have d1 : w1.cell? ⟨w.heap.size, 1, none⟩ = some (.int .i64 h) := Ext.cell x1 (World.cell?_alloc_mark ..)
    have d2 : w1.cell? ⟨w.heap.size, 2, none⟩ = some (.int .i64 b) := Ext.cell x1 (World.cell?_alloc_mark ..)
    have d3 : w1.cell? ⟨w.heap.size, 3, none⟩ = some (.int .i64 c) := Ext.cell x1 (World.cell?_alloc_mark ..)
    have X := Lib.hid (Ext.tr (Ext.alloc w _) x1)
    clear x1
    go_wp2_with fail
    refine (bound_any s h b c p Hs.out Hh.out Hb.out Hc.out _).mono ?_
    rw [B1.out]
    rintro e w2 ⟨rfl, x1⟩
    replace X := Lib.hid (X.out.tr x1)
    replace d0 := Ext.cell x1 d0
    replace d1 := Ext.cell x1 d1
    replace d2 := Ext.cell x1 d2
    replace d3 := Ext.cell x1 d3
    clear x1
    go_wp2_with fail
    refine (bound_any s h b c r Hs.out Hh.out Hb.out Hc.out _).mono ?_
    rw [HO.out]
    rintro e w2 ⟨rfl, x1⟩
    replace X := Lib.hid (X.out.tr x1)
    replace d0 := Ext.cell x1 d0
    replace d1 := Ext.cell x1 d1
    replace d2 := Ext.cell x1 d2
    replace d3 := Ext.cell x1 d3
    clear x1
    go_wp2
    go_ret
    exact ⟨rfl, X.out⟩
  · rw [ho] at b1
    have B1 := Lib.hid b1
    have HO := Lib.hid ho
    replace b2 := b2 ho
    have HF := Lib.hid (show fastB s h b c r (bndV s h b c p - 1) = false by unfold fastB; rw [ho, decide_eq_false (by omega)]; rfl)
    clear b1 ho
    have v1 : 0 ≤ bndV s h b c p ∧ bndV s h b c p ≤ 1099511627776 := bndV_in
    generalize hu1 : bndV s h b c p = u1 at *
    generalize hu2 : bndV s h b c r = u2 at *
    have d1 : decide (u1 ≤ u2) = true := decide_eq_true b2
    have U1 := Lib.hid hu1
    have U2 := Lib.hid hu2
    clear hu1 hu2
    go_enter Try.func6, Try.ntmps6
    go_wp2_with fail
    refine (begun9 _).mono ?_
    rintro e w1 ⟨rfl, x1⟩
    have d0 : w1.cell? ⟨w.heap.size, 0, none⟩ = some (.int .i64 s) := Ext.cell x1 (World.cell?_alloc_mark ..)
    have d1 : w1.cell? ⟨w.heap.size, 1, none⟩ = some (.int .i64 h) := Ext.cell x1 (World.cell?_alloc_mark ..)
    have d2 : w1.cell? ⟨w.heap.size, 2, none⟩ = some (.int .i64 b) := Ext.cell x1 (World.cell?_alloc_mark ..)
    have d3 : w1.cell? ⟨w.heap.size, 3, none⟩ = some (.int .i64 c) := Ext.cell x1 (World.cell?_alloc_mark ..)
    have X := Lib.hid (Ext.tr (Ext.alloc w _) x1)
    clear x1
    go_wp2_with fail
    refine (bound_any s h b c p Hs.out Hh.out Hb.out Hc.out _).mono ?_
    rw [B1.out, U1.out]
    rintro e w2 ⟨rfl, x1⟩
    replace X := Lib.hid (X.out.tr x1)
    replace d0 := Ext.cell x1 d0
    replace d1 := Ext.cell x1 d1
    replace d2 := Ext.cell x1 d2
    replace d3 := Ext.cell x1 d3
    clear x1
    go_wp2_with fail
    refine (bound_any s h b c r Hs.out Hh.out Hb.out Hc.out _).mono ?_
    rw [HO.out, U2.out]
    rintro e w2 ⟨rfl, x1⟩
    replace X := Lib.hid (X.out.tr x1)
    replace d0 := Ext.cell x1 d0
    replace d1 := Ext.cell x1 d1
    replace d2 := Ext.cell x1 d2
    replace d3 := Ext.cell x1 d3
    clear x1
    go_wp2_with fail
    refine (fast_any s h b c r (u1 - 1) Hs.out Hh.out Hb.out Hc.out _).mono ?_
    rw [HF.out]
    rintro e w2 ⟨rfl, x1⟩
    replace X := Lib.hid (X.out.tr x1)
    clear x1
    go_wp2
    go_ret
    exact ⟨rfl, X.out⟩
end Go.Proofs.Ytpiafeodojooiaa
