/-
  Contracts of drift's least, most, keeps, and of the reference's Keeps. Conditions: those written at each.
-/
import Derived.Test.YtjghjnnmndibcaaDriftPlain
import Derived.Test.YtjghjnnmndibcaaRegion
import Derived.Test.YtjghjnnmndibcaaStructs
namespace Go.Proofs.Ytjghjnnmndibcaa
open Go Go.Sort Go.RowKit
set_option linter.unusedVariables false

theorem quiet_left {P : Program} {f : FuncId} {args : Array Value} {w : World} {n : Nat} {v : Value}
    (h : Calls P f args (w.drewN n) fun e w' => e = .returned v ∧ w.drewN n = w') : Calls P f args (w.drewN n) fun e w'' => e = .returned v ∧ ∃ m, w'' = w.drewN m :=
  h.mono fun _ _ ⟨he, hm⟩ => ⟨he, n, hm.symm⟩

/-- A reading within its bounds. -/
def RdT (r : RdD) : Prop := -1099511627776 ≤ r.1 ∧ r.1 ≤ 1099511627776 ∧ -1099511627776 ≤ r.2 ∧ r.2 ≤ 1099511627776

set_option maxHeartbeats 400000 in
theorem least_any' (r p : Int) (h1 : 0 ≤ r) (h2 : r ≤ 2199023255552) (h3 : 0 ≤ p) (h4 : p ≤ 500000) (w : World) :
    Calls Try.prog 33 #[.int .i64 r, .int .i64 p] w fun e w' => e = .returned (.int .i64 (r * (1000000 - p) - 1000000)) ∧ w = w' := by
  obtain ⟨h5, h6⟩ := mul_bd h1 h2 (show 0 ≤ 1000000 - p by omega) (show 1000000 - p ≤ 1500000 by omega)
  go_enter Try.func33, Try.ntmps33
  go_wp2
  go_ret
  exact ⟨rfl, rfl⟩
set_option maxHeartbeats 400000 in
theorem most_any' (r p : Int) (h1 : 0 ≤ r) (h2 : r ≤ 2199023255552) (h3 : 0 ≤ p) (h4 : p ≤ 500000) (w : World) :
    Calls Try.prog 34 #[.int .i64 r, .int .i64 p] w fun e w' => e = .returned (.int .i64 (r * (1000000 + p) + 1000000)) ∧ w = w' := by
  obtain ⟨h5, h6⟩ := mul_bd h1 h2 (show 0 ≤ 1000000 + p by omega) (show 1000000 + p ≤ 1500000 by omega)
  go_enter Try.func34, Try.ntmps34
  go_wp2
  go_ret
  exact ⟨rfl, rfl⟩

set_option maxHeartbeats 1000000 in
theorem keeps_any (a b : RdD) (p : Int) (ha : RdT a) (hb : RdT b) (hab : a.1 ≤ b.1) (h3 : 0 ≤ p) (h4 : p ≤ 500000) (w : World) :
    Calls Try.prog 30 #[.agg #[.int .i64 a.1, .int .i64 a.2], .agg #[.int .i64 b.1, .int .i64 b.2], .int .i64 p] w fun e w' => e = .returned (.bool (keepB a b p)) ∧ Ext w w' := by
  obtain ⟨a1, a2⟩ := a
  obtain ⟨b1, b2⟩ := b
  obtain ⟨x1, x2, x3, x4⟩ := ha
  obtain ⟨y1, y2, y3, y4⟩ := hb
  simp only at hab x1 x2 x3 x4 y1 y2 y3 y4 ⊢
  obtain ⟨k, hk⟩ : ∃ k, k = keepB (a1, a2) (b1, b2) p := ⟨_, rfl⟩
  rw [← hk]
  unfold keepB at hk
  simp only at hk
  have hr1 : 0 ≤ b1 - a1 := by omega
  have hr2 : b1 - a1 ≤ 2199023255552 := by omega
  obtain ⟨m1, m2⟩ := mul_bd hr1 hr2 (show 0 ≤ 1000000 - p by omega) (show 1000000 - p ≤ 1500000 by omega)
  obtain ⟨m3, m4⟩ := mul_bd hr1 hr2 (show 0 ≤ 1000000 + p by omega) (show 1000000 + p ≤ 1500000 by omega)
  have mc1 : -2199023255552 * 1000000 ≤ (b2 - a2) * 1000000 := by omega
  have mc2 : (b2 - a2) * 1000000 ≤ 2199023255552 * 1000000 := by omega
  have W := Lib.hid (((Ext.alloc w (.cells #[.int .i64 a1, .int .i64 a2] 51)).tr (Ext.alloc _ (.cells #[.int .i64 b1, .int .i64 b2] 51))))
  by_cases c1 : 0 ≤ b2 - a2
  · have c1' : a2 ≤ b2 := by omega
    by_cases c2 : (b1 - a1) * (1000000 - p) - 1000000 ≤ (b2 - a2) * 1000000
    · rw [decide_eq_true c1, decide_eq_true c2, Bool.true_and, Bool.true_and] at hk
      have HK := Lib.hid hk
      clear hk
      go_enter Try.func30, Try.ntmps30
      go_wp2_with fail
      go_quiet (fail)
      go_wp2_with fail
      refine (least_any' _ p hr1 hr2 h3 h4 _).mono ?_
      rintro e w2 ⟨rfl, rfl⟩
      go_wp2_with fail
      refine (most_any' _ p hr1 hr2 h3 h4 _).mono ?_
      rintro e w2 ⟨rfl, rfl⟩
      go_wp2
      go_ret
      exact ⟨by rw [HK.out]; rfl, W.out.tr (Ext.drewN _ _)⟩
    · rw [decide_eq_true c1, decide_eq_false c2, Bool.false_and, Bool.and_false] at hk
      subst hk
      go_enter Try.func30, Try.ntmps30
      go_wp2_with fail
      go_quiet (fail)
      go_wp2_with fail
      refine (least_any' _ p hr1 hr2 h3 h4 _).mono ?_
      rintro e w2 ⟨rfl, rfl⟩
      go_wp2
      go_ret
      exact ⟨rfl, W.out.tr (Ext.drewN _ _)⟩
  · have c1' : ¬ a2 ≤ b2 := by omega
    rw [decide_eq_false c1, Bool.false_and] at hk
    subst hk
    go_enter Try.func30, Try.ntmps30
    go_wp2_with fail
    go_quiet (fail)
    go_wp2
    go_ret
    exact ⟨rfl, W.out.tr (Ext.drewN _ _)⟩
set_option maxHeartbeats 1000000 in
theorem rkeeps_any (a b : RdD) (p : Int) (ha : RdT a) (hb : RdT b) (hab : a.1 ≤ b.1) (h3 : 0 ≤ p) (h4 : p ≤ 500000) (w : World) :
    Calls Try.prog 28 #[.agg #[.int .i64 a.1, .int .i64 a.2], .agg #[.int .i64 b.1, .int .i64 b.2], .int .i64 p] w fun e w' => e = .returned (.bool (keepB a b p)) ∧ Ext w w' := by
  obtain ⟨a1, a2⟩ := a
  obtain ⟨b1, b2⟩ := b
  obtain ⟨x1, x2, x3, x4⟩ := ha
  obtain ⟨y1, y2, y3, y4⟩ := hb
  simp only at hab x1 x2 x3 x4 y1 y2 y3 y4 ⊢
  obtain ⟨k, hk⟩ : ∃ k, k = keepB (a1, a2) (b1, b2) p := ⟨_, rfl⟩
  rw [← hk]
  unfold keepB at hk
  simp only at hk
  replace hk : k = (decide (0 ≤ b2 - a2) && (decide (rat (b1 - a1) (1000000 - p) 1000000 true - 1 ≤ b2 - a2) && decide (b2 - a2 ≤ rat (b1 - a1) (1000000 + p) 1000000 false + 1))) := by
    rw [hk]
    exact congrArg _ (congr (congrArg _ (decide_eq_decide.2 rat_keeps.1.symm)) (decide_eq_decide.2 rat_keeps.2.symm))
  have hr1 : 0 ≤ b1 - a1 := by omega
  have hr2 : b1 - a1 ≤ 2199023255552 := by omega
  obtain ⟨m1, m2⟩ := mul_bd hr1 hr2 (show 0 ≤ 1000000 - p by omega) (show 1000000 - p ≤ 1500000 by omega)
  obtain ⟨m3, m4⟩ := mul_bd hr1 hr2 (show 0 ≤ 1000000 + p by omega) (show 1000000 + p ≤ 1500000 by omega)
  have mc1 : -2199023255552 * 1000000 ≤ (b2 - a2) * 1000000 := by omega
  have mc2 : (b2 - a2) * 1000000 ≤ 2199023255552 * 1000000 := by omega
  obtain ⟨u, hu⟩ : ∃ u, u = rat (b1 - a1) (1000000 - p) 1000000 true := ⟨_, rfl⟩
  obtain ⟨v, hv⟩ : ∃ v, v = rat (b1 - a1) (1000000 + p) 1000000 false := ⟨_, rfl⟩
  rw [← hu, ← hv] at hk
  have u1 : 0 ≤ u ∧ u ≤ 4398046511104 := by rw [hu]; unfold rat; simp only [if_true]; omega
  have v1 : 0 ≤ v ∧ v ≤ 4398046511104 := by rw [hv]; unfold rat; simp only [Bool.false_eq_true, if_false]; omega
  obtain ⟨u1, u2⟩ := u1
  obtain ⟨v1, v2⟩ := v1
  have HU := Lib.hid hu
  have HV := Lib.hid hv
  clear hu hv
  clear mc1 mc2
  have W := Lib.hid (((Ext.alloc w (.cells #[.int .i64 a1, .int .i64 a2] 60)).tr (Ext.alloc _ (.cells #[.int .i64 b1, .int .i64 b2] 60))))
  by_cases c1 : 0 ≤ b2 - a2
  · have c1' : a2 ≤ b2 := by omega
    by_cases c2 : u - 1 ≤ b2 - a2
    · rw [decide_eq_true c1, decide_eq_true c2, Bool.true_and, Bool.true_and] at hk
      have HK := Lib.hid hk
      clear hk
      go_enter Try.func28, Try.ntmps28
      go_wp2_with fail
      go_quiet (fail)
      go_wp2_with fail
      refine (ratio_any (b1 - a1) (1000000 - p) 1000000 true hr1 hr2 (by omega) (by omega) (by omega) (by omega) _).mono ?_
      rw [← HU.out]
      rintro e w2 ⟨rfl, rfl⟩
      go_wp2_with fail
      refine (ratio_any (b1 - a1) (1000000 + p) 1000000 false hr1 hr2 (by omega) (by omega) (by omega) (by omega) _).mono ?_
      rw [← HV.out]
      rintro e w2 ⟨rfl, rfl⟩
      go_wp2
      go_ret
      exact ⟨by rw [HK.out]; rfl, W.out.tr (Ext.drewN _ _)⟩
    · rw [decide_eq_true c1, decide_eq_false c2, Bool.false_and, Bool.and_false] at hk
      subst hk
      go_enter Try.func28, Try.ntmps28
      go_wp2_with fail
      go_quiet (fail)
      go_wp2_with fail
      refine (ratio_any (b1 - a1) (1000000 - p) 1000000 true hr1 hr2 (by omega) (by omega) (by omega) (by omega) _).mono ?_
      rw [← HU.out]
      rintro e w2 ⟨rfl, rfl⟩
      go_wp2
      go_ret
      exact ⟨rfl, W.out.tr (Ext.drewN _ _)⟩
  · have c1' : ¬ a2 ≤ b2 := by omega
    rw [decide_eq_false c1, Bool.false_and] at hk
    subst hk
    go_enter Try.func28, Try.ntmps28
    go_wp2_with fail
    go_quiet (fail)
    go_wp2
    go_ret
    exact ⟨rfl, W.out.tr (Ext.drewN _ _)⟩
end Go.Proofs.Ytjghjnnmndibcaa
