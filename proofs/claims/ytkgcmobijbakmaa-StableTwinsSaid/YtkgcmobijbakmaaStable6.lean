/-
  The walk of StableTwins: whatever the numbers, the law returns true.
-/
import Derived.Test.YtkgcmobijbakmaaStable5
namespace Go.Proofs.Ytkgcmobijbakmaa
open Go Go.Sort Go.RowKit
set_option linter.unusedVariables false

set_option maxRecDepth 8000 in
set_option maxHeartbeats 8000000 in
theorem walk_StableTwins {a b v u : Int} {w : World} (h1 : -9223372036854775808 ≤ a ∧ a ≤ 9223372036854775807) (h2 : -9223372036854775808 ≤ b ∧ b ≤ 9223372036854775807) (h3 : -9223372036854775808 ≤ v ∧ v ≤ 9223372036854775807) (h4 : -9223372036854775808 ≤ u ∧ u ≤ 9223372036854775807) :
    Calls Try.prog 14 #[.int .i64 a, .int .i64 b, .int .i64 v, .int .i64 u] w fun e w' => e = .returned (.bool true) ∧ Below w.heap.size w w' := by
  by_cases c0 : a < 0
  · go_enter Try.func14, Try.ntmps14
    go_wp2_with fail
    refine (begun19 w).mono ?_
    rintro e w1 ⟨rfl, x1⟩
    have X := Lib.hid x1
    clear x1
    go_wp2
    go_ret
    exact ⟨rfl, X.out⟩
  by_cases c1 : 30 < a
  · go_enter Try.func14, Try.ntmps14
    go_wp2_with fail
    refine (begun19 w).mono ?_
    rintro e w1 ⟨rfl, x1⟩
    have X := Lib.hid x1
    clear x1
    go_wp2
    go_ret
    exact ⟨rfl, X.out⟩
  by_cases c2 : b < 0
  · go_enter Try.func14, Try.ntmps14
    go_wp2_with fail
    refine (begun19 w).mono ?_
    rintro e w1 ⟨rfl, x1⟩
    have X := Lib.hid x1
    clear x1
    go_wp2
    go_ret
    exact ⟨rfl, X.out⟩
  by_cases c3 : 30 < b
  · go_enter Try.func14, Try.ntmps14
    go_wp2_with fail
    refine (begun19 w).mono ?_
    rintro e w1 ⟨rfl, x1⟩
    have X := Lib.hid x1
    clear x1
    go_wp2
    go_ret
    exact ⟨rfl, X.out⟩
  by_cases c4 : v < 0
  · go_enter Try.func14, Try.ntmps14
    go_wp2_with fail
    refine (begun19 w).mono ?_
    rintro e w1 ⟨rfl, x1⟩
    have X := Lib.hid x1
    clear x1
    go_wp2
    go_ret
    exact ⟨rfl, X.out⟩
  by_cases c5 : 1099511627776 < v
  · go_enter Try.func14, Try.ntmps14
    go_wp2_with fail
    refine (begun19 w).mono ?_
    rintro e w1 ⟨rfl, x1⟩
    have X := Lib.hid x1
    clear x1
    go_wp2
    go_ret
    exact ⟨rfl, X.out⟩
  by_cases c6 : u < 0
  · go_enter Try.func14, Try.ntmps14
    go_wp2_with fail
    refine (begun19 w).mono ?_
    rintro e w1 ⟨rfl, x1⟩
    have X := Lib.hid x1
    clear x1
    go_wp2
    go_ret
    exact ⟨rfl, X.out⟩
  by_cases c7 : 1099511627776 < u
  · go_enter Try.func14, Try.ntmps14
    go_wp2_with fail
    refine (begun19 w).mono ?_
    rintro e w1 ⟨rfl, x1⟩
    have X := Lib.hid x1
    clear x1
    go_wp2
    go_ret
    exact ⟨rfl, X.out⟩
  obtain ⟨a, rfl⟩ : ∃ A : Nat, a = (A : Int) := ⟨a.toNat, by omega⟩
  obtain ⟨b, rfl⟩ : ∃ A : Nat, b = (A : Int) := ⟨b.toNat, by omega⟩
  clear h1 h2 h3 h4
  go_enter Try.func14, Try.ntmps14
  go_wp2_with fail
  refine (begun19 w).mono ?_
  rintro e w1 ⟨rfl, x1⟩
  have X := Lib.hid x1
  clear x1
  have hws := X.out.size
  obtain ⟨g1, hg1⟩ : ∃ g, g = w1.heap.size := ⟨_, rfl⟩
  obtain ⟨g2, hg2⟩ : ∃ g, g = g1 + 1 := ⟨_, rfl⟩
  have hne : g1 ≠ g2 := by omega
  have T := Lib.hid (((two_new w1 0 0 (t := 45)).base hws).ext (Ext.alloc _ (.cells #[.int .i64 0, .int .i64 0] 45)))
  have O := Lib.hid ((two_new (w1.alloc (.cells #[.int .i64 0, .int .i64 0] 45)) 0 0 (t := 45)).base (show w.heap.size ≤ _ by simp; omega))
  replace O : Hid (Two ((w1.alloc (.cells #[.int .i64 0, .int .i64 0] 45)).alloc (.cells #[.int .i64 0, .int .i64 0] 45)) w.heap.size g2 0 0) := Lib.hid (by have h := O.out; rwa [show (w1.alloc (.cells #[.int .i64 0, .int .i64 0] 45)).heap.size = g2 by rw [hg2, hg1]; simp] at h)
  rw [← hg1] at T
  replace X := Lib.hid ((X.out.tr (Ext.alloc w1 (.cells #[.int .i64 0, .int .i64 0] 45))).tr (Ext.alloc _ (.cells #[.int .i64 0, .int .i64 0] 45)))
  go_wp2
  have d0 : decide ((a : Int) < 0) = false := decide_eq_false (by omega)
  have d1 : decide (30 < (a : Int)) = false := decide_eq_false (by omega)
  have d2 : decide ((b : Int) < 0) = false := decide_eq_false (by omega)
  have d3 : decide (30 < (b : Int)) = false := decide_eq_false (by omega)
  have d4 : decide (v < 0) = false := decide_eq_false (by omega)
  have d5 : decide (1099511627776 < v) = false := decide_eq_false (by omega)
  have d6 : decide (u < 0) = false := decide_eq_false (by omega)
  have d7 : decide (1099511627776 < u) = false := decide_eq_false (by omega)
  simp only [← hg1, ← hg2, d0, d1, d2, d3, d4, d5, d6, d7, Bool.or_false]
  clear d0 d1 d2 d3 d4 d5 d6 d7 hg2 hg1
  go_loopw [12] (fun i wr => ∃ k : Nat, (k : Int) ≤ (a : Int) ∧ i = .int .i64 (k : Int) ∧ Two wr w.heap.size g1 (k : Int) 0 ∧ Two wr w.heap.size g2 0 0 ∧ Below w.heap.size w wr) (fun i _ => ((a : Int)).toNat - (intOf i).toNat)
  case atStart => exact ⟨0, by omega, rfl, T.out, O.out, X.out⟩
  case round =>
    clear T O X
    obtain ⟨k, hk, rfl, t1, s1, x1⟩ := hrel
    have T := Lib.hid t1
    have O := Lib.hid s1
    have XR := Lib.hid x1
    clear t1 s1 x1
    by_cases hlt : (k : Int) < (a : Int)
    · have e1 := Lib.hid (show stR (k : Int) = (k : Int) + 1 ∧ stA (k : Int) = (k : Int) + 1 from ⟨if_neg (by omega), if_neg (by omega)⟩)
      go_wp2_with fail
      refine (start_only T.out (by omega) (by omega)).mono ?_
      rw [e1.out.1, e1.out.2]
      rintro e w8 ⟨rfl, t8, g8⟩
      have T8 := Lib.hid t8
      have O8 := Lib.hid (O.out.other g8 (by omega))
      have X8 := Lib.hid (Below.trans XR.out (only_below g8 t8.lo XR.out.size))
      clear t8 g8
      go_wp2
      go_roundw
      case rel => exact ⟨k + 1, by omega, by go_num, by have h := T8.out; rwa [show (k : Int) + 1 = ((k + 1 : Nat) : Int) by omega] at h, O8.out, X8.out⟩
      case measure => simp [intOf]; omega
    · have hkl : (k : Int) = (a : Int) := by omega
      rw [hkl] at T
      clear hkl
      replace X := XR
      clear XR
      go_wp2
      go_loopw [13] (fun i wr => ∃ k : Nat, (k : Int) ≤ (b : Int) ∧ i = .int .i64 (k : Int) ∧ Two wr w.heap.size g2 (k : Int) 0 ∧ Two wr w.heap.size g1 (a : Int) 0 ∧ Below w.heap.size w wr) (fun i _ => ((b : Int)).toNat - (intOf i).toNat)
      case atStart => exact ⟨0, by omega, rfl, O.out, T.out, X.out⟩
      case round =>
        clear O T X
        obtain ⟨k, hk, rfl, t1, s1, x1⟩ := hrel
        have T := Lib.hid t1
        have O := Lib.hid s1
        have XR := Lib.hid x1
        clear t1 s1 x1
        by_cases hlt : (k : Int) < (b : Int)
        · have e1 := Lib.hid (show stR (k : Int) = (k : Int) + 1 ∧ stA (k : Int) = (k : Int) + 1 from ⟨if_neg (by omega), if_neg (by omega)⟩)
          go_wp2_with fail
          refine (start_only T.out (by omega) (by omega)).mono ?_
          rw [e1.out.1, e1.out.2]
          rintro e w8 ⟨rfl, t8, g8⟩
          have T8 := Lib.hid t8
          have O8 := Lib.hid (O.out.other g8 (by omega))
          have X8 := Lib.hid (Below.trans XR.out (only_below g8 t8.lo XR.out.size))
          clear t8 g8
          go_wp2
          go_roundw
          case rel => exact ⟨k + 1, by omega, by go_num, by have h := T8.out; rwa [show (k : Int) + 1 = ((k + 1 : Nat) : Int) by omega] at h, O8.out, X8.out⟩
          case measure => simp [intOf]; omega
        · have hkl : (k : Int) = (b : Int) := by omega
          rw [hkl] at T
          clear hkl
          have JA := Lib.hid (show J64 (a : Int) by unfold J64; omega)
          have JB := Lib.hid (show J64 (b : Int) by unfold J64; omega)
          have JV := Lib.hid (show J64 v by unfold J64; omega)
          have JU := Lib.hid (show J64 u by unfold J64; omega)
          have pv : Hid (prV 0 v = v) := Lib.hid (by unfold prV prB; by_cases h : 0 < v; · rw [decide_eq_true h, decide_eq_true (by omega)]; rfl
                                                     · rw [decide_eq_false h]; show (0 : Int) = v; omega)
          have pu : Hid (prV 0 u = u) := Lib.hid (by unfold prV prB; by_cases h : 0 < u; · rw [decide_eq_true h, decide_eq_true (by omega)]; rfl
                                                     · rw [decide_eq_false h]; show (0 : Int) = u; omega)
          have ma : mayN (a : Int) = true := by unfold mayN; rw [decide_eq_true (by omega), decide_eq_true (by omega)]; rfl
          have mb : mayN (b : Int) = true := by unfold mayN; rw [decide_eq_true (by omega), decide_eq_true (by omega)]; rfl
          have mv : mayN v = true := by unfold mayN; rw [decide_eq_true (by omega), decide_eq_true (by omega)]; rfl
          have mu : mayN u = true := by unfold mayN; rw [decide_eq_true (by omega), decide_eq_true (by omega)]; rfl
          have INJ := Lib.hid (fun h => diskL_inj ma mv mb mu h)
          clear ma mb mv mu
          have la := enc_len10 JA.out
          have lb := enc_len10 JB.out
          have lv := enc_len10 JV.out
          have lu := enc_len10 JU.out
          have l1 : (diskL (a : Int) v).length ≤ 1000 := by unfold diskL; rw [sealL_length, List.length_append]; omega
          have l2 : (diskL (b : Int) u).length ≤ 1000 := by unfold diskL; rw [sealL_length, List.length_append]; omega
          clear la lb lv lu
          go_wp2_with fail
          refine (promise_only O.out).mono ?_
          rw [pv.out]
          rintro e w3 ⟨rfl, t3, g3⟩
          have X3 := Lib.hid (Below.trans XR.out (only_below g3 t3.lo XR.out.size))
          have D3 := Lib.hid t3
          have E3 := Lib.hid (T.out.other g3 (by omega))
          clear t3 g3 XR O T hlt hk
          go_wp2_with fail
          refine (promise_only E3.out).mono ?_
          rw [pu.out]
          rintro e w4 ⟨rfl, t4, g4⟩
          have X4 := Lib.hid (Below.trans X3.out (only_below g4 t4.lo X3.out.size))
          have E4 := Lib.hid t4
          have D4 := Lib.hid (D3.out.other g4 (by omega))
          clear t4 g4 X3 E3 D3
          have hcase : ((a : Int) = b ∧ v = u) ∨ (¬ (a : Int) = b ∨ ((a : Int) = b ∧ ¬ v = u)) := by omega
          obtain ⟨x, hx⟩ : ∃ x, x = diskL (a : Int) v := ⟨_, rfl⟩
          obtain ⟨y, hy⟩ : ∃ y, y = diskL (b : Int) u := ⟨_, rfl⟩
          have HX := Lib.hid hx
          have HY := Lib.hid hy
          rw [← hx] at l1
          rw [← hy] at l2
          clear hx hy
          have tw : ∃ T1 T2 T3 : Bool, ((a : Int) == (b : Int)) = T1 ∧ (v == u) = T2 ∧ (x == y) = T3 ∧ Hid (T3 = (T1 && T2)) := by
            refine ⟨_, _, _, rfl, rfl, rfl, Lib.hid ?_⟩
            rcases hcase with ⟨h1, h2⟩ | h
            · rw [h1, h2, HX.out, HY.out, h1, h2]; simp
            · have hne : (x == y) = false := beq_eq_false_iff_ne.2 (fun e => by
                rw [HX.out, HY.out] at e
                have := INJ.out e
                omega)
              rw [hne]
              rcases h with h | ⟨-, h⟩
              · rw [beq_eq_false_iff_ne.2 h]; rfl
              · rw [beq_eq_false_iff_ne.2 h, Bool.and_false]
          clear hcase INJ
          obtain ⟨T1, T2, T3, e1, e2, e3, e4⟩ := tw
          cases T1
          all_goals
            cases T2
            all_goals
              go_wp2_with fail
              refine rw_start [5, 6, 7, 0, 1, 2, 3, 4, 8, 9, 10, 11, 12, 13, 14] (by kernel_rfl) (by kernel_rfl) (fun _ _ d _ _ h => by cases d <;> exact h) ?_
              repeat (first | (refine rw_quiet rfl (by rfl) (by rfl) (fun K hK => ?_); go_big_quiet_op; refine hK _ ?_; clear hK K) | (refine rw_skip rfl (by rfl) (fun K hK => ?_); go_big_quiet_op; refine hK _ ?_; clear hK K))
              refine rw_call rfl (by rfl) (by rfl) (fun K hK => ?_)
              go_simp
              refine (bytes_any (D4.out.ext (Ext.drew w4)) JA.out JV.out).mono ?_
              rw [← HX.out]
              rintro e w5 ⟨p5, n5, c5, rfl, o5, x5⟩
              refine hK _ _ x5 ?_
              clear hK K
              obtain rfl : n5 = x.length := o5.sl.len.symm
              have x45 := (Ext.drew w4).tr x5
              have X5 := Lib.hid (Ext.tr X4.out x45)
              have E5 := Lib.hid (E4.out.ext x45)
              have O5 := Lib.hid o5.sl
              have cv := fun d os => str_of (O5.out.ext (Ext.reg w5 d os))
              clear o5 x5 x45
              repeat (first | (refine rw_quiet rfl (by rfl) (by rfl) (fun K hK => ?_); go_big_quiet_op; refine hK _ ?_; clear hK K) | (refine rw_skip rfl (by rfl) (fun K hK => ?_); go_big_quiet_op; refine hK _ ?_; clear hK K))
              clear cv
              refine rw_call rfl (by rfl) (by rfl) (fun K hK => ?_)
              go_simp
              refine (bytes_any E5.out JB.out JU.out).mono ?_
              rw [← HY.out]
              rintro e w6 ⟨p6, n6, c6, rfl, o6, x6⟩
              refine hK _ _ x6 ?_
              clear hK K
              obtain rfl : n6 = y.length := o6.sl.len.symm
              have X6 := Lib.hid (Ext.tr X5.out x6)
              have O6 := Lib.hid o6.sl
              have cv := fun d os => str_of (O6.out.ext (Ext.reg w6 d os))
              clear o6 x6
              repeat (first | (refine rw_quiet rfl (by rfl) (by rfl) (fun K hK => ?_); go_big_quiet_op; refine hK _ ?_; clear hK K) | (refine rw_skip rfl (by rfl) (fun K hK => ?_); go_big_quiet_op; refine hK _ ?_; clear hK K))
              clear cv
              refine rw_nil ?_
              have e5 : T3 = _ := e4.out
              subst e5
              go_wp2
              go_ret
              exact ⟨rfl, X6.out⟩
end Go.Proofs.Ytkgcmobijbakmaa
