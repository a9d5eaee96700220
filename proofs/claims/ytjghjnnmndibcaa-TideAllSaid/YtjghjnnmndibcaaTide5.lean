/-
  The contracts of the reference's clock: at any numbers of 64 bits within its bounds.
-/
import Derived.Test.YtjghjnnmndibcaaTide4
namespace Go.Proofs.Ytjghjnnmndibcaa
open Go Go.Sort Go.RowKit
set_option linter.unusedVariables false

set_option maxHeartbeats 1000000 in
theorem rgo_only {base g : Nat} {a b n : Int} {w : World} (h : Two w base g a b) (ha : 0 ≤ a) (ha2 : a ≤ 1099511627776) (hb : 0 ≤ b) (hb2 : b ≤ 2199023255552) (hn : -9223372036854775808 ≤ n) (hn2 : n ≤ 9223372036854775807) :
    Calls Try.prog 16 #[.pointer (some ⟨g, 0, none⟩), .int .i64 n] w fun e w' => e = .returned (.tuple #[]) ∧ Two w' base g (goA a b n) (goB b n) ∧ w.grownBy w' (some g) := by
  have H := Lib.hid h
  have c0 := h.c0
  have c1 := h.c1
  have f0 := h.f0
  have f1 := h.f1
  clear h
  obtain ⟨A, hA⟩ : ∃ A, A = goA a b n := ⟨_, rfl⟩
  obtain ⟨B, hB⟩ : ∃ B, B = goB b n := ⟨_, rfl⟩
  rw [← hA, ← hB]
  by_cases hr : n < 0 ∨ 1048576 < n
  · rw [goA, if_pos hr] at hA
    rw [goB, if_pos hr] at hB
    subst hA hB
    by_cases hr1 : n < 0
    all_goals
      go_enter Try.func16, Try.ntmps16
      go_wp2
      refine bodyPost_ret (results_none rfl _ _ _) rfl ?_
      exact ⟨rfl, H.out, only_refl _ _⟩
  · rw [goA, if_neg hr] at hA
    rw [goB, if_neg hr] at hB
    have HA := Lib.hid hA
    have HB := Lib.hid hB
    clear hA hB
    by_cases h1 : b < n - n / 2
    all_goals
      by_cases h2 : 1099511627776 < a + n - min (n - n / 2) b
      all_goals
        go_enter Try.func16, Try.ntmps16
        go_wp2
        all_goals
          go_end0
          refine ⟨rfl, (go_done H.out (by rw [HB.out]; omega) (by rw [HA.out]; omega)).2⟩

set_option maxRecDepth 8000 in
set_option maxHeartbeats 2000000 in
theorem rright_only {base g : Nat} {a b lo hi : Int} {w : World} (h : Two w base g a b) (ha : 0 ≤ a) (ha2 : a ≤ 1099511627776) (hl : I64 lo) (hh : I64 hi) :
    Calls Try.prog 18 #[.pointer (some ⟨g, 0, none⟩), .agg #[.int .i64 lo, .int .i64 hi]] w fun e w' => e = .returned (.tuple #[]) ∧ Two w' base g (rtA a lo hi) (rtB a b lo hi) ∧ w.grownBy w' (some g) := by
  have H := Lib.hid h
  have c0 := h.c0
  have c1 := h.c1
  have f0 := h.f0
  have f1 := h.f1
  have hsz := h.hi
  clear h
  obtain ⟨A, hA⟩ : ∃ A, A = rtA a lo hi := ⟨_, rfl⟩
  obtain ⟨B, hB⟩ : ∃ B, B = rtB a b lo hi := ⟨_, rfl⟩
  rw [← hA, ← hB]
  by_cases h0 : hi < lo
  · have hz : okR lo hi = false := by unfold okR; rw [decide_eq_false (by omega)]; rfl
    rw [rtA, hz, if_neg (by simp)] at hA
    rw [rtB, hz, if_neg (by simp)] at hB
    subst hA hB
    go_enter Try.func18, Try.ntmps18
    go_wp2
    refine bodyPost_ret (results_none rfl _ _ _) rfl ?_
    exact ⟨rfl, H.out.ext (Ext.alloc w _), only_ext (Ext.alloc w _) _⟩
  · cases ht : isT lo
    · have hz : okR lo hi = false := by unfold okR; rw [ht]; simp
      rw [rtA, hz, if_neg (by simp)] at hA
      rw [rtB, hz, if_neg (by simp)] at hB
      subst hA hB
      go_enter Try.func18, Try.ntmps18
      go_wp2_with fail
      refine (rtime_any lo _).mono ?_
      rw [ht]
      rintro e w2 ⟨rfl, rfl⟩
      go_wp2
      refine bodyPost_ret (results_none rfl _ _ _) rfl ?_
      exact ⟨rfl, H.out.ext (Ext.alloc w _), only_ext (Ext.alloc w _) _⟩
    · cases ht2 : isT hi
      · have hz : okR lo hi = false := by unfold okR; rw [ht2]; simp
        rw [rtA, hz, if_neg (by simp)] at hA
        rw [rtB, hz, if_neg (by simp)] at hB
        subst hA hB
        go_enter Try.func18, Try.ntmps18
        go_wp2_with fail
        refine (rtime_any lo _).mono ?_
        rw [ht]
        rintro e w2 ⟨rfl, rfl⟩
        go_wp2_with fail
        refine (rtime_any hi _).mono ?_
        rw [ht2]
        rintro e w2 ⟨rfl, rfl⟩
        go_wp2
        refine bodyPost_ret (results_none rfl _ _ _) rfl ?_
        exact ⟨rfl, H.out.ext (Ext.alloc w _), only_ext (Ext.alloc w _) _⟩
      · have hz : okR lo hi = true := by unfold okR; rw [decide_eq_true (by omega), ht, ht2]; rfl
        obtain ⟨b1, b2, b3, b4⟩ : -1099511627776 ≤ lo ∧ lo ≤ 1099511627776 ∧ -1099511627776 ≤ hi ∧ hi ≤ 1099511627776 := by
          have := isT_yes ht
          have := isT_yes ht2
          omega
        by_cases h1 : a < lo
        · rw [rtA, if_pos ⟨hz, by omega⟩, show max a lo = lo by omega] at hA
          rw [rtB, if_pos hz, if_neg (by omega)] at hB
          subst hA hB
          go_enter Try.func18, Try.ntmps18
          go_wp2_with fail
          refine (rtime_any A _).mono ?_
          rw [ht]
          rintro e w2 ⟨rfl, rfl⟩
          go_wp2_with fail
          refine (rtime_any hi _).mono ?_
          rw [ht2]
          rintro e w2 ⟨rfl, rfl⟩
          go_wp2_with fail
          go_quiet (fail)
          go_wp2_with fail
          go_end0
          exact ⟨rfl, ((H.out.ext ((Ext.alloc w _).tr (Ext.drewN _ _))).put0 _).put1 _, only_put (only_put (only_ext ((Ext.alloc w _).tr (Ext.drewN _ _)) _) _ _) _ _⟩
        · by_cases h2 : hi < a
          · rw [rtA, if_neg (by simp [h2])] at hA
            rw [rtB, if_pos hz, if_pos h2] at hB
            subst hA hB
            go_enter Try.func18, Try.ntmps18
            go_wp2_with fail
            refine (rtime_any lo _).mono ?_
            rw [ht]
            rintro e w2 ⟨rfl, rfl⟩
            go_wp2_with fail
            refine (rtime_any hi _).mono ?_
            rw [ht2]
            rintro e w2 ⟨rfl, rfl⟩
            go_wp2_with fail
            go_quiet (fail)
            go_wp2_with fail
            go_quiet (fail)
            go_wp2_with fail
            go_region
            go_wp2
            go_end0
            exact ⟨rfl, (H.out.ext ((Ext.alloc w _).tr (Ext.drewN _ _))).put1 _, only_put (only_ext ((Ext.alloc w _).tr (Ext.drewN _ _)) _) _ _⟩
        
          · rw [rtA, if_pos ⟨hz, h2⟩, show max a lo = a by omega] at hA
            rw [rtB, if_pos hz, if_neg h2] at hB
            subst hA hB
            go_enter Try.func18, Try.ntmps18
            go_wp2_with fail
            refine (rtime_any lo _).mono ?_
            rw [ht]
            rintro e w2 ⟨rfl, rfl⟩
            go_wp2_with fail
            refine (rtime_any hi _).mono ?_
            rw [ht2]
            rintro e w2 ⟨rfl, rfl⟩
            go_wp2_with fail
            go_quiet (fail)
            go_wp2_with fail
            go_quiet (fail)
            go_wp2_with fail
            go_end0
            exact ⟨rfl, (H.out.ext ((Ext.alloc w _).tr (Ext.drewN _ _))).put1 _, only_put (only_ext ((Ext.alloc w _).tr (Ext.drewN _ _)) _) _ _⟩
end Go.Proofs.Ytjghjnnmndibcaa
