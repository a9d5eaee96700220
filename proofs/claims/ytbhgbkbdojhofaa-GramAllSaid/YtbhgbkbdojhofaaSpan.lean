/-
  Contracts of package span and of its references, at any numbers of 64 bits. No condition beyond those written at each.
-/
import Derived.Test.YtbhgbkbdojhofaaRows
import Derived.Test.YtbhgbkbdojhofaaInts
namespace Go.Proofs.Ytbhgbkbdojhofaa
open Go Go.RowKit
set_option linter.unusedVariables false

/-- A number of 64 bits. -/
def J64 (a : Int) : Prop := -9223372036854775808 ≤ a ∧ a ≤ 9223372036854775807
def isT (n : Int) : Bool := decide (-1099511627776 ≤ n) && decide (n ≤ 1099511627776)
theorem isT_iff (n : Int) : isT n = true ↔ -1099511627776 ≤ n ∧ n ≤ 1099511627776 := by simp [isT]
theorem isT_yes {n : Int} (h : isT n = true) : -1099511627776 ≤ n ∧ n ≤ 1099511627776 := (isT_iff n).1 h
theorem isT_no {n : Int} (h : isT n = false) : n < -1099511627776 ∨ 1099511627776 < n := by
  have : ¬ (isT n = true) := by rw [h]; decide
  rw [isT_iff] at this
  omega
def okP (n : Int) : Bool := decide (0 ≤ n) && decide (n ≤ 500000)
theorem okP_yes {n : Int} (h : okP n = true) : 0 ≤ n ∧ n ≤ 500000 := by simpa [okP] using h
theorem okP_no {n : Int} (h : okP n = false) : n < 0 ∨ 500000 < n := by
  have : ¬ (0 ≤ n ∧ n ≤ 500000) := by intro hh; rw [okP] at h; simp [hh] at h
  omega

set_option maxHeartbeats 400000 in
/-- span.Time -/
theorem time_any {p : Option Addr} {n cap : Nat} {zs : List Int} {w : World} (h : SlI .i64 w p n cap zs) :
    Calls Try.prog 45 #[.slice p n cap] w fun e w' => e = .returned (.bool (zs.all isT)) ∧ w = w' := by
  have hn : n ≤ 9223372036854775807 := Nat.le_trans h.le h.max
  have H := Lib.hid h
  clear h
  go_enter Try.func45, Try.ntmps45
  go_wp2
  go_loop [7] (fun i => ∃ k : Nat, k ≤ n ∧ (zs.take k).all isT = true ∧ i = .int .i64 k) (fun i => n - (intOf i).toNat)
  case atStart => exact ⟨0, by omega, rfl, rfl⟩
  case round =>
    obtain ⟨k, hk, ha, rfl⟩ := hrel
    have HA := Lib.hid ha
    clear ha
    by_cases hlt : k < n
    · obtain ⟨b, o, x, rfl, hx, hcell, hwf⟩ := H.out.at k hlt
      have HX := Lib.hid hx
      clear hx hwf
      cases ht : isT x
      · have hall : zs.all isT = false := by
          rw [List.all_eq_false]
          exact ⟨x, List.mem_of_getElem? HX.out, by rw [ht]; decide⟩
        have HB := Lib.hid hall
        have hT := isT_no ht
        clear hall ht
        rcases hT with hT | hT
        · go_wp2
          go_ret
          exact ⟨by rw [HB.out]; rfl, rfl⟩
        · have hT2 : ¬ x < -1099511627776 := by omega
          go_wp2
          go_ret
          exact ⟨by rw [HB.out]; rfl, rfl⟩
      · have hT := isT_yes ht
        obtain ⟨t1, t2⟩ := hT
        have hall : (zs.take (k + 1)).all isT = true := by
          rw [List.take_add_one, HX.out, List.all_append, HA.out]
          simp [ht]
        have HL := Lib.hid hall
        clear hall ht
        go_wp2
        go_round
        case rel => exact ⟨k + 1, by omega, HL.out, by go_num⟩
        case measure => simp [intOf]; omega
    · have e : zs.take k = zs := List.take_of_length_le (by rw [H.out.len]; omega)
      rw [e] at HA
      clear e
      go_wp2
      go_ret
      exact ⟨by rw [HA.out]; rfl, rfl⟩

set_option maxHeartbeats 400000 in
/-- The reference's Time -/
theorem rtime_any (x : Int) (w : World) : Calls Try.prog 32 #[.int .i64 x] w fun e w' => e = .returned (.bool (isT x)) ∧ w = w' := by
  cases ht : isT x
  · rcases isT_no ht with hT | hT
    · clear ht
      have hd : decide (-1099511627776 ≤ x) = false := decide_eq_false (by omega)
      go_enter Try.func32, Try.ntmps32
      go_wp2
      go_ret
      exact ⟨rfl, rfl⟩
    · clear ht
      have hd : decide (x ≤ 1099511627776) = false := decide_eq_false (by omega)
      have hd2 : decide (-1099511627776 ≤ x) = true := decide_eq_true (by omega)
      go_enter Try.func32, Try.ntmps32
      go_wp2
      go_ret
      exact ⟨rfl, rfl⟩
  · obtain ⟨t1, t2⟩ := isT_yes ht
    clear ht
    go_enter Try.func32, Try.ntmps32
    go_wp2
    go_ret
    exact ⟨rfl, rfl⟩

set_option maxHeartbeats 400000 in
/-- span.Drift -/
theorem drift_any (x : Int) (w : World) : Calls Try.prog 43 #[.int .i64 x] w fun e w' => e = .returned (.bool (okP x)) ∧ w = w' := by
  cases ht : okP x
  · rcases okP_no ht with hT | hT
    · clear ht
      have hd : decide (0 ≤ x) = false := decide_eq_false (by omega)
      go_enter Try.func43, Try.ntmps43
      go_wp2
      go_ret
      exact ⟨rfl, rfl⟩
    · clear ht
      have hd : decide (x ≤ 500000) = false := decide_eq_false (by omega)
      have hd2 : decide (0 ≤ x) = true := decide_eq_true (by omega)
      go_enter Try.func43, Try.ntmps43
      go_wp2
      go_ret
      exact ⟨rfl, rfl⟩
  · obtain ⟨t1, t2⟩ := okP_yes ht
    clear ht
    go_enter Try.func43, Try.ntmps43
    go_wp2
    go_ret
    exact ⟨rfl, rfl⟩

theorem j64_wf {x : Int} (h : J64 x) : (Lit.int .i64 x).wf = true := WalkArith.wf_i64 h

set_option maxHeartbeats 400000 in
/-- span.told -/
theorem told_any (x : Int) (hx : J64 x) (w : World) : Calls Try.prog 57 #[.int .i64 x] w fun e w' => e = .returned (.tuple #[.int .i64 (if isT x then x else 0), .bool (isT x)]) ∧ Ext w w' := by
  cases ht : isT x
  all_goals
    go_enter Try.func57, Try.ntmps57
    go_wp2_with fail
    refine (time_any (zs := [x]) (SlI.lit .i64 _ w 1 _ _ [x] rfl rfl (by omega) (by intro y hy; simp at hy; subst hy; exact j64_wf hx))).mono ?_
    rw [show [x].all isT = isT x by simp, ht]
    rintro e w1 ⟨rfl, rfl⟩
    go_wp2
    go_ret2
    exact ⟨rfl, Ext.alloc w _⟩
end Go.Proofs.Ytbhgbkbdojhofaa
