/-
  The statements' begun, the walks of DriftAll and DriftFirst: whatever the readings and the numbers, the law returns true.
-/
import Derived.Test.YtjghjnnmndibcaaDrift5
namespace Go.Proofs.Ytjghjnnmndibcaa
open Go Go.Sort Go.RowKit Go.Deep
set_option linter.unusedVariables false

set_option maxRecDepth 8000 in
set_option maxHeartbeats 2000000 in
theorem begun8 (w : World) : Calls Try.prog 20 #[] w fun e w' => e = .returned (.bool true) ∧ Ext w w' := by
  have s0 : SlS 2 (w.alloc (.cells #[.int .i64 0, .int .i64 5, .int .i64 100, .int .i64 110] 51)) (some ⟨w.heap.size, 0, none⟩) 2 2 ([((0 : Int), (5 : Int)), (100, 110)].map rdE) :=
    SlS.lit w 2 _ (0, 0) _ rfl (by intro x hx; simp [rdE] at hx; rcases hx with rfl | rfl <;> rfl) rfl (by omega)
  have hl : Hid (∀ r ∈ [((0 : Int), (5 : Int)), (100, 110)], I64 r.1 ∧ I64 r.2) := Lib.hid (by
    intro r hr
    simp at hr
    rcases hr with rfl | rfl <;> exact ⟨i64b (by simp) (by simp), i64b (by simp) (by simp)⟩)
  have S := Lib.hid s0
  have X := Lib.hid (Ext.alloc w (.cells #[.int .i64 0, .int .i64 5, .int .i64 100, .int .i64 110] 51))
  clear s0
  have q1 := Lib.hid (show decide (fault [((0 : Int), (5 : Int)), (100, 110)] 100000 = -1) = true from by decide)
  have q2 := Lib.hid (show decide (fault [((0 : Int), (5 : Int)), (100, 110)] 10000 = -1) = false from by decide)
  have q3 := Lib.hid (show fault [((0 : Int), (5 : Int)), (100, 110)] 10000 = 2 from by decide)
  have q4 := Lib.hid (show (5 : Int) + loB (100 - 0) 100000 = 94 ∧ (5 : Int) + hiB (100 - 0) 100000 = 116 from by decide)
  go_enter Try.func20, Try.ntmps20
  go_wp2_with fail
  refine (bounds_yes 0 5 100 100000 (by omega) (by omega) (by omega) (by omega) (by omega) (by omega) (by omega) _).mono ?_
  rw [q4.out.1, q4.out.2]
  rintro e w1 ⟨rfl, x1⟩
  replace S := Lib.hid (S.out.ext x1)
  replace X := Lib.hid (X.out.tr x1)
  clear x1
  go_wp2_with fail
  refine (may_any S.out hl.out).mono ?_
  rw [q1.out]
  rintro e w2 ⟨rfl, x1⟩
  replace S := Lib.hid (S.out.ext x1)
  replace X := Lib.hid (X.out.tr x1)
  clear x1
  go_wp2_with fail
  refine (may_any S.out hl.out).mono ?_
  rw [q2.out]
  rintro e w3 ⟨rfl, x1⟩
  replace S := Lib.hid (S.out.ext x1)
  replace X := Lib.hid (X.out.tr x1)
  clear x1
  go_wp2_with fail
  refine (fault_any S.out hl.out).mono ?_
  rw [q3.out]
  rintro e w4 ⟨rfl, x1⟩
  replace X := Lib.hid (X.out.tr x1)
  clear x1
  go_wp2
  go_ret
  exact ⟨rfl, X.out⟩

theorem rd_take {l : List RdD} {k : Nat} (h : ∀ r ∈ l, I64 r.1 ∧ I64 r.2) : ∀ r ∈ l.take k, I64 r.1 ∧ I64 r.2 := fun r hr => h r (List.mem_of_mem_take hr)
theorem rd_drop {l : List RdD} {k : Nat} (h : ∀ r ∈ l, I64 r.1 ∧ I64 r.2) : ∀ r ∈ l.drop k, I64 r.1 ∧ I64 r.2 := fun r hr => h r (List.mem_of_mem_drop hr)
theorem SlS.takeR {w : World} {p : Option Addr} {n cap : Nat} {l : List RdD} (h : SlS 2 w p n cap (l.map rdE)) (k : Nat) (hk : k ≤ n) : SlS 2 w p k cap ((l.take k).map rdE) := by
  rw [List.map_take]; exact h.take k hk
theorem SlS.dropR {w : World} {p : Option Addr} {n cap : Nat} {l : List RdD} (h : SlS 2 w p n cap (l.map rdE)) (k : Nat) (hk : k ≤ n) : SlS 2 w (tailS 2 p cap k) (n - k) (cap - k) ((l.drop k).map rdE) := by
  rw [List.map_drop]; exact h.drop k hk

set_option maxRecDepth 8000 in
set_option maxHeartbeats 2000000 in
theorem walk_DriftAll {p : Option Addr} {n cap : Nat} {l : List RdD} {q : Int} {w : World} (h : SlS 2 w p n cap (l.map rdE)) (hl : ∀ r ∈ l, I64 r.1 ∧ I64 r.2) (hq : I64 q) :
    Calls Try.prog 8 #[.slice p n cap, .int .i64 q] w fun e w' => e = .returned (.bool true) ∧ Below w.heap.size w w' := by
  have hn : n ≤ 9223372036854775807 := Nat.le_trans h.le h.max
  have hcap := h.le
  obtain ⟨m, hm⟩ : ∃ m, m = min n 20 := ⟨_, rfl⟩
  have S0 := Lib.hid (h.takeR m (by omega))
  have L := Lib.hid (rd_take (k := m) hl)
  have hms : m ≤ 20 := by omega
  obtain ⟨F, hF⟩ : ∃ F, F = fault (l.take m) q := ⟨_, rfl⟩
  have HF := Lib.hid hF
  clear hF hl
  by_cases hlt : 20 < n
  · obtain ⟨b, o, hp, -⟩ := h.cells (by omega)
    subst hp
    have hm20 : m = 20 := by omega
    subst hm20
    clear h hm
    by_cases hf : F = -1
    · subst hf
      go_enter Try.func8, Try.ntmps8
      go_wp2_with fail
      refine (begun8 w).mono ?_
      rintro e w1 ⟨rfl, x1⟩
      have X := Lib.hid x1
      clear x1
      go_wp2_with fail
      refine (of_any (S0.out.ext X.out) (by omega)).mono ?_
      rintro e w2 ⟨p2, c2, rfl, o2, x1⟩
      have R := Lib.hid o2
      replace X := Lib.hid (X.out.tr x1)
      clear x1 o2
      go_wp2_with fail
      refine (rfault_any R.out.sl).mono ?_
      rw [← HF.out]
      rintro e w3 ⟨rfl, x1⟩
      replace X := Lib.hid (X.out.tr x1)
      clear x1
      go_wp2_with fail
      refine (fault_any (S0.out.ext X.out) L.out).mono ?_
      rw [← HF.out]
      rintro e w4 ⟨rfl, x1⟩
      replace X := Lib.hid (X.out.tr x1)
      clear x1
      go_wp2_with fail
      refine (may_any (S0.out.ext X.out) L.out).mono ?_
      rw [← HF.out, decide_eq_true rfl]
      rintro e w5 ⟨rfl, x1⟩
      replace X := Lib.hid (X.out.tr x1)
      clear x1
      go_wp2
      go_ret
      exact ⟨rfl, X.out⟩
    · have hf1 : (F == -1) = false := beq_eq_false_iff_ne.2 hf
      have HD := Lib.hid (decide_eq_false hf)
      clear hf
      go_enter Try.func8, Try.ntmps8
      go_wp2_with fail
      refine (begun8 w).mono ?_
      rintro e w1 ⟨rfl, x1⟩
      have X := Lib.hid x1
      clear x1
      go_wp2_with fail
      refine (of_any (S0.out.ext X.out) (by omega)).mono ?_
      rintro e w2 ⟨p2, c2, rfl, o2, x1⟩
      have R := Lib.hid o2
      replace X := Lib.hid (X.out.tr x1)
      clear x1 o2
      go_wp2_with fail
      refine (rfault_any R.out.sl).mono ?_
      rw [← HF.out]
      rintro e w3 ⟨rfl, x1⟩
      replace X := Lib.hid (X.out.tr x1)
      clear x1
      go_wp2_with fail
      refine (fault_any (S0.out.ext X.out) L.out).mono ?_
      rw [← HF.out]
      rintro e w4 ⟨rfl, x1⟩
      replace X := Lib.hid (X.out.tr x1)
      clear x1
      go_wp2_with fail
      refine (may_any (S0.out.ext X.out) L.out).mono ?_
      rw [← HF.out, HD.out]
      rintro e w5 ⟨rfl, x1⟩
      replace X := Lib.hid (X.out.tr x1)
      clear x1
      go_wp2
      go_ret
      exact ⟨rfl, X.out⟩
  · have hmn : m = n := by omega
    clear h hm
    subst hmn
    by_cases hf : F = -1
    · subst hf
      go_enter Try.func8, Try.ntmps8
      go_wp2_with fail
      refine (begun8 w).mono ?_
      rintro e w1 ⟨rfl, x1⟩
      have X := Lib.hid x1
      clear x1
      go_wp2_with fail
      refine (of_any (S0.out.ext X.out) (by omega)).mono ?_
      rintro e w2 ⟨p2, c2, rfl, o2, x1⟩
      have R := Lib.hid o2
      replace X := Lib.hid (X.out.tr x1)
      clear x1 o2
      go_wp2_with fail
      refine (rfault_any R.out.sl).mono ?_
      rw [← HF.out]
      rintro e w3 ⟨rfl, x1⟩
      replace X := Lib.hid (X.out.tr x1)
      clear x1
      go_wp2_with fail
      refine (fault_any (S0.out.ext X.out) L.out).mono ?_
      rw [← HF.out]
      rintro e w4 ⟨rfl, x1⟩
      replace X := Lib.hid (X.out.tr x1)
      clear x1
      go_wp2_with fail
      refine (may_any (S0.out.ext X.out) L.out).mono ?_
      rw [← HF.out, decide_eq_true rfl]
      rintro e w5 ⟨rfl, x1⟩
      replace X := Lib.hid (X.out.tr x1)
      clear x1
      go_wp2
      go_ret
      exact ⟨rfl, X.out⟩
    · have hf1 : (F == -1) = false := beq_eq_false_iff_ne.2 hf
      have HD := Lib.hid (decide_eq_false hf)
      clear hf
      go_enter Try.func8, Try.ntmps8
      go_wp2_with fail
      refine (begun8 w).mono ?_
      rintro e w1 ⟨rfl, x1⟩
      have X := Lib.hid x1
      clear x1
      go_wp2_with fail
      refine (of_any (S0.out.ext X.out) (by omega)).mono ?_
      rintro e w2 ⟨p2, c2, rfl, o2, x1⟩
      have R := Lib.hid o2
      replace X := Lib.hid (X.out.tr x1)
      clear x1 o2
      go_wp2_with fail
      refine (rfault_any R.out.sl).mono ?_
      rw [← HF.out]
      rintro e w3 ⟨rfl, x1⟩
      replace X := Lib.hid (X.out.tr x1)
      clear x1
      go_wp2_with fail
      refine (fault_any (S0.out.ext X.out) L.out).mono ?_
      rw [← HF.out]
      rintro e w4 ⟨rfl, x1⟩
      replace X := Lib.hid (X.out.tr x1)
      clear x1
      go_wp2_with fail
      refine (may_any (S0.out.ext X.out) L.out).mono ?_
      rw [← HF.out, HD.out]
      rintro e w5 ⟨rfl, x1⟩
      replace X := Lib.hid (X.out.tr x1)
      clear x1
      go_wp2
      go_ret
      exact ⟨rfl, X.out⟩
end Go.Proofs.Ytjghjnnmndibcaa
