/-
  The contracts of Same, Eq and of the reference's: at any entries. Conditions: those written at each.
-/
import Derived.Test.YtgplmbchlahbkaaEntry
namespace Go.Proofs.Ytgplmbchlahbkaa
open Go Go.Sort Go.RowKit
set_option linter.unusedVariables false

theorem str_ne {a b : ByteArray} (h : ¬ a = b) : (a.toList == b.toList) = false := by
  refine beq_eq_false_iff_ne.2 fun e => h ?_
  rw [ByteArray.toList_eq, ByteArray.toList_eq] at e
  exact Go.WideShapes.bytes_inj e
theorem EnBox.new' (w : World) (e : EnD) (t : TypeId) (g : Nat) (hg : g = w.heap.size) : EnBox (w.alloc (.cells (enA e) t)) g e := by subst hg; exact EnBox.new w e t

set_option maxRecDepth 8000 in
set_option maxHeartbeats 4000000 in
theorem same_any {a b : EnD} {w : World} : Calls Try.prog 62 #[enV a, enV b] w fun x w' => x = .returned (.bool (sameB a b)) ∧ Ext w w' := by
  obtain ⟨f1, f2, f3, f4, f5, f6, dat⟩ := a
  obtain ⟨g1, g2, g3, g4, g5, g6, gat⟩ := b
  obtain ⟨B, hB⟩ : ∃ B, B = sameB ⟨f1, f2, f3, f4, f5, f6, dat⟩ ⟨g1, g2, g3, g4, g5, g6, gat⟩ := ⟨_, rfl⟩
  rw [← hB]
  have X1 := Lib.hid ((Ext.alloc w (.cells (enA ⟨f1, f2, f3, f4, f5, f6, dat⟩) 54)).tr (Ext.alloc _ (.cells (enA ⟨g1, g2, g3, g4, g5, g6, gat⟩) 54)))
  unfold sameB at hB
  simp only at hB
  by_cases d0 : f1 = g1
  · subst d0
    rw [decide_eq_true rfl] at hB
    by_cases d1 : f2 = g2
    · subst d1
      rw [decide_eq_true rfl] at hB
      by_cases d2 : f3 = g3
      · subst d2
        rw [decide_eq_true rfl] at hB
        simp only [Bool.true_and] at hB
        subst hB
        go_enter Try.func62, Try.ntmps62
        go_wp2
        go_ret
        exact ⟨rfl, X1.out⟩
      · rw [decide_eq_false d2] at hB
        simp only [Bool.true_and] at hB
        subst hB
        have n2 : (f3 == g3) = false := beq_eq_false_iff_ne.2 d2
        clear d2
        go_enter Try.func62, Try.ntmps62
        go_wp2
        go_ret
        exact ⟨rfl, X1.out⟩
    · rw [decide_eq_false d1] at hB
      simp only [Bool.true_and, Bool.false_and] at hB
      subst hB
      have n1 : (f2 == g2) = false := beq_eq_false_iff_ne.2 d1
      clear d1
      go_enter Try.func62, Try.ntmps62
      go_wp2
      go_ret
      exact ⟨rfl, X1.out⟩
  · rw [decide_eq_false d0] at hB
    simp only [Bool.false_and] at hB
    subst hB
    have n0 : (f1 == g1) = false := beq_eq_false_iff_ne.2 d0
    clear d0
    go_enter Try.func62, Try.ntmps62
    go_wp2
    go_ret
    exact ⟨rfl, X1.out⟩

set_option maxRecDepth 8000 in
set_option maxHeartbeats 4000000 in
theorem same_ref {a b : EnD} {w : World} : Calls Try.prog 69 #[enV a, enV b] w fun x w' => x = .returned (.bool (sameB a b)) ∧ Ext w w' := by
  obtain ⟨f1, f2, f3, f4, f5, f6, dat⟩ := a
  obtain ⟨g1, g2, g3, g4, g5, g6, gat⟩ := b
  obtain ⟨B, hB⟩ : ∃ B, B = sameB ⟨f1, f2, f3, f4, f5, f6, dat⟩ ⟨g1, g2, g3, g4, g5, g6, gat⟩ := ⟨_, rfl⟩
  rw [← hB]
  have X1 := Lib.hid ((Ext.alloc w (.cells (enA ⟨f1, f2, f3, f4, f5, f6, dat⟩) 54)).tr (Ext.alloc _ (.cells (enA ⟨g1, g2, g3, g4, g5, g6, gat⟩) 54)))
  unfold sameB at hB
  simp only at hB
  by_cases d0 : f1 = g1
  · subst d0
    rw [decide_eq_true rfl] at hB
    by_cases d1 : f2 = g2
    · subst d1
      rw [decide_eq_true rfl] at hB
      by_cases d2 : f3 = g3
      · subst d2
        rw [decide_eq_true rfl] at hB
        simp only [Bool.true_and] at hB
        subst hB
        go_enter Try.func69, Try.ntmps69
        go_wp2
        go_ret
        exact ⟨rfl, X1.out⟩
      · rw [decide_eq_false d2] at hB
        simp only [Bool.true_and] at hB
        subst hB
        have n2 : (f3 == g3) = false := beq_eq_false_iff_ne.2 d2
        clear d2
        go_enter Try.func69, Try.ntmps69
        go_wp2
        go_ret
        exact ⟨rfl, X1.out⟩
    · rw [decide_eq_false d1] at hB
      simp only [Bool.true_and, Bool.false_and] at hB
      subst hB
      have n1 : (f2 == g2) = false := beq_eq_false_iff_ne.2 d1
      clear d1
      go_enter Try.func69, Try.ntmps69
      go_wp2
      go_ret
      exact ⟨rfl, X1.out⟩
  · rw [decide_eq_false d0] at hB
    simp only [Bool.false_and] at hB
    subst hB
    have n0 : (f1 == g1) = false := beq_eq_false_iff_ne.2 d0
    clear d0
    go_enter Try.func69, Try.ntmps69
    go_wp2
    go_ret
    exact ⟨rfl, X1.out⟩

set_option maxRecDepth 8000 in
set_option maxHeartbeats 4000000 in
theorem eq_any {a b : EnD} {w : World} : Calls Try.prog 48 #[enV a, enV b] w fun x w' => x = .returned (.bool (eqB a b)) ∧ Ext w w' := by
  obtain ⟨f1, f2, f3, f4, f5, f6, dat⟩ := a
  obtain ⟨g1, g2, g3, g4, g5, g6, gat⟩ := b
  obtain ⟨B, hB⟩ : ∃ B, B = eqB ⟨f1, f2, f3, f4, f5, f6, dat⟩ ⟨g1, g2, g3, g4, g5, g6, gat⟩ := ⟨_, rfl⟩
  rw [← hB]
  have X1 := Lib.hid ((Ext.alloc w (.cells (enA ⟨f1, f2, f3, f4, f5, f6, dat⟩) 54)).tr (Ext.alloc _ (.cells (enA ⟨g1, g2, g3, g4, g5, g6, gat⟩) 54)))
  have SH := Lib.hid (fun w => same_any (a := ⟨f1, f2, f3, f4, f5, f6, dat⟩) (b := ⟨g1, g2, g3, g4, g5, g6, gat⟩) (w := w))
  unfold eqB at hB
  simp only at hB
  generalize sameB ⟨f1, f2, f3, f4, f5, f6, dat⟩ ⟨g1, g2, g3, g4, g5, g6, gat⟩ = S at *
  cases S
  · simp only [Bool.false_and] at hB
    subst hB
    go_enter Try.func48, Try.ntmps48
    go_wp2_with fail
    refine (SH.out _).mono ?_
    rintro x w2 ⟨rfl, x2⟩
    have X2 := Lib.hid (X1.out.tr x2)
    have D1 := (((EnBox.new w ⟨f1, f2, f3, f4, f5, f6, dat⟩ 54).ext (Ext.alloc _ (.cells (enA ⟨g1, g2, g3, g4, g5, g6, gat⟩) 54))).ext x2)
    have D2 := (EnBox.new' (w.alloc (.cells (enA ⟨f1, f2, f3, f4, f5, f6, dat⟩) 54)) ⟨g1, g2, g3, g4, g5, g6, gat⟩ 54 (w.heap.size + 1) (by simp)).ext x2
    obtain ⟨p0, p1, p2, p3, p4, p5, p6⟩ := D1
    obtain ⟨q0, q1, q2, q3, q4, q5, q6⟩ := D2
    simp only at p0 p1 p2 p3 p4 p5 p6 q0 q1 q2 q3 q4 q5 q6
    clear x2
    go_wp2
    go_ret
    exact ⟨rfl, X2.out⟩
  by_cases d0 : f4 = g4
  · subst d0
    rw [decide_eq_true rfl] at hB
    by_cases d1 : f5 = g5
    · subst d1
      rw [decide_eq_true rfl] at hB
      by_cases d2 : f6 = g6
      · subst d2
        rw [decide_eq_true rfl] at hB
        by_cases d3 : dat = gat
        · subst d3
          rw [decide_eq_true rfl] at hB
          simp only [Bool.true_and] at hB
          subst hB
          go_enter Try.func48, Try.ntmps48
          go_wp2_with fail
          refine (SH.out _).mono ?_
          rintro x w2 ⟨rfl, x2⟩
          have X2 := Lib.hid (X1.out.tr x2)
          have D1 := (((EnBox.new w ⟨f1, f2, f3, f4, f5, f6, dat⟩ 54).ext (Ext.alloc _ (.cells (enA ⟨g1, g2, g3, f4, f5, f6, dat⟩) 54))).ext x2)
          have D2 := (EnBox.new' (w.alloc (.cells (enA ⟨f1, f2, f3, f4, f5, f6, dat⟩) 54)) ⟨g1, g2, g3, f4, f5, f6, dat⟩ 54 (w.heap.size + 1) (by simp)).ext x2
          obtain ⟨p0, p1, p2, p3, p4, p5, p6⟩ := D1
          obtain ⟨q0, q1, q2, q3, q4, q5, q6⟩ := D2
          simp only at p0 p1 p2 p3 p4 p5 p6 q0 q1 q2 q3 q4 q5 q6
          clear x2
          go_wp2
          go_ret
          exact ⟨rfl, X2.out⟩
        · rw [decide_eq_false d3] at hB
          simp only [Bool.true_and] at hB
          subst hB
          have nd : (dat.toList == gat.toList) = false := str_ne d3
          go_enter Try.func48, Try.ntmps48
          go_wp2_with fail
          refine (SH.out _).mono ?_
          rintro x w2 ⟨rfl, x2⟩
          have X2 := Lib.hid (X1.out.tr x2)
          have D1 := (((EnBox.new w ⟨f1, f2, f3, f4, f5, f6, dat⟩ 54).ext (Ext.alloc _ (.cells (enA ⟨g1, g2, g3, f4, f5, f6, gat⟩) 54))).ext x2)
          have D2 := (EnBox.new' (w.alloc (.cells (enA ⟨f1, f2, f3, f4, f5, f6, dat⟩) 54)) ⟨g1, g2, g3, f4, f5, f6, gat⟩ 54 (w.heap.size + 1) (by simp)).ext x2
          obtain ⟨p0, p1, p2, p3, p4, p5, p6⟩ := D1
          obtain ⟨q0, q1, q2, q3, q4, q5, q6⟩ := D2
          simp only at p0 p1 p2 p3 p4 p5 p6 q0 q1 q2 q3 q4 q5 q6
          clear x2
          go_wp2
          go_ret
          exact ⟨rfl, X2.out⟩
      · rw [decide_eq_false d2] at hB
        simp only [Bool.true_and, Bool.false_and] at hB
        subst hB
        have n2 : (f6 == g6) = false := beq_eq_false_iff_ne.2 d2
        clear d2
        go_enter Try.func48, Try.ntmps48
        go_wp2_with fail
        refine (SH.out _).mono ?_
        rintro x w2 ⟨rfl, x2⟩
        have X2 := Lib.hid (X1.out.tr x2)
        have D1 := (((EnBox.new w ⟨f1, f2, f3, f4, f5, f6, dat⟩ 54).ext (Ext.alloc _ (.cells (enA ⟨g1, g2, g3, f4, f5, g6, gat⟩) 54))).ext x2)
        have D2 := (EnBox.new' (w.alloc (.cells (enA ⟨f1, f2, f3, f4, f5, f6, dat⟩) 54)) ⟨g1, g2, g3, f4, f5, g6, gat⟩ 54 (w.heap.size + 1) (by simp)).ext x2
        obtain ⟨p0, p1, p2, p3, p4, p5, p6⟩ := D1
        obtain ⟨q0, q1, q2, q3, q4, q5, q6⟩ := D2
        simp only at p0 p1 p2 p3 p4 p5 p6 q0 q1 q2 q3 q4 q5 q6
        clear x2
        go_wp2
        go_ret
        exact ⟨rfl, X2.out⟩
    · rw [decide_eq_false d1] at hB
      simp only [Bool.true_and, Bool.false_and] at hB
      subst hB
      have n1 : (f5 == g5) = false := beq_eq_false_iff_ne.2 d1
      clear d1
      go_enter Try.func48, Try.ntmps48
      go_wp2_with fail
      refine (SH.out _).mono ?_
      rintro x w2 ⟨rfl, x2⟩
      have X2 := Lib.hid (X1.out.tr x2)
      have D1 := (((EnBox.new w ⟨f1, f2, f3, f4, f5, f6, dat⟩ 54).ext (Ext.alloc _ (.cells (enA ⟨g1, g2, g3, f4, g5, g6, gat⟩) 54))).ext x2)
      have D2 := (EnBox.new' (w.alloc (.cells (enA ⟨f1, f2, f3, f4, f5, f6, dat⟩) 54)) ⟨g1, g2, g3, f4, g5, g6, gat⟩ 54 (w.heap.size + 1) (by simp)).ext x2
      obtain ⟨p0, p1, p2, p3, p4, p5, p6⟩ := D1
      obtain ⟨q0, q1, q2, q3, q4, q5, q6⟩ := D2
      simp only at p0 p1 p2 p3 p4 p5 p6 q0 q1 q2 q3 q4 q5 q6
      clear x2
      go_wp2
      go_ret
      exact ⟨rfl, X2.out⟩
  · rw [decide_eq_false d0] at hB
    simp only [Bool.true_and, Bool.false_and] at hB
    subst hB
    have n0 : (f4 == g4) = false := beq_eq_false_iff_ne.2 d0
    clear d0
    go_enter Try.func48, Try.ntmps48
    go_wp2_with fail
    refine (SH.out _).mono ?_
    rintro x w2 ⟨rfl, x2⟩
    have X2 := Lib.hid (X1.out.tr x2)
    have D1 := (((EnBox.new w ⟨f1, f2, f3, f4, f5, f6, dat⟩ 54).ext (Ext.alloc _ (.cells (enA ⟨g1, g2, g3, g4, g5, g6, gat⟩) 54))).ext x2)
    have D2 := (EnBox.new' (w.alloc (.cells (enA ⟨f1, f2, f3, f4, f5, f6, dat⟩) 54)) ⟨g1, g2, g3, g4, g5, g6, gat⟩ 54 (w.heap.size + 1) (by simp)).ext x2
    obtain ⟨p0, p1, p2, p3, p4, p5, p6⟩ := D1
    obtain ⟨q0, q1, q2, q3, q4, q5, q6⟩ := D2
    simp only at p0 p1 p2 p3 p4 p5 p6 q0 q1 q2 q3 q4 q5 q6
    clear x2
    go_wp2
    go_ret
    exact ⟨rfl, X2.out⟩

set_option maxRecDepth 8000 in
set_option maxHeartbeats 4000000 in
theorem eq_ref {a b : EnD} {w : World} : Calls Try.prog 63 #[enV a, enV b] w fun x w' => x = .returned (.bool (eqB a b)) ∧ Ext w w' := by
  obtain ⟨f1, f2, f3, f4, f5, f6, dat⟩ := a
  obtain ⟨g1, g2, g3, g4, g5, g6, gat⟩ := b
  obtain ⟨B, hB⟩ : ∃ B, B = eqB ⟨f1, f2, f3, f4, f5, f6, dat⟩ ⟨g1, g2, g3, g4, g5, g6, gat⟩ := ⟨_, rfl⟩
  rw [← hB]
  have X1 := Lib.hid ((Ext.alloc w (.cells (enA ⟨f1, f2, f3, f4, f5, f6, dat⟩) 54)).tr (Ext.alloc _ (.cells (enA ⟨g1, g2, g3, g4, g5, g6, gat⟩) 54)))
  have SH := Lib.hid (fun w => same_ref (a := ⟨f1, f2, f3, f4, f5, f6, dat⟩) (b := ⟨g1, g2, g3, g4, g5, g6, gat⟩) (w := w))
  unfold eqB at hB
  simp only at hB
  generalize sameB ⟨f1, f2, f3, f4, f5, f6, dat⟩ ⟨g1, g2, g3, g4, g5, g6, gat⟩ = S at *
  cases S
  · simp only [Bool.false_and] at hB
    subst hB
    go_enter Try.func63, Try.ntmps63
    go_wp2_with fail
    refine (SH.out _).mono ?_
    rintro x w2 ⟨rfl, x2⟩
    have X2 := Lib.hid (X1.out.tr x2)
    have D1 := (((EnBox.new w ⟨f1, f2, f3, f4, f5, f6, dat⟩ 54).ext (Ext.alloc _ (.cells (enA ⟨g1, g2, g3, g4, g5, g6, gat⟩) 54))).ext x2)
    have D2 := (EnBox.new' (w.alloc (.cells (enA ⟨f1, f2, f3, f4, f5, f6, dat⟩) 54)) ⟨g1, g2, g3, g4, g5, g6, gat⟩ 54 (w.heap.size + 1) (by simp)).ext x2
    obtain ⟨p0, p1, p2, p3, p4, p5, p6⟩ := D1
    obtain ⟨q0, q1, q2, q3, q4, q5, q6⟩ := D2
    simp only at p0 p1 p2 p3 p4 p5 p6 q0 q1 q2 q3 q4 q5 q6
    clear x2
    go_wp2
    go_ret
    exact ⟨rfl, X2.out⟩
  by_cases d0 : f4 = g4
  · subst d0
    rw [decide_eq_true rfl] at hB
    by_cases d1 : f5 = g5
    · subst d1
      rw [decide_eq_true rfl] at hB
      by_cases d2 : f6 = g6
      · subst d2
        rw [decide_eq_true rfl] at hB
        by_cases d3 : dat = gat
        · subst d3
          rw [decide_eq_true rfl] at hB
          simp only [Bool.true_and] at hB
          subst hB
          go_enter Try.func63, Try.ntmps63
          go_wp2_with fail
          refine (SH.out _).mono ?_
          rintro x w2 ⟨rfl, x2⟩
          have X2 := Lib.hid (X1.out.tr x2)
          have D1 := (((EnBox.new w ⟨f1, f2, f3, f4, f5, f6, dat⟩ 54).ext (Ext.alloc _ (.cells (enA ⟨g1, g2, g3, f4, f5, f6, dat⟩) 54))).ext x2)
          have D2 := (EnBox.new' (w.alloc (.cells (enA ⟨f1, f2, f3, f4, f5, f6, dat⟩) 54)) ⟨g1, g2, g3, f4, f5, f6, dat⟩ 54 (w.heap.size + 1) (by simp)).ext x2
          obtain ⟨p0, p1, p2, p3, p4, p5, p6⟩ := D1
          obtain ⟨q0, q1, q2, q3, q4, q5, q6⟩ := D2
          simp only at p0 p1 p2 p3 p4 p5 p6 q0 q1 q2 q3 q4 q5 q6
          clear x2
          go_wp2
          go_ret
          exact ⟨rfl, X2.out⟩
        · rw [decide_eq_false d3] at hB
          simp only [Bool.true_and] at hB
          subst hB
          have nd : (dat.toList == gat.toList) = false := str_ne d3
          go_enter Try.func63, Try.ntmps63
          go_wp2_with fail
          refine (SH.out _).mono ?_
          rintro x w2 ⟨rfl, x2⟩
          have X2 := Lib.hid (X1.out.tr x2)
          have D1 := (((EnBox.new w ⟨f1, f2, f3, f4, f5, f6, dat⟩ 54).ext (Ext.alloc _ (.cells (enA ⟨g1, g2, g3, f4, f5, f6, gat⟩) 54))).ext x2)
          have D2 := (EnBox.new' (w.alloc (.cells (enA ⟨f1, f2, f3, f4, f5, f6, dat⟩) 54)) ⟨g1, g2, g3, f4, f5, f6, gat⟩ 54 (w.heap.size + 1) (by simp)).ext x2
          obtain ⟨p0, p1, p2, p3, p4, p5, p6⟩ := D1
          obtain ⟨q0, q1, q2, q3, q4, q5, q6⟩ := D2
          simp only at p0 p1 p2 p3 p4 p5 p6 q0 q1 q2 q3 q4 q5 q6
          clear x2
          go_wp2
          go_ret
          exact ⟨rfl, X2.out⟩
      · rw [decide_eq_false d2] at hB
        simp only [Bool.true_and, Bool.false_and] at hB
        subst hB
        have n2 : (f6 == g6) = false := beq_eq_false_iff_ne.2 d2
        clear d2
        go_enter Try.func63, Try.ntmps63
        go_wp2_with fail
        refine (SH.out _).mono ?_
        rintro x w2 ⟨rfl, x2⟩
        have X2 := Lib.hid (X1.out.tr x2)
        have D1 := (((EnBox.new w ⟨f1, f2, f3, f4, f5, f6, dat⟩ 54).ext (Ext.alloc _ (.cells (enA ⟨g1, g2, g3, f4, f5, g6, gat⟩) 54))).ext x2)
        have D2 := (EnBox.new' (w.alloc (.cells (enA ⟨f1, f2, f3, f4, f5, f6, dat⟩) 54)) ⟨g1, g2, g3, f4, f5, g6, gat⟩ 54 (w.heap.size + 1) (by simp)).ext x2
        obtain ⟨p0, p1, p2, p3, p4, p5, p6⟩ := D1
        obtain ⟨q0, q1, q2, q3, q4, q5, q6⟩ := D2
        simp only at p0 p1 p2 p3 p4 p5 p6 q0 q1 q2 q3 q4 q5 q6
        clear x2
        go_wp2
        go_ret
        exact ⟨rfl, X2.out⟩
    · rw [decide_eq_false d1] at hB
      simp only [Bool.true_and, Bool.false_and] at hB
      subst hB
      have n1 : (f5 == g5) = false := beq_eq_false_iff_ne.2 d1
      clear d1
      go_enter Try.func63, Try.ntmps63
      go_wp2_with fail
      refine (SH.out _).mono ?_
      rintro x w2 ⟨rfl, x2⟩
      have X2 := Lib.hid (X1.out.tr x2)
      have D1 := (((EnBox.new w ⟨f1, f2, f3, f4, f5, f6, dat⟩ 54).ext (Ext.alloc _ (.cells (enA ⟨g1, g2, g3, f4, g5, g6, gat⟩) 54))).ext x2)
      have D2 := (EnBox.new' (w.alloc (.cells (enA ⟨f1, f2, f3, f4, f5, f6, dat⟩) 54)) ⟨g1, g2, g3, f4, g5, g6, gat⟩ 54 (w.heap.size + 1) (by simp)).ext x2
      obtain ⟨p0, p1, p2, p3, p4, p5, p6⟩ := D1
      obtain ⟨q0, q1, q2, q3, q4, q5, q6⟩ := D2
      simp only at p0 p1 p2 p3 p4 p5 p6 q0 q1 q2 q3 q4 q5 q6
      clear x2
      go_wp2
      go_ret
      exact ⟨rfl, X2.out⟩
  · rw [decide_eq_false d0] at hB
    simp only [Bool.true_and, Bool.false_and] at hB
    subst hB
    have n0 : (f4 == g4) = false := beq_eq_false_iff_ne.2 d0
    clear d0
    go_enter Try.func63, Try.ntmps63
    go_wp2_with fail
    refine (SH.out _).mono ?_
    rintro x w2 ⟨rfl, x2⟩
    have X2 := Lib.hid (X1.out.tr x2)
    have D1 := (((EnBox.new w ⟨f1, f2, f3, f4, f5, f6, dat⟩ 54).ext (Ext.alloc _ (.cells (enA ⟨g1, g2, g3, g4, g5, g6, gat⟩) 54))).ext x2)
    have D2 := (EnBox.new' (w.alloc (.cells (enA ⟨f1, f2, f3, f4, f5, f6, dat⟩) 54)) ⟨g1, g2, g3, g4, g5, g6, gat⟩ 54 (w.heap.size + 1) (by simp)).ext x2
    obtain ⟨p0, p1, p2, p3, p4, p5, p6⟩ := D1
    obtain ⟨q0, q1, q2, q3, q4, q5, q6⟩ := D2
    simp only at p0 p1 p2 p3 p4 p5 p6 q0 q1 q2 q3 q4 q5 q6
    clear x2
    go_wp2
    go_ret
    exact ⟨rfl, X2.out⟩
end Go.Proofs.Ytgplmbchlahbkaa
