/-
  The walk of EntrySame: whatever the entry, the numbers and the text, the law returns true.
-/
import Derived.Test.YtkgcmobijbakmaaEntry11
import Derived.Deep.DeepCutAuto
namespace Go.Proofs.Ytkgcmobijbakmaa
open Go Go.Sort Go.RowKit
set_option linter.unusedVariables false

theorem eqB_comm (a b : EnD) : eqB a b = eqB b a := by
  cases h : eqB b a
  · cases h2 : eqB a b
    · rfl
    · rw [(eqB_iff a b).1 h2, eqB_self] at h; cases h
  · rw [(eqB_iff b a).1 h]; exact eqB_self a
theorem next_ne {x : Int} (h : I64 x) : wrap64 (x + 1) ≠ x := by
  unfold I64 at h
  unfold wrap64
  omega
theorem box_lits {w : World} {g : Nat} {e : EnD} (h : EnBox w g e) : w.cell? ⟨g, 0, none⟩ = some (.int .i64 e.fr) ∧ w.cell? ⟨g, 1, none⟩ = some (.int .i64 e.bt) ∧ w.cell? ⟨g, 2, none⟩ = some (.int .i64 e.sq) ∧ w.cell? ⟨g, 3, none⟩ = some (.int .i64 e.od) ∧ w.cell? ⟨g, 4, none⟩ = some (.int .i64 e.lv) ∧ w.cell? ⟨g, 5, none⟩ = some (.int .i64 e.st) ∧ w.cell? ⟨g, 6, none⟩ = some (.string e.da) := ⟨h.c0, h.c1, h.c2, h.c3, h.c4, h.c5, h.c6⟩

set_option maxRecDepth 8000 in
set_option maxHeartbeats 16000000 in
theorem walk_EntrySame {e : EnD} {od lv st : Int} {data : ByteArray} {w : World} (he : EnOk e) (h1 : I64 od) (h2 : I64 lv) (h3 : I64 st) (h4 : data.size ≤ maxLen) :
    Calls Try.prog 7 #[enV e, .int .i64 od, .int .i64 lv, .int .i64 st, .string data] w fun e w' => e = .returned (.bool true) ∧ Below w.heap.size w w' := by
  obtain ⟨f1, f2, f3, f4, f5, f6, dat⟩ := e
  have HE := Lib.hid he
  clear he
  have T0 := Lib.hid (EnOwn.new w ⟨f1, f2, f3, f4, f5, f6, dat⟩ 23 _ rfl)
  have X0 := Lib.hid (Ext.alloc w (.cells (enA ⟨f1, f2, f3, f4, f5, f6, dat⟩) 23))
  go_enter Try.func7, Try.ntmps7
  go_wp2_with fail
  refine (begun12 _).mono ?_
  rintro e1 w1 ⟨rfl, x1⟩
  have X := Lib.hid (X0.out.tr x1)
  replace T0 := Lib.hid (T0.out.ext x1)
  clear x1 X0
  obtain ⟨b0, b1, b2, b3, b4, b5, b6⟩ := T0.out.box
  simp only at b0 b1 b2 b3 b4 b5 b6
  go_wp2_with fail
  clear b0 b1 b2 b3 b4 b5 b6
  refine (ecut_any (e := ⟨f1, f2, f3, f4, f5, f6, dat⟩) HE.out).mono ?_
  rintro e2 w2 ⟨t, ht, rfl, x2⟩
  replace X := Lib.hid (X.out.tr x2)
  replace T0 := Lib.hid (T0.out.ext x2)
  clear x2
  obtain ⟨i1, i2, i3, i4, i5, i6, i7⟩ := HE.out
  simp only at i1 i2 i3 i4 i5 i6 i7
  have n3 := next_ne i3
  have n2 := next_ne i2
  obtain ⟨v3, hv3⟩ : ∃ v, v = wrap64 (f3 + 1) := ⟨_, rfl⟩
  obtain ⟨v2, hv2⟩ : ∃ v, v = wrap64 (f2 + 1) := ⟨_, rfl⟩
  rw [← hv3] at n3
  rw [← hv2] at n2
  have p3 := hv3.symm
  have p2 := hv2.symm
  clear hv3 hv2 i1 i2 i3 i4 i5 i6 i7
  obtain ⟨⟨b0, b1, b2, b3, b4, b5, b6⟩, bf⟩ := T0.out
  simp only at b0 b1 b2 b3 b4 b5 b6
  have W3 := Lib.hid (T0.out.fill ⟨f1, f2, f3, f4, f5, f6, t⟩)
  have X3 := Lib.hid (fill_below X.out (Nat.le_refl _) ⟨f1, f2, f3, f4, f5, f6, t⟩)
  go_upto_region 5 with (fail)
  change Code.wp _ _ _ _ (fillE w2 w.heap.size ⟨f1, f2, f3, f4, f5, f6, t⟩)
  generalize fillE w2 w.heap.size ⟨f1, f2, f3, f4, f5, f6, t⟩ = w3 at *
  clear b0 b1 b2 b3 b4 b5 b6 bf T0
  obtain ⟨b0, b1, b2, b3, b4, b5, b6⟩ := box_lits W3.out
  have P1 := W3.out.ext (Ext.alloc w3 (.cells #[.int .i64 f1, .int .i64 f2, .int .i64 f3, .int .i64 od, .int .i64 lv, .int .i64 st, .string data] 23))
  obtain ⟨c0, c1, c2, c3, c4, c5, c6⟩ := box_lits P1
  have P2 := P1.ext (Ext.alloc _ (.cells #[.int .i64 f1, .int .i64 f2, .int .i64 v3, .int .i64 f4, .int .i64 f5, .int .i64 f6, .string t] 23))
  obtain ⟨d0, d1, d2, d3, d4, d5, d6⟩ := box_lits P2
  have PA := Lib.hid (P2.ext (Ext.alloc _ (.cells #[.int .i64 f1, .int .i64 v2, .int .i64 f3, .int .i64 f4, .int .i64 f5, .int .i64 f6, .string t] 23)))
  have PB := Lib.hid (((EnBox.new w3 ⟨f1, f2, f3, od, lv, st, data⟩ 23).ext (Ext.alloc _ (.cells #[.int .i64 f1, .int .i64 f2, .int .i64 v3, .int .i64 f4, .int .i64 f5, .int .i64 f6, .string t] 23))).ext (Ext.alloc _ (.cells #[.int .i64 f1, .int .i64 v2, .int .i64 f3, .int .i64 f4, .int .i64 f5, .int .i64 f6, .string t] 23)))
  have PC := Lib.hid ((EnBox.new' (w3.alloc (.cells #[.int .i64 f1, .int .i64 f2, .int .i64 f3, .int .i64 od, .int .i64 lv, .int .i64 st, .string data] 23)) ⟨f1, f2, v3, f4, f5, f6, t⟩ 23 (w3.heap.size + 1) (by simp)).ext (Ext.alloc _ (.cells #[.int .i64 f1, .int .i64 v2, .int .i64 f3, .int .i64 f4, .int .i64 f5, .int .i64 f6, .string t] 23)))
  have PD := Lib.hid (EnBox.new' ((w3.alloc (.cells #[.int .i64 f1, .int .i64 f2, .int .i64 f3, .int .i64 od, .int .i64 lv, .int .i64 st, .string data] 23)).alloc (.cells #[.int .i64 f1, .int .i64 f2, .int .i64 v3, .int .i64 f4, .int .i64 f5, .int .i64 f6, .string t] 23)) ⟨f1, v2, f3, f4, f5, f6, t⟩ 23 (w3.heap.size + 1 + 1) (by simp))
  have XX := Lib.hid (((Ext.alloc w3 (.cells #[.int .i64 f1, .int .i64 f2, .int .i64 f3, .int .i64 od, .int .i64 lv, .int .i64 st, .string data] 23)).tr (Ext.alloc _ (.cells #[.int .i64 f1, .int .i64 f2, .int .i64 v3, .int .i64 f4, .int .i64 f5, .int .i64 f6, .string t] 23))).tr (Ext.alloc _ (.cells #[.int .i64 f1, .int .i64 v2, .int .i64 f3, .int .i64 f4, .int .i64 f5, .int .i64 f6, .string t] 23)))
  simp only at b0 b1 b2 b3 b4 b5 b6 c0 c1 c2 c3 c4 c5 c6 d0 d1 d2 d3 d4 d5 d6
  clear P1 P2
  go_upto_region 11 with (fail)
  generalize ((w3.alloc (.cells #[.int .i64 f1, .int .i64 f2, .int .i64 f3, .int .i64 od, .int .i64 lv, .int .i64 st, .string data] 23)).alloc (.cells #[.int .i64 f1, .int .i64 f2, .int .i64 v3, .int .i64 f4, .int .i64 f5, .int .i64 f6, .string t] 23)).alloc (.cells #[.int .i64 f1, .int .i64 v2, .int .i64 f3, .int .i64 f4, .int .i64 f5, .int .i64 f6, .string t] 23) = w6 at *
  generalize w3.heap.size = g1 at *
  have XE : Hid (Ext w w6) := Lib.hid (Ext.tr X3.out XX.out)
  clear b0 b1 b2 b3 b4 b5 b6 c0 c1 c2 c3 c4 c5 c6 d0 d1 d2 d3 d4 d5 d6 p3 p2 W3 X3 XX X HE
  by_cases h0 : f4 = od
  · subst h0
    by_cases h1 : f5 = lv
    · subst h1
      by_cases h2 : f6 = st
      · subst h2
        by_cases h3 : t = data
        · subst h3
          have R1 : Hid (sameB ⟨f1, f2, f3, f4, f5, f6, t⟩ ⟨f1, f2, f3, f4, f5, f6, t⟩ = true) := Lib.hid (by simp [sameB])
          have R2 : Hid (eqB ⟨f1, f2, f3, f4, f5, f6, t⟩ ⟨f1, f2, f3, f4, f5, f6, t⟩ = true) := Lib.hid (by simp [eqB, sameB])
          have R3 : Hid (sameB ⟨f1, f2, f3, f4, f5, f6, t⟩ ⟨f1, f2, v3, f4, f5, f6, t⟩ = false) := Lib.hid (by simp [sameB, n3.symm])
          have R4 : Hid (sameB ⟨f1, f2, f3, f4, f5, f6, t⟩ ⟨f1, v2, f3, f4, f5, f6, t⟩ = false) := Lib.hid (by simp [sameB, n2.symm])
          have R5 : Hid (sameB ⟨f1, f2, f3, f4, f5, f6, t⟩ ⟨f1, f2, f3, f4, f5, f6, t⟩ = true) := Lib.hid (by simp [sameB])
          have R6 : Hid (eqB ⟨f1, f2, f3, f4, f5, f6, t⟩ ⟨f1, f2, f3, f4, f5, f6, t⟩ = true) := Lib.hid (by rw [eqB_comm]; exact R2.out)
          clear n2 n3
          have KA := PA.out.ext (Ext.rfl' w6)
          have KB := PB.out.ext (Ext.rfl' w6)
          have KC := PC.out.ext (Ext.rfl' w6)
          have KD := PD.out.ext (Ext.rfl' w6)
          obtain ⟨a0, a1, a2, a3, a4, a5, a6⟩ := box_lits KA
          obtain ⟨b0, b1, b2, b3, b4, b5, b6⟩ := box_lits KB
          obtain ⟨c0, c1, c2, c3, c4, c5, c6⟩ := box_lits KC
          obtain ⟨d0, d1, d2, d3, d4, d5, d6⟩ := box_lits KD
          simp only at a0 a1 a2 a3 a4 a5 a6 b0 b1 b2 b3 b4 b5 b6 c0 c1 c2 c3 c4 c5 c6 d0 d1 d2 d3 d4 d5 d6
          clear KA KB KC KD
          have XC := Lib.hid (Ext.rfl' w6)
          go_wp2_with fail
          clear a0 a1 a2 a3 a4 a5 a6 b0 b1 b2 b3 b4 b5 b6 c0 c1 c2 c3 c4 c5 c6 d0 d1 d2 d3 d4 d5 d6
          refine (same_any (a := ⟨f1, f2, f3, f4, f5, f6, t⟩) (b := ⟨f1, f2, f3, f4, f5, f6, t⟩)).mono ?_
          rw [R1.out]
          rintro e w7 ⟨rfl, x1⟩
          replace XC := Lib.hid (XC.out.tr x1)
          clear x1
          have KA := PA.out.ext XC.out
          have KB := PB.out.ext XC.out
          have KC := PC.out.ext XC.out
          have KD := PD.out.ext XC.out
          obtain ⟨a0, a1, a2, a3, a4, a5, a6⟩ := box_lits KA
          obtain ⟨b0, b1, b2, b3, b4, b5, b6⟩ := box_lits KB
          obtain ⟨c0, c1, c2, c3, c4, c5, c6⟩ := box_lits KC
          obtain ⟨d0, d1, d2, d3, d4, d5, d6⟩ := box_lits KD
          simp only at a0 a1 a2 a3 a4 a5 a6 b0 b1 b2 b3 b4 b5 b6 c0 c1 c2 c3 c4 c5 c6 d0 d1 d2 d3 d4 d5 d6
          clear KA KB KC KD
          go_wp2_with fail
          clear a0 a1 a2 a3 a4 a5 a6 b0 b1 b2 b3 b4 b5 b6 c0 c1 c2 c3 c4 c5 c6 d0 d1 d2 d3 d4 d5 d6
          refine (eq_any (a := ⟨f1, f2, f3, f4, f5, f6, t⟩) (b := ⟨f1, f2, f3, f4, f5, f6, t⟩)).mono ?_
          rw [R2.out]
          rintro e w8 ⟨rfl, x1⟩
          replace XC := Lib.hid (XC.out.tr x1)
          clear x1
          have KA := PA.out.ext XC.out
          have KB := PB.out.ext XC.out
          have KC := PC.out.ext XC.out
          have KD := PD.out.ext XC.out
          obtain ⟨a0, a1, a2, a3, a4, a5, a6⟩ := box_lits KA
          obtain ⟨b0, b1, b2, b3, b4, b5, b6⟩ := box_lits KB
          obtain ⟨c0, c1, c2, c3, c4, c5, c6⟩ := box_lits KC
          obtain ⟨d0, d1, d2, d3, d4, d5, d6⟩ := box_lits KD
          simp only at a0 a1 a2 a3 a4 a5 a6 b0 b1 b2 b3 b4 b5 b6 c0 c1 c2 c3 c4 c5 c6 d0 d1 d2 d3 d4 d5 d6
          clear KA KB KC KD
          go_wp2_with fail
          clear a0 a1 a2 a3 a4 a5 a6 b0 b1 b2 b3 b4 b5 b6 c0 c1 c2 c3 c4 c5 c6 d0 d1 d2 d3 d4 d5 d6
          refine (same_any (a := ⟨f1, f2, f3, f4, f5, f6, t⟩) (b := ⟨f1, f2, v3, f4, f5, f6, t⟩)).mono ?_
          rw [R3.out]
          rintro e w9 ⟨rfl, x1⟩
          replace XC := Lib.hid (XC.out.tr x1)
          clear x1
          have KA := PA.out.ext XC.out
          have KB := PB.out.ext XC.out
          have KC := PC.out.ext XC.out
          have KD := PD.out.ext XC.out
          obtain ⟨a0, a1, a2, a3, a4, a5, a6⟩ := box_lits KA
          obtain ⟨b0, b1, b2, b3, b4, b5, b6⟩ := box_lits KB
          obtain ⟨c0, c1, c2, c3, c4, c5, c6⟩ := box_lits KC
          obtain ⟨d0, d1, d2, d3, d4, d5, d6⟩ := box_lits KD
          simp only at a0 a1 a2 a3 a4 a5 a6 b0 b1 b2 b3 b4 b5 b6 c0 c1 c2 c3 c4 c5 c6 d0 d1 d2 d3 d4 d5 d6
          clear KA KB KC KD
          go_wp2_with fail
          clear a0 a1 a2 a3 a4 a5 a6 b0 b1 b2 b3 b4 b5 b6 c0 c1 c2 c3 c4 c5 c6 d0 d1 d2 d3 d4 d5 d6
          refine (same_any (a := ⟨f1, f2, f3, f4, f5, f6, t⟩) (b := ⟨f1, v2, f3, f4, f5, f6, t⟩)).mono ?_
          rw [R4.out]
          rintro e w10 ⟨rfl, x1⟩
          replace XC := Lib.hid (XC.out.tr x1)
          clear x1
          have KA := PA.out.ext XC.out
          have KB := PB.out.ext XC.out
          have KC := PC.out.ext XC.out
          have KD := PD.out.ext XC.out
          obtain ⟨a0, a1, a2, a3, a4, a5, a6⟩ := box_lits KA
          obtain ⟨b0, b1, b2, b3, b4, b5, b6⟩ := box_lits KB
          obtain ⟨c0, c1, c2, c3, c4, c5, c6⟩ := box_lits KC
          obtain ⟨d0, d1, d2, d3, d4, d5, d6⟩ := box_lits KD
          simp only at a0 a1 a2 a3 a4 a5 a6 b0 b1 b2 b3 b4 b5 b6 c0 c1 c2 c3 c4 c5 c6 d0 d1 d2 d3 d4 d5 d6
          clear KA KB KC KD
          go_wp2_with fail
          clear a0 a1 a2 a3 a4 a5 a6 b0 b1 b2 b3 b4 b5 b6 c0 c1 c2 c3 c4 c5 c6 d0 d1 d2 d3 d4 d5 d6
          refine (same_any (a := ⟨f1, f2, f3, f4, f5, f6, t⟩) (b := ⟨f1, f2, f3, f4, f5, f6, t⟩)).mono ?_
          rw [R5.out]
          rintro e w11 ⟨rfl, x1⟩
          replace XC := Lib.hid (XC.out.tr x1)
          clear x1
          have KA := PA.out.ext XC.out
          have KB := PB.out.ext XC.out
          have KC := PC.out.ext XC.out
          have KD := PD.out.ext XC.out
          obtain ⟨a0, a1, a2, a3, a4, a5, a6⟩ := box_lits KA
          obtain ⟨b0, b1, b2, b3, b4, b5, b6⟩ := box_lits KB
          obtain ⟨c0, c1, c2, c3, c4, c5, c6⟩ := box_lits KC
          obtain ⟨d0, d1, d2, d3, d4, d5, d6⟩ := box_lits KD
          simp only at a0 a1 a2 a3 a4 a5 a6 b0 b1 b2 b3 b4 b5 b6 c0 c1 c2 c3 c4 c5 c6 d0 d1 d2 d3 d4 d5 d6
          clear KA KB KC KD
          go_wp2_with fail
          clear a0 a1 a2 a3 a4 a5 a6 b0 b1 b2 b3 b4 b5 b6 c0 c1 c2 c3 c4 c5 c6 d0 d1 d2 d3 d4 d5 d6
          refine (eq_any (a := ⟨f1, f2, f3, f4, f5, f6, t⟩) (b := ⟨f1, f2, f3, f4, f5, f6, t⟩)).mono ?_
          rw [R6.out]
          rintro e w12 ⟨rfl, x1⟩
          replace XC := Lib.hid (XC.out.tr x1)
          clear x1
          have KA := PA.out.ext XC.out
          have KB := PB.out.ext XC.out
          have KC := PC.out.ext XC.out
          have KD := PD.out.ext XC.out
          obtain ⟨a0, a1, a2, a3, a4, a5, a6⟩ := box_lits KA
          obtain ⟨b0, b1, b2, b3, b4, b5, b6⟩ := box_lits KB
          obtain ⟨c0, c1, c2, c3, c4, c5, c6⟩ := box_lits KC
          obtain ⟨d0, d1, d2, d3, d4, d5, d6⟩ := box_lits KD
          simp only at a0 a1 a2 a3 a4 a5 a6 b0 b1 b2 b3 b4 b5 b6 c0 c1 c2 c3 c4 c5 c6 d0 d1 d2 d3 d4 d5 d6
          clear KA KB KC KD
          clear a0 a1 a2 a3 a4 a5 a6 b0 b1 b2 b3 b4 b5 b6 c0 c1 c2 c3 c4 c5 c6 d0 d1 d2 d3 d4 d5 d6
          go_wp2
          go_ret
          exact ⟨rfl, XE.out.tr XC.out⟩
        · have R1 : Hid (sameB ⟨f1, f2, f3, f4, f5, f6, t⟩ ⟨f1, f2, f3, f4, f5, f6, data⟩ = true) := Lib.hid (by simp [sameB])
          have R2 : Hid (eqB ⟨f1, f2, f3, f4, f5, f6, t⟩ ⟨f1, f2, f3, f4, f5, f6, data⟩ = false) := Lib.hid (by simp [eqB, sameB, h3])
          have R3 : Hid (sameB ⟨f1, f2, f3, f4, f5, f6, t⟩ ⟨f1, f2, v3, f4, f5, f6, t⟩ = false) := Lib.hid (by simp [sameB, n3.symm])
          have R4 : Hid (sameB ⟨f1, f2, f3, f4, f5, f6, t⟩ ⟨f1, v2, f3, f4, f5, f6, t⟩ = false) := Lib.hid (by simp [sameB, n2.symm])
          have R5 : Hid (sameB ⟨f1, f2, f3, f4, f5, f6, data⟩ ⟨f1, f2, f3, f4, f5, f6, t⟩ = true) := Lib.hid (by simp [sameB])
          have R6 : Hid (eqB ⟨f1, f2, f3, f4, f5, f6, data⟩ ⟨f1, f2, f3, f4, f5, f6, t⟩ = false) := Lib.hid (by rw [eqB_comm]; exact R2.out)
          clear n2 n3
          have nn : (t.toList == data.toList) = false := str_ne h3
          clear h3
          have KA := PA.out.ext (Ext.rfl' w6)
          have KB := PB.out.ext (Ext.rfl' w6)
          have KC := PC.out.ext (Ext.rfl' w6)
          have KD := PD.out.ext (Ext.rfl' w6)
          obtain ⟨a0, a1, a2, a3, a4, a5, a6⟩ := box_lits KA
          obtain ⟨b0, b1, b2, b3, b4, b5, b6⟩ := box_lits KB
          obtain ⟨c0, c1, c2, c3, c4, c5, c6⟩ := box_lits KC
          obtain ⟨d0, d1, d2, d3, d4, d5, d6⟩ := box_lits KD
          simp only at a0 a1 a2 a3 a4 a5 a6 b0 b1 b2 b3 b4 b5 b6 c0 c1 c2 c3 c4 c5 c6 d0 d1 d2 d3 d4 d5 d6
          clear KA KB KC KD
          have XC := Lib.hid (Ext.rfl' w6)
          go_wp2_with fail
          clear a0 a1 a2 a3 a4 a5 a6 b0 b1 b2 b3 b4 b5 b6 c0 c1 c2 c3 c4 c5 c6 d0 d1 d2 d3 d4 d5 d6
          refine (same_any (a := ⟨f1, f2, f3, f4, f5, f6, t⟩) (b := ⟨f1, f2, f3, f4, f5, f6, data⟩)).mono ?_
          rw [R1.out]
          rintro e w7 ⟨rfl, x1⟩
          replace XC := Lib.hid (XC.out.tr x1)
          clear x1
          have KA := PA.out.ext XC.out
          have KB := PB.out.ext XC.out
          have KC := PC.out.ext XC.out
          have KD := PD.out.ext XC.out
          obtain ⟨a0, a1, a2, a3, a4, a5, a6⟩ := box_lits KA
          obtain ⟨b0, b1, b2, b3, b4, b5, b6⟩ := box_lits KB
          obtain ⟨c0, c1, c2, c3, c4, c5, c6⟩ := box_lits KC
          obtain ⟨d0, d1, d2, d3, d4, d5, d6⟩ := box_lits KD
          simp only at a0 a1 a2 a3 a4 a5 a6 b0 b1 b2 b3 b4 b5 b6 c0 c1 c2 c3 c4 c5 c6 d0 d1 d2 d3 d4 d5 d6
          clear KA KB KC KD
          go_wp2_with fail
          clear a0 a1 a2 a3 a4 a5 a6 b0 b1 b2 b3 b4 b5 b6 c0 c1 c2 c3 c4 c5 c6 d0 d1 d2 d3 d4 d5 d6
          refine (eq_any (a := ⟨f1, f2, f3, f4, f5, f6, t⟩) (b := ⟨f1, f2, f3, f4, f5, f6, data⟩)).mono ?_
          rw [R2.out]
          rintro e w8 ⟨rfl, x1⟩
          replace XC := Lib.hid (XC.out.tr x1)
          clear x1
          have KA := PA.out.ext XC.out
          have KB := PB.out.ext XC.out
          have KC := PC.out.ext XC.out
          have KD := PD.out.ext XC.out
          obtain ⟨a0, a1, a2, a3, a4, a5, a6⟩ := box_lits KA
          obtain ⟨b0, b1, b2, b3, b4, b5, b6⟩ := box_lits KB
          obtain ⟨c0, c1, c2, c3, c4, c5, c6⟩ := box_lits KC
          obtain ⟨d0, d1, d2, d3, d4, d5, d6⟩ := box_lits KD
          simp only at a0 a1 a2 a3 a4 a5 a6 b0 b1 b2 b3 b4 b5 b6 c0 c1 c2 c3 c4 c5 c6 d0 d1 d2 d3 d4 d5 d6
          clear KA KB KC KD
          go_wp2_with fail
          clear a0 a1 a2 a3 a4 a5 a6 b0 b1 b2 b3 b4 b5 b6 c0 c1 c2 c3 c4 c5 c6 d0 d1 d2 d3 d4 d5 d6
          refine (same_any (a := ⟨f1, f2, f3, f4, f5, f6, t⟩) (b := ⟨f1, f2, v3, f4, f5, f6, t⟩)).mono ?_
          rw [R3.out]
          rintro e w9 ⟨rfl, x1⟩
          replace XC := Lib.hid (XC.out.tr x1)
          clear x1
          have KA := PA.out.ext XC.out
          have KB := PB.out.ext XC.out
          have KC := PC.out.ext XC.out
          have KD := PD.out.ext XC.out
          obtain ⟨a0, a1, a2, a3, a4, a5, a6⟩ := box_lits KA
          obtain ⟨b0, b1, b2, b3, b4, b5, b6⟩ := box_lits KB
          obtain ⟨c0, c1, c2, c3, c4, c5, c6⟩ := box_lits KC
          obtain ⟨d0, d1, d2, d3, d4, d5, d6⟩ := box_lits KD
          simp only at a0 a1 a2 a3 a4 a5 a6 b0 b1 b2 b3 b4 b5 b6 c0 c1 c2 c3 c4 c5 c6 d0 d1 d2 d3 d4 d5 d6
          clear KA KB KC KD
          go_wp2_with fail
          clear a0 a1 a2 a3 a4 a5 a6 b0 b1 b2 b3 b4 b5 b6 c0 c1 c2 c3 c4 c5 c6 d0 d1 d2 d3 d4 d5 d6
          refine (same_any (a := ⟨f1, f2, f3, f4, f5, f6, t⟩) (b := ⟨f1, v2, f3, f4, f5, f6, t⟩)).mono ?_
          rw [R4.out]
          rintro e w10 ⟨rfl, x1⟩
          replace XC := Lib.hid (XC.out.tr x1)
          clear x1
          have KA := PA.out.ext XC.out
          have KB := PB.out.ext XC.out
          have KC := PC.out.ext XC.out
          have KD := PD.out.ext XC.out
          obtain ⟨a0, a1, a2, a3, a4, a5, a6⟩ := box_lits KA
          obtain ⟨b0, b1, b2, b3, b4, b5, b6⟩ := box_lits KB
          obtain ⟨c0, c1, c2, c3, c4, c5, c6⟩ := box_lits KC
          obtain ⟨d0, d1, d2, d3, d4, d5, d6⟩ := box_lits KD
          simp only at a0 a1 a2 a3 a4 a5 a6 b0 b1 b2 b3 b4 b5 b6 c0 c1 c2 c3 c4 c5 c6 d0 d1 d2 d3 d4 d5 d6
          clear KA KB KC KD
          go_wp2_with fail
          clear a0 a1 a2 a3 a4 a5 a6 b0 b1 b2 b3 b4 b5 b6 c0 c1 c2 c3 c4 c5 c6 d0 d1 d2 d3 d4 d5 d6
          refine (same_any (a := ⟨f1, f2, f3, f4, f5, f6, data⟩) (b := ⟨f1, f2, f3, f4, f5, f6, t⟩)).mono ?_
          rw [R5.out]
          rintro e w11 ⟨rfl, x1⟩
          replace XC := Lib.hid (XC.out.tr x1)
          clear x1
          have KA := PA.out.ext XC.out
          have KB := PB.out.ext XC.out
          have KC := PC.out.ext XC.out
          have KD := PD.out.ext XC.out
          obtain ⟨a0, a1, a2, a3, a4, a5, a6⟩ := box_lits KA
          obtain ⟨b0, b1, b2, b3, b4, b5, b6⟩ := box_lits KB
          obtain ⟨c0, c1, c2, c3, c4, c5, c6⟩ := box_lits KC
          obtain ⟨d0, d1, d2, d3, d4, d5, d6⟩ := box_lits KD
          simp only at a0 a1 a2 a3 a4 a5 a6 b0 b1 b2 b3 b4 b5 b6 c0 c1 c2 c3 c4 c5 c6 d0 d1 d2 d3 d4 d5 d6
          clear KA KB KC KD
          go_wp2_with fail
          clear a0 a1 a2 a3 a4 a5 a6 b0 b1 b2 b3 b4 b5 b6 c0 c1 c2 c3 c4 c5 c6 d0 d1 d2 d3 d4 d5 d6
          refine (eq_any (a := ⟨f1, f2, f3, f4, f5, f6, data⟩) (b := ⟨f1, f2, f3, f4, f5, f6, t⟩)).mono ?_
          rw [R6.out]
          rintro e w12 ⟨rfl, x1⟩
          replace XC := Lib.hid (XC.out.tr x1)
          clear x1
          have KA := PA.out.ext XC.out
          have KB := PB.out.ext XC.out
          have KC := PC.out.ext XC.out
          have KD := PD.out.ext XC.out
          obtain ⟨a0, a1, a2, a3, a4, a5, a6⟩ := box_lits KA
          obtain ⟨b0, b1, b2, b3, b4, b5, b6⟩ := box_lits KB
          obtain ⟨c0, c1, c2, c3, c4, c5, c6⟩ := box_lits KC
          obtain ⟨d0, d1, d2, d3, d4, d5, d6⟩ := box_lits KD
          simp only at a0 a1 a2 a3 a4 a5 a6 b0 b1 b2 b3 b4 b5 b6 c0 c1 c2 c3 c4 c5 c6 d0 d1 d2 d3 d4 d5 d6
          clear KA KB KC KD
          clear a0 a1 a2 a3 a4 a5 a6 b0 b1 b2 b3 b4 b5 b6 c0 c1 c2 c3 c4 c5 c6 d0 d1 d2 d3 d4 d5 d6
          go_wp2
          go_ret
          exact ⟨rfl, XE.out.tr XC.out⟩
      · have R1 : Hid (sameB ⟨f1, f2, f3, f4, f5, f6, t⟩ ⟨f1, f2, f3, f4, f5, st, data⟩ = true) := Lib.hid (by simp [sameB])
        have R2 : Hid (eqB ⟨f1, f2, f3, f4, f5, f6, t⟩ ⟨f1, f2, f3, f4, f5, st, data⟩ = false) := Lib.hid (by simp [eqB, sameB, h2])
        have R3 : Hid (sameB ⟨f1, f2, f3, f4, f5, f6, t⟩ ⟨f1, f2, v3, f4, f5, f6, t⟩ = false) := Lib.hid (by simp [sameB, n3.symm])
        have R4 : Hid (sameB ⟨f1, f2, f3, f4, f5, f6, t⟩ ⟨f1, v2, f3, f4, f5, f6, t⟩ = false) := Lib.hid (by simp [sameB, n2.symm])
        have R5 : Hid (sameB ⟨f1, f2, f3, f4, f5, st, data⟩ ⟨f1, f2, f3, f4, f5, f6, t⟩ = true) := Lib.hid (by simp [sameB])
        have R6 : Hid (eqB ⟨f1, f2, f3, f4, f5, st, data⟩ ⟨f1, f2, f3, f4, f5, f6, t⟩ = false) := Lib.hid (by rw [eqB_comm]; exact R2.out)
        clear n2 n3
        have nn : (f6 == st) = false := beq_eq_false_iff_ne.2 h2
        clear h2
        have KA := PA.out.ext (Ext.rfl' w6)
        have KB := PB.out.ext (Ext.rfl' w6)
        have KC := PC.out.ext (Ext.rfl' w6)
        have KD := PD.out.ext (Ext.rfl' w6)
        obtain ⟨a0, a1, a2, a3, a4, a5, a6⟩ := box_lits KA
        obtain ⟨b0, b1, b2, b3, b4, b5, b6⟩ := box_lits KB
        obtain ⟨c0, c1, c2, c3, c4, c5, c6⟩ := box_lits KC
        obtain ⟨d0, d1, d2, d3, d4, d5, d6⟩ := box_lits KD
        simp only at a0 a1 a2 a3 a4 a5 a6 b0 b1 b2 b3 b4 b5 b6 c0 c1 c2 c3 c4 c5 c6 d0 d1 d2 d3 d4 d5 d6
        clear KA KB KC KD
        have XC := Lib.hid (Ext.rfl' w6)
        go_wp2_with fail
        clear a0 a1 a2 a3 a4 a5 a6 b0 b1 b2 b3 b4 b5 b6 c0 c1 c2 c3 c4 c5 c6 d0 d1 d2 d3 d4 d5 d6
        refine (same_any (a := ⟨f1, f2, f3, f4, f5, f6, t⟩) (b := ⟨f1, f2, f3, f4, f5, st, data⟩)).mono ?_
        rw [R1.out]
        rintro e w7 ⟨rfl, x1⟩
        replace XC := Lib.hid (XC.out.tr x1)
        clear x1
        have KA := PA.out.ext XC.out
        have KB := PB.out.ext XC.out
        have KC := PC.out.ext XC.out
        have KD := PD.out.ext XC.out
        obtain ⟨a0, a1, a2, a3, a4, a5, a6⟩ := box_lits KA
        obtain ⟨b0, b1, b2, b3, b4, b5, b6⟩ := box_lits KB
        obtain ⟨c0, c1, c2, c3, c4, c5, c6⟩ := box_lits KC
        obtain ⟨d0, d1, d2, d3, d4, d5, d6⟩ := box_lits KD
        simp only at a0 a1 a2 a3 a4 a5 a6 b0 b1 b2 b3 b4 b5 b6 c0 c1 c2 c3 c4 c5 c6 d0 d1 d2 d3 d4 d5 d6
        clear KA KB KC KD
        go_wp2_with fail
        clear a0 a1 a2 a3 a4 a5 a6 b0 b1 b2 b3 b4 b5 b6 c0 c1 c2 c3 c4 c5 c6 d0 d1 d2 d3 d4 d5 d6
        refine (eq_any (a := ⟨f1, f2, f3, f4, f5, f6, t⟩) (b := ⟨f1, f2, f3, f4, f5, st, data⟩)).mono ?_
        rw [R2.out]
        rintro e w8 ⟨rfl, x1⟩
        replace XC := Lib.hid (XC.out.tr x1)
        clear x1
        have KA := PA.out.ext XC.out
        have KB := PB.out.ext XC.out
        have KC := PC.out.ext XC.out
        have KD := PD.out.ext XC.out
        obtain ⟨a0, a1, a2, a3, a4, a5, a6⟩ := box_lits KA
        obtain ⟨b0, b1, b2, b3, b4, b5, b6⟩ := box_lits KB
        obtain ⟨c0, c1, c2, c3, c4, c5, c6⟩ := box_lits KC
        obtain ⟨d0, d1, d2, d3, d4, d5, d6⟩ := box_lits KD
        simp only at a0 a1 a2 a3 a4 a5 a6 b0 b1 b2 b3 b4 b5 b6 c0 c1 c2 c3 c4 c5 c6 d0 d1 d2 d3 d4 d5 d6
        clear KA KB KC KD
        go_wp2_with fail
        clear a0 a1 a2 a3 a4 a5 a6 b0 b1 b2 b3 b4 b5 b6 c0 c1 c2 c3 c4 c5 c6 d0 d1 d2 d3 d4 d5 d6
        refine (same_any (a := ⟨f1, f2, f3, f4, f5, f6, t⟩) (b := ⟨f1, f2, v3, f4, f5, f6, t⟩)).mono ?_
        rw [R3.out]
        rintro e w9 ⟨rfl, x1⟩
        replace XC := Lib.hid (XC.out.tr x1)
        clear x1
        have KA := PA.out.ext XC.out
        have KB := PB.out.ext XC.out
        have KC := PC.out.ext XC.out
        have KD := PD.out.ext XC.out
        obtain ⟨a0, a1, a2, a3, a4, a5, a6⟩ := box_lits KA
        obtain ⟨b0, b1, b2, b3, b4, b5, b6⟩ := box_lits KB
        obtain ⟨c0, c1, c2, c3, c4, c5, c6⟩ := box_lits KC
        obtain ⟨d0, d1, d2, d3, d4, d5, d6⟩ := box_lits KD
        simp only at a0 a1 a2 a3 a4 a5 a6 b0 b1 b2 b3 b4 b5 b6 c0 c1 c2 c3 c4 c5 c6 d0 d1 d2 d3 d4 d5 d6
        clear KA KB KC KD
        go_wp2_with fail
        clear a0 a1 a2 a3 a4 a5 a6 b0 b1 b2 b3 b4 b5 b6 c0 c1 c2 c3 c4 c5 c6 d0 d1 d2 d3 d4 d5 d6
        refine (same_any (a := ⟨f1, f2, f3, f4, f5, f6, t⟩) (b := ⟨f1, v2, f3, f4, f5, f6, t⟩)).mono ?_
        rw [R4.out]
        rintro e w10 ⟨rfl, x1⟩
        replace XC := Lib.hid (XC.out.tr x1)
        clear x1
        have KA := PA.out.ext XC.out
        have KB := PB.out.ext XC.out
        have KC := PC.out.ext XC.out
        have KD := PD.out.ext XC.out
        obtain ⟨a0, a1, a2, a3, a4, a5, a6⟩ := box_lits KA
        obtain ⟨b0, b1, b2, b3, b4, b5, b6⟩ := box_lits KB
        obtain ⟨c0, c1, c2, c3, c4, c5, c6⟩ := box_lits KC
        obtain ⟨d0, d1, d2, d3, d4, d5, d6⟩ := box_lits KD
        simp only at a0 a1 a2 a3 a4 a5 a6 b0 b1 b2 b3 b4 b5 b6 c0 c1 c2 c3 c4 c5 c6 d0 d1 d2 d3 d4 d5 d6
        clear KA KB KC KD
        go_wp2_with fail
        clear a0 a1 a2 a3 a4 a5 a6 b0 b1 b2 b3 b4 b5 b6 c0 c1 c2 c3 c4 c5 c6 d0 d1 d2 d3 d4 d5 d6
        refine (same_any (a := ⟨f1, f2, f3, f4, f5, st, data⟩) (b := ⟨f1, f2, f3, f4, f5, f6, t⟩)).mono ?_
        rw [R5.out]
        rintro e w11 ⟨rfl, x1⟩
        replace XC := Lib.hid (XC.out.tr x1)
        clear x1
        have KA := PA.out.ext XC.out
        have KB := PB.out.ext XC.out
        have KC := PC.out.ext XC.out
        have KD := PD.out.ext XC.out
        obtain ⟨a0, a1, a2, a3, a4, a5, a6⟩ := box_lits KA
        obtain ⟨b0, b1, b2, b3, b4, b5, b6⟩ := box_lits KB
        obtain ⟨c0, c1, c2, c3, c4, c5, c6⟩ := box_lits KC
        obtain ⟨d0, d1, d2, d3, d4, d5, d6⟩ := box_lits KD
        simp only at a0 a1 a2 a3 a4 a5 a6 b0 b1 b2 b3 b4 b5 b6 c0 c1 c2 c3 c4 c5 c6 d0 d1 d2 d3 d4 d5 d6
        clear KA KB KC KD
        go_wp2_with fail
        clear a0 a1 a2 a3 a4 a5 a6 b0 b1 b2 b3 b4 b5 b6 c0 c1 c2 c3 c4 c5 c6 d0 d1 d2 d3 d4 d5 d6
        refine (eq_any (a := ⟨f1, f2, f3, f4, f5, st, data⟩) (b := ⟨f1, f2, f3, f4, f5, f6, t⟩)).mono ?_
        rw [R6.out]
        rintro e w12 ⟨rfl, x1⟩
        replace XC := Lib.hid (XC.out.tr x1)
        clear x1
        have KA := PA.out.ext XC.out
        have KB := PB.out.ext XC.out
        have KC := PC.out.ext XC.out
        have KD := PD.out.ext XC.out
        obtain ⟨a0, a1, a2, a3, a4, a5, a6⟩ := box_lits KA
        obtain ⟨b0, b1, b2, b3, b4, b5, b6⟩ := box_lits KB
        obtain ⟨c0, c1, c2, c3, c4, c5, c6⟩ := box_lits KC
        obtain ⟨d0, d1, d2, d3, d4, d5, d6⟩ := box_lits KD
        simp only at a0 a1 a2 a3 a4 a5 a6 b0 b1 b2 b3 b4 b5 b6 c0 c1 c2 c3 c4 c5 c6 d0 d1 d2 d3 d4 d5 d6
        clear KA KB KC KD
        clear a0 a1 a2 a3 a4 a5 a6 b0 b1 b2 b3 b4 b5 b6 c0 c1 c2 c3 c4 c5 c6 d0 d1 d2 d3 d4 d5 d6
        go_wp2
        go_ret
        exact ⟨rfl, XE.out.tr XC.out⟩
    · have R1 : Hid (sameB ⟨f1, f2, f3, f4, f5, f6, t⟩ ⟨f1, f2, f3, f4, lv, st, data⟩ = true) := Lib.hid (by simp [sameB])
      have R2 : Hid (eqB ⟨f1, f2, f3, f4, f5, f6, t⟩ ⟨f1, f2, f3, f4, lv, st, data⟩ = false) := Lib.hid (by simp [eqB, sameB, h1])
      have R3 : Hid (sameB ⟨f1, f2, f3, f4, f5, f6, t⟩ ⟨f1, f2, v3, f4, f5, f6, t⟩ = false) := Lib.hid (by simp [sameB, n3.symm])
      have R4 : Hid (sameB ⟨f1, f2, f3, f4, f5, f6, t⟩ ⟨f1, v2, f3, f4, f5, f6, t⟩ = false) := Lib.hid (by simp [sameB, n2.symm])
      have R5 : Hid (sameB ⟨f1, f2, f3, f4, lv, st, data⟩ ⟨f1, f2, f3, f4, f5, f6, t⟩ = true) := Lib.hid (by simp [sameB])
      have R6 : Hid (eqB ⟨f1, f2, f3, f4, lv, st, data⟩ ⟨f1, f2, f3, f4, f5, f6, t⟩ = false) := Lib.hid (by rw [eqB_comm]; exact R2.out)
      clear n2 n3
      have nn : (f5 == lv) = false := beq_eq_false_iff_ne.2 h1
      clear h1
      have KA := PA.out.ext (Ext.rfl' w6)
      have KB := PB.out.ext (Ext.rfl' w6)
      have KC := PC.out.ext (Ext.rfl' w6)
      have KD := PD.out.ext (Ext.rfl' w6)
      obtain ⟨a0, a1, a2, a3, a4, a5, a6⟩ := box_lits KA
      obtain ⟨b0, b1, b2, b3, b4, b5, b6⟩ := box_lits KB
      obtain ⟨c0, c1, c2, c3, c4, c5, c6⟩ := box_lits KC
      obtain ⟨d0, d1, d2, d3, d4, d5, d6⟩ := box_lits KD
      simp only at a0 a1 a2 a3 a4 a5 a6 b0 b1 b2 b3 b4 b5 b6 c0 c1 c2 c3 c4 c5 c6 d0 d1 d2 d3 d4 d5 d6
      clear KA KB KC KD
      have XC := Lib.hid (Ext.rfl' w6)
      go_wp2_with fail
      clear a0 a1 a2 a3 a4 a5 a6 b0 b1 b2 b3 b4 b5 b6 c0 c1 c2 c3 c4 c5 c6 d0 d1 d2 d3 d4 d5 d6
      refine (same_any (a := ⟨f1, f2, f3, f4, f5, f6, t⟩) (b := ⟨f1, f2, f3, f4, lv, st, data⟩)).mono ?_
      rw [R1.out]
      rintro e w7 ⟨rfl, x1⟩
      replace XC := Lib.hid (XC.out.tr x1)
      clear x1
      have KA := PA.out.ext XC.out
      have KB := PB.out.ext XC.out
      have KC := PC.out.ext XC.out
      have KD := PD.out.ext XC.out
      obtain ⟨a0, a1, a2, a3, a4, a5, a6⟩ := box_lits KA
      obtain ⟨b0, b1, b2, b3, b4, b5, b6⟩ := box_lits KB
      obtain ⟨c0, c1, c2, c3, c4, c5, c6⟩ := box_lits KC
      obtain ⟨d0, d1, d2, d3, d4, d5, d6⟩ := box_lits KD
      simp only at a0 a1 a2 a3 a4 a5 a6 b0 b1 b2 b3 b4 b5 b6 c0 c1 c2 c3 c4 c5 c6 d0 d1 d2 d3 d4 d5 d6
      clear KA KB KC KD
      go_wp2_with fail
      clear a0 a1 a2 a3 a4 a5 a6 b0 b1 b2 b3 b4 b5 b6 c0 c1 c2 c3 c4 c5 c6 d0 d1 d2 d3 d4 d5 d6
      refine (eq_any (a := ⟨f1, f2, f3, f4, f5, f6, t⟩) (b := ⟨f1, f2, f3, f4, lv, st, data⟩)).mono ?_
      rw [R2.out]
      rintro e w8 ⟨rfl, x1⟩
      replace XC := Lib.hid (XC.out.tr x1)
      clear x1
      have KA := PA.out.ext XC.out
      have KB := PB.out.ext XC.out
      have KC := PC.out.ext XC.out
      have KD := PD.out.ext XC.out
      obtain ⟨a0, a1, a2, a3, a4, a5, a6⟩ := box_lits KA
      obtain ⟨b0, b1, b2, b3, b4, b5, b6⟩ := box_lits KB
      obtain ⟨c0, c1, c2, c3, c4, c5, c6⟩ := box_lits KC
      obtain ⟨d0, d1, d2, d3, d4, d5, d6⟩ := box_lits KD
      simp only at a0 a1 a2 a3 a4 a5 a6 b0 b1 b2 b3 b4 b5 b6 c0 c1 c2 c3 c4 c5 c6 d0 d1 d2 d3 d4 d5 d6
      clear KA KB KC KD
      go_wp2_with fail
      clear a0 a1 a2 a3 a4 a5 a6 b0 b1 b2 b3 b4 b5 b6 c0 c1 c2 c3 c4 c5 c6 d0 d1 d2 d3 d4 d5 d6
      refine (same_any (a := ⟨f1, f2, f3, f4, f5, f6, t⟩) (b := ⟨f1, f2, v3, f4, f5, f6, t⟩)).mono ?_
      rw [R3.out]
      rintro e w9 ⟨rfl, x1⟩
      replace XC := Lib.hid (XC.out.tr x1)
      clear x1
      have KA := PA.out.ext XC.out
      have KB := PB.out.ext XC.out
      have KC := PC.out.ext XC.out
      have KD := PD.out.ext XC.out
      obtain ⟨a0, a1, a2, a3, a4, a5, a6⟩ := box_lits KA
      obtain ⟨b0, b1, b2, b3, b4, b5, b6⟩ := box_lits KB
      obtain ⟨c0, c1, c2, c3, c4, c5, c6⟩ := box_lits KC
      obtain ⟨d0, d1, d2, d3, d4, d5, d6⟩ := box_lits KD
      simp only at a0 a1 a2 a3 a4 a5 a6 b0 b1 b2 b3 b4 b5 b6 c0 c1 c2 c3 c4 c5 c6 d0 d1 d2 d3 d4 d5 d6
      clear KA KB KC KD
      go_wp2_with fail
      clear a0 a1 a2 a3 a4 a5 a6 b0 b1 b2 b3 b4 b5 b6 c0 c1 c2 c3 c4 c5 c6 d0 d1 d2 d3 d4 d5 d6
      refine (same_any (a := ⟨f1, f2, f3, f4, f5, f6, t⟩) (b := ⟨f1, v2, f3, f4, f5, f6, t⟩)).mono ?_
      rw [R4.out]
      rintro e w10 ⟨rfl, x1⟩
      replace XC := Lib.hid (XC.out.tr x1)
      clear x1
      have KA := PA.out.ext XC.out
      have KB := PB.out.ext XC.out
      have KC := PC.out.ext XC.out
      have KD := PD.out.ext XC.out
      obtain ⟨a0, a1, a2, a3, a4, a5, a6⟩ := box_lits KA
      obtain ⟨b0, b1, b2, b3, b4, b5, b6⟩ := box_lits KB
      obtain ⟨c0, c1, c2, c3, c4, c5, c6⟩ := box_lits KC
      obtain ⟨d0, d1, d2, d3, d4, d5, d6⟩ := box_lits KD
      simp only at a0 a1 a2 a3 a4 a5 a6 b0 b1 b2 b3 b4 b5 b6 c0 c1 c2 c3 c4 c5 c6 d0 d1 d2 d3 d4 d5 d6
      clear KA KB KC KD
      go_wp2_with fail
      clear a0 a1 a2 a3 a4 a5 a6 b0 b1 b2 b3 b4 b5 b6 c0 c1 c2 c3 c4 c5 c6 d0 d1 d2 d3 d4 d5 d6
      refine (same_any (a := ⟨f1, f2, f3, f4, lv, st, data⟩) (b := ⟨f1, f2, f3, f4, f5, f6, t⟩)).mono ?_
      rw [R5.out]
      rintro e w11 ⟨rfl, x1⟩
      replace XC := Lib.hid (XC.out.tr x1)
      clear x1
      have KA := PA.out.ext XC.out
      have KB := PB.out.ext XC.out
      have KC := PC.out.ext XC.out
      have KD := PD.out.ext XC.out
      obtain ⟨a0, a1, a2, a3, a4, a5, a6⟩ := box_lits KA
      obtain ⟨b0, b1, b2, b3, b4, b5, b6⟩ := box_lits KB
      obtain ⟨c0, c1, c2, c3, c4, c5, c6⟩ := box_lits KC
      obtain ⟨d0, d1, d2, d3, d4, d5, d6⟩ := box_lits KD
      simp only at a0 a1 a2 a3 a4 a5 a6 b0 b1 b2 b3 b4 b5 b6 c0 c1 c2 c3 c4 c5 c6 d0 d1 d2 d3 d4 d5 d6
      clear KA KB KC KD
      go_wp2_with fail
      clear a0 a1 a2 a3 a4 a5 a6 b0 b1 b2 b3 b4 b5 b6 c0 c1 c2 c3 c4 c5 c6 d0 d1 d2 d3 d4 d5 d6
      refine (eq_any (a := ⟨f1, f2, f3, f4, lv, st, data⟩) (b := ⟨f1, f2, f3, f4, f5, f6, t⟩)).mono ?_
      rw [R6.out]
      rintro e w12 ⟨rfl, x1⟩
      replace XC := Lib.hid (XC.out.tr x1)
      clear x1
      have KA := PA.out.ext XC.out
      have KB := PB.out.ext XC.out
      have KC := PC.out.ext XC.out
      have KD := PD.out.ext XC.out
      obtain ⟨a0, a1, a2, a3, a4, a5, a6⟩ := box_lits KA
      obtain ⟨b0, b1, b2, b3, b4, b5, b6⟩ := box_lits KB
      obtain ⟨c0, c1, c2, c3, c4, c5, c6⟩ := box_lits KC
      obtain ⟨d0, d1, d2, d3, d4, d5, d6⟩ := box_lits KD
      simp only at a0 a1 a2 a3 a4 a5 a6 b0 b1 b2 b3 b4 b5 b6 c0 c1 c2 c3 c4 c5 c6 d0 d1 d2 d3 d4 d5 d6
      clear KA KB KC KD
      clear a0 a1 a2 a3 a4 a5 a6 b0 b1 b2 b3 b4 b5 b6 c0 c1 c2 c3 c4 c5 c6 d0 d1 d2 d3 d4 d5 d6
      go_wp2
      go_ret
      exact ⟨rfl, XE.out.tr XC.out⟩
  · have R1 : Hid (sameB ⟨f1, f2, f3, f4, f5, f6, t⟩ ⟨f1, f2, f3, od, lv, st, data⟩ = true) := Lib.hid (by simp [sameB])
    have R2 : Hid (eqB ⟨f1, f2, f3, f4, f5, f6, t⟩ ⟨f1, f2, f3, od, lv, st, data⟩ = false) := Lib.hid (by simp [eqB, sameB, h0])
    have R3 : Hid (sameB ⟨f1, f2, f3, f4, f5, f6, t⟩ ⟨f1, f2, v3, f4, f5, f6, t⟩ = false) := Lib.hid (by simp [sameB, n3.symm])
    have R4 : Hid (sameB ⟨f1, f2, f3, f4, f5, f6, t⟩ ⟨f1, v2, f3, f4, f5, f6, t⟩ = false) := Lib.hid (by simp [sameB, n2.symm])
    have R5 : Hid (sameB ⟨f1, f2, f3, od, lv, st, data⟩ ⟨f1, f2, f3, f4, f5, f6, t⟩ = true) := Lib.hid (by simp [sameB])
    have R6 : Hid (eqB ⟨f1, f2, f3, od, lv, st, data⟩ ⟨f1, f2, f3, f4, f5, f6, t⟩ = false) := Lib.hid (by rw [eqB_comm]; exact R2.out)
    clear n2 n3
    have nn : (f4 == od) = false := beq_eq_false_iff_ne.2 h0
    clear h0
    have KA := PA.out.ext (Ext.rfl' w6)
    have KB := PB.out.ext (Ext.rfl' w6)
    have KC := PC.out.ext (Ext.rfl' w6)
    have KD := PD.out.ext (Ext.rfl' w6)
    obtain ⟨a0, a1, a2, a3, a4, a5, a6⟩ := box_lits KA
    obtain ⟨b0, b1, b2, b3, b4, b5, b6⟩ := box_lits KB
    obtain ⟨c0, c1, c2, c3, c4, c5, c6⟩ := box_lits KC
    obtain ⟨d0, d1, d2, d3, d4, d5, d6⟩ := box_lits KD
    simp only at a0 a1 a2 a3 a4 a5 a6 b0 b1 b2 b3 b4 b5 b6 c0 c1 c2 c3 c4 c5 c6 d0 d1 d2 d3 d4 d5 d6
    clear KA KB KC KD
    have XC := Lib.hid (Ext.rfl' w6)
    go_wp2_with fail
    clear a0 a1 a2 a3 a4 a5 a6 b0 b1 b2 b3 b4 b5 b6 c0 c1 c2 c3 c4 c5 c6 d0 d1 d2 d3 d4 d5 d6
    refine (same_any (a := ⟨f1, f2, f3, f4, f5, f6, t⟩) (b := ⟨f1, f2, f3, od, lv, st, data⟩)).mono ?_
    rw [R1.out]
    rintro e w7 ⟨rfl, x1⟩
    replace XC := Lib.hid (XC.out.tr x1)
    clear x1
    have KA := PA.out.ext XC.out
    have KB := PB.out.ext XC.out
    have KC := PC.out.ext XC.out
    have KD := PD.out.ext XC.out
    obtain ⟨a0, a1, a2, a3, a4, a5, a6⟩ := box_lits KA
    obtain ⟨b0, b1, b2, b3, b4, b5, b6⟩ := box_lits KB
    obtain ⟨c0, c1, c2, c3, c4, c5, c6⟩ := box_lits KC
    obtain ⟨d0, d1, d2, d3, d4, d5, d6⟩ := box_lits KD
    simp only at a0 a1 a2 a3 a4 a5 a6 b0 b1 b2 b3 b4 b5 b6 c0 c1 c2 c3 c4 c5 c6 d0 d1 d2 d3 d4 d5 d6
    clear KA KB KC KD
    go_wp2_with fail
    clear a0 a1 a2 a3 a4 a5 a6 b0 b1 b2 b3 b4 b5 b6 c0 c1 c2 c3 c4 c5 c6 d0 d1 d2 d3 d4 d5 d6
    refine (eq_any (a := ⟨f1, f2, f3, f4, f5, f6, t⟩) (b := ⟨f1, f2, f3, od, lv, st, data⟩)).mono ?_
    rw [R2.out]
    rintro e w8 ⟨rfl, x1⟩
    replace XC := Lib.hid (XC.out.tr x1)
    clear x1
    have KA := PA.out.ext XC.out
    have KB := PB.out.ext XC.out
    have KC := PC.out.ext XC.out
    have KD := PD.out.ext XC.out
    obtain ⟨a0, a1, a2, a3, a4, a5, a6⟩ := box_lits KA
    obtain ⟨b0, b1, b2, b3, b4, b5, b6⟩ := box_lits KB
    obtain ⟨c0, c1, c2, c3, c4, c5, c6⟩ := box_lits KC
    obtain ⟨d0, d1, d2, d3, d4, d5, d6⟩ := box_lits KD
    simp only at a0 a1 a2 a3 a4 a5 a6 b0 b1 b2 b3 b4 b5 b6 c0 c1 c2 c3 c4 c5 c6 d0 d1 d2 d3 d4 d5 d6
    clear KA KB KC KD
    go_wp2_with fail
    clear a0 a1 a2 a3 a4 a5 a6 b0 b1 b2 b3 b4 b5 b6 c0 c1 c2 c3 c4 c5 c6 d0 d1 d2 d3 d4 d5 d6
    refine (same_any (a := ⟨f1, f2, f3, f4, f5, f6, t⟩) (b := ⟨f1, f2, v3, f4, f5, f6, t⟩)).mono ?_
    rw [R3.out]
    rintro e w9 ⟨rfl, x1⟩
    replace XC := Lib.hid (XC.out.tr x1)
    clear x1
    have KA := PA.out.ext XC.out
    have KB := PB.out.ext XC.out
    have KC := PC.out.ext XC.out
    have KD := PD.out.ext XC.out
    obtain ⟨a0, a1, a2, a3, a4, a5, a6⟩ := box_lits KA
    obtain ⟨b0, b1, b2, b3, b4, b5, b6⟩ := box_lits KB
    obtain ⟨c0, c1, c2, c3, c4, c5, c6⟩ := box_lits KC
    obtain ⟨d0, d1, d2, d3, d4, d5, d6⟩ := box_lits KD
    simp only at a0 a1 a2 a3 a4 a5 a6 b0 b1 b2 b3 b4 b5 b6 c0 c1 c2 c3 c4 c5 c6 d0 d1 d2 d3 d4 d5 d6
    clear KA KB KC KD
    go_wp2_with fail
    clear a0 a1 a2 a3 a4 a5 a6 b0 b1 b2 b3 b4 b5 b6 c0 c1 c2 c3 c4 c5 c6 d0 d1 d2 d3 d4 d5 d6
    refine (same_any (a := ⟨f1, f2, f3, f4, f5, f6, t⟩) (b := ⟨f1, v2, f3, f4, f5, f6, t⟩)).mono ?_
    rw [R4.out]
    rintro e w10 ⟨rfl, x1⟩
    replace XC := Lib.hid (XC.out.tr x1)
    clear x1
    have KA := PA.out.ext XC.out
    have KB := PB.out.ext XC.out
    have KC := PC.out.ext XC.out
    have KD := PD.out.ext XC.out
    obtain ⟨a0, a1, a2, a3, a4, a5, a6⟩ := box_lits KA
    obtain ⟨b0, b1, b2, b3, b4, b5, b6⟩ := box_lits KB
    obtain ⟨c0, c1, c2, c3, c4, c5, c6⟩ := box_lits KC
    obtain ⟨d0, d1, d2, d3, d4, d5, d6⟩ := box_lits KD
    simp only at a0 a1 a2 a3 a4 a5 a6 b0 b1 b2 b3 b4 b5 b6 c0 c1 c2 c3 c4 c5 c6 d0 d1 d2 d3 d4 d5 d6
    clear KA KB KC KD
    go_wp2_with fail
    clear a0 a1 a2 a3 a4 a5 a6 b0 b1 b2 b3 b4 b5 b6 c0 c1 c2 c3 c4 c5 c6 d0 d1 d2 d3 d4 d5 d6
    refine (same_any (a := ⟨f1, f2, f3, od, lv, st, data⟩) (b := ⟨f1, f2, f3, f4, f5, f6, t⟩)).mono ?_
    rw [R5.out]
    rintro e w11 ⟨rfl, x1⟩
    replace XC := Lib.hid (XC.out.tr x1)
    clear x1
    have KA := PA.out.ext XC.out
    have KB := PB.out.ext XC.out
    have KC := PC.out.ext XC.out
    have KD := PD.out.ext XC.out
    obtain ⟨a0, a1, a2, a3, a4, a5, a6⟩ := box_lits KA
    obtain ⟨b0, b1, b2, b3, b4, b5, b6⟩ := box_lits KB
    obtain ⟨c0, c1, c2, c3, c4, c5, c6⟩ := box_lits KC
    obtain ⟨d0, d1, d2, d3, d4, d5, d6⟩ := box_lits KD
    simp only at a0 a1 a2 a3 a4 a5 a6 b0 b1 b2 b3 b4 b5 b6 c0 c1 c2 c3 c4 c5 c6 d0 d1 d2 d3 d4 d5 d6
    clear KA KB KC KD
    go_wp2_with fail
    clear a0 a1 a2 a3 a4 a5 a6 b0 b1 b2 b3 b4 b5 b6 c0 c1 c2 c3 c4 c5 c6 d0 d1 d2 d3 d4 d5 d6
    refine (eq_any (a := ⟨f1, f2, f3, od, lv, st, data⟩) (b := ⟨f1, f2, f3, f4, f5, f6, t⟩)).mono ?_
    rw [R6.out]
    rintro e w12 ⟨rfl, x1⟩
    replace XC := Lib.hid (XC.out.tr x1)
    clear x1
    have KA := PA.out.ext XC.out
    have KB := PB.out.ext XC.out
    have KC := PC.out.ext XC.out
    have KD := PD.out.ext XC.out
    obtain ⟨a0, a1, a2, a3, a4, a5, a6⟩ := box_lits KA
    obtain ⟨b0, b1, b2, b3, b4, b5, b6⟩ := box_lits KB
    obtain ⟨c0, c1, c2, c3, c4, c5, c6⟩ := box_lits KC
    obtain ⟨d0, d1, d2, d3, d4, d5, d6⟩ := box_lits KD
    simp only at a0 a1 a2 a3 a4 a5 a6 b0 b1 b2 b3 b4 b5 b6 c0 c1 c2 c3 c4 c5 c6 d0 d1 d2 d3 d4 d5 d6
    clear KA KB KC KD
    clear a0 a1 a2 a3 a4 a5 a6 b0 b1 b2 b3 b4 b5 b6 c0 c1 c2 c3 c4 c5 c6 d0 d1 d2 d3 d4 d5 d6
    go_wp2
    go_ret
    exact ⟨rfl, XE.out.tr XC.out⟩
end Go.Proofs.Ytkgcmobijbakmaa
