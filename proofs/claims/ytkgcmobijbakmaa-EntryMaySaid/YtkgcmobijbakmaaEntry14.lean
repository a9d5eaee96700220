/-
  The walk of EntryMay: whatever the two entries, the law returns true.
-/
import Derived.Test.YtkgcmobijbakmaaEntry11
import Derived.Test.YtkgcmobijbakmaaRegion2
namespace Go.Proofs.Ytkgcmobijbakmaa
open Go Go.Sort Go.RowKit
set_option linter.unusedVariables false

theorem EnOwn.otherFill {w : World} {g g' : Nat} {e e' : EnD} (h : EnOwn w g e) (hne : g ≠ g') : EnOwn (fillE w g' e') g e :=
  ((((((h.other hne).other hne).other hne).other hne).other hne).other hne).other hne
theorem EnBox.otherFill {w : World} {g g' : Nat} {e e' : EnD} (h : EnBox w g e) (hne : g ≠ g') : EnBox (fillE w g' e') g e := by
  have hc : ∀ (w : World) (k : Nat) (v : Value) (j : Nat), (w.setCell ⟨g', k, none⟩ v).cell? ⟨g, j, none⟩ = w.cell? ⟨g, j, none⟩ := fun w k v j => World.cell?_setCell_other (h := by simp) ..
  unfold fillE
  constructor <;> simp only [hc]
  · exact h.c0
  · exact h.c1
  · exact h.c2
  · exact h.c3
  · exact h.c4
  · exact h.c5
  · exact h.c6

set_option maxRecDepth 8000 in
set_option maxHeartbeats 16000000 in
theorem walk_EntryMay {a b : EnD} {w : World} (ha : EnOk a) (hb : EnOk b) :
    Calls Try.prog 3 #[enV a, enV b] w fun e w' => e = .returned (.bool true) ∧ Below w.heap.size w w' := by
  obtain ⟨f1, f2, f3, f4, f5, f6, dat⟩ := a
  obtain ⟨g1, g2, g3, g4, g5, g6, gat⟩ := b
  have HA := Lib.hid ha
  have HB := Lib.hid hb
  clear ha hb
  have TA := Lib.hid ((EnOwn.new w ⟨f1, f2, f3, f4, f5, f6, dat⟩ 23 _ rfl).ext (Ext.alloc _ (.cells (enA ⟨g1, g2, g3, g4, g5, g6, gat⟩) 23)))
  have TB := Lib.hid (EnOwn.new (w.alloc (.cells (enA ⟨f1, f2, f3, f4, f5, f6, dat⟩) 23)) ⟨g1, g2, g3, g4, g5, g6, gat⟩ 23 (w.heap.size + 1) (by simp))
  have X := Lib.hid ((Ext.alloc w (.cells (enA ⟨f1, f2, f3, f4, f5, f6, dat⟩) 23)).tr (Ext.alloc _ (.cells (enA ⟨g1, g2, g3, g4, g5, g6, gat⟩) 23)))
  go_enter Try.func3, Try.ntmps3
  go_wp2_with fail
  refine (begun12 _).mono ?_
  rintro e1 w1 ⟨rfl, x1⟩
  replace X := Lib.hid (X.out.tr x1)
  replace TA := Lib.hid (TA.out.ext x1)
  replace TB := Lib.hid (TB.out.ext x1)
  clear x1
  go_wp2_with fail
  have A0 := Lib.hid TA.out.box
  have B0 := Lib.hid TB.out.box
  have KA := A0.out.ext (Ext.drew w1)
  have KB := B0.out.ext (Ext.drew w1)
  have ra0 := fun d os => Ext.cell (Ext.reg w1.drew d os) KA.c0
  have ra1 := fun d os => Ext.cell (Ext.reg w1.drew d os) KA.c1
  have ra2 := fun d os => Ext.cell (Ext.reg w1.drew d os) KA.c2
  have ra3 := fun d os => Ext.cell (Ext.reg w1.drew d os) KA.c3
  have ra4 := fun d os => Ext.cell (Ext.reg w1.drew d os) KA.c4
  have ra5 := fun d os => Ext.cell (Ext.reg w1.drew d os) KA.c5
  have ra6 := fun d os => Ext.cell (Ext.reg w1.drew d os) KA.c6
  have rb0 := fun d os => Ext.cell (Ext.reg w1.drew d os) KB.c0
  have rb1 := fun d os => Ext.cell (Ext.reg w1.drew d os) KB.c1
  have rb2 := fun d os => Ext.cell (Ext.reg w1.drew d os) KB.c2
  have rb3 := fun d os => Ext.cell (Ext.reg w1.drew d os) KB.c3
  have rb4 := fun d os => Ext.cell (Ext.reg w1.drew d os) KB.c4
  have rb5 := fun d os => Ext.cell (Ext.reg w1.drew d os) KB.c5
  have rb6 := fun d os => Ext.cell (Ext.reg w1.drew d os) KB.c6
  simp only at ra0 ra1 ra2 ra3 ra4 ra5 ra6 rb0 rb1 rb2 rb3 rb4 rb5 rb6
  clear KA KB
  refine ra_start [0, 2, 1, 3] [4, 5] (by kernel_rfl) (by kernel_rfl) (fun _ _ d _ _ h => by cases d <;> exact h) ?_
  repeat (first | (refine ra_quiet rfl (by rfl) (by rfl) (fun K hK => ?_); go_big_quiet_op; refine hK _ ?_; clear hK K) | (refine ra_skip rfl (by rfl) (fun K hK => ?_); go_big_quiet_op; refine hK _ ?_; clear hK K))
  clear ra0 ra1 ra2 ra3 ra4 ra5 ra6 rb0 rb1 rb2 rb3 rb4 rb5 rb6
  refine ra_call rfl (by rfl) (by rfl) (fun K hK => ?_)
  go_simp
  refine (ecut_any (e := ⟨f1, f2, f3, f4, f5, f6, dat⟩) HA.out).mono ?_
  rintro e2 w2 ⟨t, ht, rfl, x2⟩
  refine hK _ _ x2 ?_
  clear hK K
  have E2 := Lib.hid ((Ext.drew w1).tr x2)
  clear x2
  refine ra_call rfl (by rfl) (by rfl) (fun K hK => ?_)
  go_simp
  refine (ecut_any (e := ⟨g1, g2, g3, g4, g5, g6, gat⟩) HB.out).mono ?_
  rintro e3 w3 ⟨u, hu, rfl, x3⟩
  refine hK _ _ x3 ?_
  clear hK K
  replace X := Lib.hid (X.out.tr (E2.out.tr x3))
  replace TA := Lib.hid (TA.out.ext (E2.out.tr x3))
  replace TB := Lib.hid (TB.out.ext (E2.out.tr x3))
  clear x3 E2 A0 B0
  refine ra_nil ?_
  obtain ⟨⟨b0, b1, b2, b3, b4, b5, b6⟩, bf⟩ := TA.out
  simp only at b0 b1 b2 b3 b4 b5 b6
  refine rt_op rfl (by rfl) (fun K hK => ?_)
  go_simp
  refine hK _ _ ?_
  clear hK K b0 b1 b2 b3 b4 b5 b6 bf
  have OKA : Hid (EnOk ⟨f1, f2, f3, f4, f5, f6, t⟩) := Lib.hid ⟨HA.out.1, HA.out.2.1, HA.out.2.2.1, HA.out.2.2.2.1, HA.out.2.2.2.2.1, HA.out.2.2.2.2.2.1, by simp only; omega⟩
  have OKB : Hid (EnOk ⟨g1, g2, g3, g4, g5, g6, u⟩) := Lib.hid ⟨HB.out.1, HB.out.2.1, HB.out.2.2.1, HB.out.2.2.2.1, HB.out.2.2.2.2.1, HB.out.2.2.2.2.2.1, by simp only; omega⟩
  have FA := Lib.hid (TA.out.fill ⟨f1, f2, f3, f4, f5, f6, t⟩)
  have FB := Lib.hid (TB.out.otherFill (e' := ⟨f1, f2, f3, f4, f5, f6, t⟩) (g' := w.heap.size) (by omega))
  have FX := Lib.hid (fill_below X.out (Nat.le_refl _) ⟨f1, f2, f3, f4, f5, f6, t⟩)
  change RT _ _ _ _ _ (fillE w3 w.heap.size ⟨f1, f2, f3, f4, f5, f6, t⟩)
  generalize fillE w3 w.heap.size ⟨f1, f2, f3, f4, f5, f6, t⟩ = w4 at *
  obtain ⟨⟨b0, b1, b2, b3, b4, b5, b6⟩, bf⟩ := FB.out
  simp only at b0 b1 b2 b3 b4 b5 b6
  refine rt_op rfl (by rfl) (fun K hK => ?_)
  go_simp
  refine hK _ _ ?_
  clear hK K b0 b1 b2 b3 b4 b5 b6 bf
  refine rt_nil ?_
  have B0 := Lib.hid (FB.out.fill ⟨g1, g2, g3, g4, g5, g6, u⟩)
  have A0 := Lib.hid (FA.out.otherFill (e' := ⟨g1, g2, g3, g4, g5, g6, u⟩) (g' := w.heap.size + 1) (by omega))
  have GX : Hid (Ext w (fillE w4 (w.heap.size + 1) ⟨g1, g2, g3, g4, g5, g6, u⟩)) := Lib.hid (fill_below FX.out (Nat.le_succ _) ⟨g1, g2, g3, g4, g5, g6, u⟩)
  change Exit.then _ _ _ _ (fillE w4 (w.heap.size + 1) ⟨g1, g2, g3, g4, g5, g6, u⟩)
  generalize fillE w4 (w.heap.size + 1) ⟨g1, g2, g3, g4, g5, g6, u⟩ = w5 at *
  clear FA FB FX TA TB X
  have R1 := Lib.hid (fun w => may_any (w := w) OKA.out)
  have R2 := Lib.hid (fun w => rmay_any (w := w) OKA.out)
  have R3 := Lib.hid (fun w => same_any (a := ⟨f1, f2, f3, f4, f5, f6, t⟩) (b := ⟨g1, g2, g3, g4, g5, g6, u⟩) (w := w))
  have R4 := Lib.hid (fun w => same_ref (a := ⟨f1, f2, f3, f4, f5, f6, t⟩) (b := ⟨g1, g2, g3, g4, g5, g6, u⟩) (w := w))
  have R5 := Lib.hid (fun w => eq_any (a := ⟨f1, f2, f3, f4, f5, f6, t⟩) (b := ⟨g1, g2, g3, g4, g5, g6, u⟩) (w := w))
  have R6 := Lib.hid (fun w => eq_ref (a := ⟨f1, f2, f3, f4, f5, f6, t⟩) (b := ⟨g1, g2, g3, g4, g5, g6, u⟩) (w := w))
  generalize mayB ⟨f1, f2, f3, f4, f5, f6, t⟩ = B1 at *
  generalize sameB ⟨f1, f2, f3, f4, f5, f6, t⟩ ⟨g1, g2, g3, g4, g5, g6, u⟩ = B2 at *
  generalize eqB ⟨f1, f2, f3, f4, f5, f6, t⟩ ⟨g1, g2, g3, g4, g5, g6, u⟩ = B3 at *
  go_wp2_with fail
  refine rw_start [0, 2, 1, 3, 4, 5, 6, 7, 9, 10, 8, 11, 12, 13, 14, 15, 16, 18, 19, 17, 20, 21, 22, 23] (by kernel_rfl) (by kernel_rfl) (fun _ _ d _ _ h => by cases d <;> exact h) ?_
  have XC := Lib.hid (Ext.drew w5)
  have KA := A0.out.ext XC.out
  have KB := B0.out.ext XC.out
  have ra0 := fun d os => Ext.cell (Ext.reg w5.drew d os) KA.c0
  have ra1 := fun d os => Ext.cell (Ext.reg w5.drew d os) KA.c1
  have ra2 := fun d os => Ext.cell (Ext.reg w5.drew d os) KA.c2
  have ra3 := fun d os => Ext.cell (Ext.reg w5.drew d os) KA.c3
  have ra4 := fun d os => Ext.cell (Ext.reg w5.drew d os) KA.c4
  have ra5 := fun d os => Ext.cell (Ext.reg w5.drew d os) KA.c5
  have ra6 := fun d os => Ext.cell (Ext.reg w5.drew d os) KA.c6
  have rb0 := fun d os => Ext.cell (Ext.reg w5.drew d os) KB.c0
  have rb1 := fun d os => Ext.cell (Ext.reg w5.drew d os) KB.c1
  have rb2 := fun d os => Ext.cell (Ext.reg w5.drew d os) KB.c2
  have rb3 := fun d os => Ext.cell (Ext.reg w5.drew d os) KB.c3
  have rb4 := fun d os => Ext.cell (Ext.reg w5.drew d os) KB.c4
  have rb5 := fun d os => Ext.cell (Ext.reg w5.drew d os) KB.c5
  have rb6 := fun d os => Ext.cell (Ext.reg w5.drew d os) KB.c6
  simp only at ra0 ra1 ra2 ra3 ra4 ra5 ra6 rb0 rb1 rb2 rb3 rb4 rb5 rb6
  clear KA KB
  repeat (first | (refine rw_quiet rfl (by rfl) (by rfl) (fun K hK => ?_); go_big_quiet_op; refine hK _ ?_; clear hK K) | (refine rw_skip rfl (by rfl) (fun K hK => ?_); go_big_quiet_op; refine hK _ ?_; clear hK K))
  clear ra0 ra1 ra2 ra3 ra4 ra5 ra6 rb0 rb1 rb2 rb3 rb4 rb5 rb6
  refine rw_call rfl (by rfl) (by rfl) (fun K hK => ?_)
  go_simp
  refine (R1.out _).mono ?_
  rintro e w6 ⟨rfl, x1⟩
  refine hK _ _ x1 ?_
  clear hK K
  replace XC := Lib.hid (XC.out.tr x1)
  clear x1
  have KA := A0.out.ext XC.out
  have KB := B0.out.ext XC.out
  have ra0 := fun d os => Ext.cell (Ext.reg w6 d os) KA.c0
  have ra1 := fun d os => Ext.cell (Ext.reg w6 d os) KA.c1
  have ra2 := fun d os => Ext.cell (Ext.reg w6 d os) KA.c2
  have ra3 := fun d os => Ext.cell (Ext.reg w6 d os) KA.c3
  have ra4 := fun d os => Ext.cell (Ext.reg w6 d os) KA.c4
  have ra5 := fun d os => Ext.cell (Ext.reg w6 d os) KA.c5
  have ra6 := fun d os => Ext.cell (Ext.reg w6 d os) KA.c6
  have rb0 := fun d os => Ext.cell (Ext.reg w6 d os) KB.c0
  have rb1 := fun d os => Ext.cell (Ext.reg w6 d os) KB.c1
  have rb2 := fun d os => Ext.cell (Ext.reg w6 d os) KB.c2
  have rb3 := fun d os => Ext.cell (Ext.reg w6 d os) KB.c3
  have rb4 := fun d os => Ext.cell (Ext.reg w6 d os) KB.c4
  have rb5 := fun d os => Ext.cell (Ext.reg w6 d os) KB.c5
  have rb6 := fun d os => Ext.cell (Ext.reg w6 d os) KB.c6
  simp only at ra0 ra1 ra2 ra3 ra4 ra5 ra6 rb0 rb1 rb2 rb3 rb4 rb5 rb6
  clear KA KB
  repeat (first | (refine rw_quiet rfl (by rfl) (by rfl) (fun K hK => ?_); go_big_quiet_op; refine hK _ ?_; clear hK K) | (refine rw_skip rfl (by rfl) (fun K hK => ?_); go_big_quiet_op; refine hK _ ?_; clear hK K))
  clear ra0 ra1 ra2 ra3 ra4 ra5 ra6 rb0 rb1 rb2 rb3 rb4 rb5 rb6
  refine rw_call rfl (by rfl) (by rfl) (fun K hK => ?_)
  go_simp
  refine (R2.out _).mono ?_
  rintro e w7 ⟨rfl, x1⟩
  refine hK _ _ x1 ?_
  clear hK K
  replace XC := Lib.hid (XC.out.tr x1)
  clear x1
  have KA := A0.out.ext XC.out
  have KB := B0.out.ext XC.out
  have ra0 := fun d os => Ext.cell (Ext.reg w7 d os) KA.c0
  have ra1 := fun d os => Ext.cell (Ext.reg w7 d os) KA.c1
  have ra2 := fun d os => Ext.cell (Ext.reg w7 d os) KA.c2
  have ra3 := fun d os => Ext.cell (Ext.reg w7 d os) KA.c3
  have ra4 := fun d os => Ext.cell (Ext.reg w7 d os) KA.c4
  have ra5 := fun d os => Ext.cell (Ext.reg w7 d os) KA.c5
  have ra6 := fun d os => Ext.cell (Ext.reg w7 d os) KA.c6
  have rb0 := fun d os => Ext.cell (Ext.reg w7 d os) KB.c0
  have rb1 := fun d os => Ext.cell (Ext.reg w7 d os) KB.c1
  have rb2 := fun d os => Ext.cell (Ext.reg w7 d os) KB.c2
  have rb3 := fun d os => Ext.cell (Ext.reg w7 d os) KB.c3
  have rb4 := fun d os => Ext.cell (Ext.reg w7 d os) KB.c4
  have rb5 := fun d os => Ext.cell (Ext.reg w7 d os) KB.c5
  have rb6 := fun d os => Ext.cell (Ext.reg w7 d os) KB.c6
  simp only at ra0 ra1 ra2 ra3 ra4 ra5 ra6 rb0 rb1 rb2 rb3 rb4 rb5 rb6
  clear KA KB
  repeat (first | (refine rw_quiet rfl (by rfl) (by rfl) (fun K hK => ?_); go_big_quiet_op; refine hK _ ?_; clear hK K) | (refine rw_skip rfl (by rfl) (fun K hK => ?_); go_big_quiet_op; refine hK _ ?_; clear hK K))
  clear ra0 ra1 ra2 ra3 ra4 ra5 ra6 rb0 rb1 rb2 rb3 rb4 rb5 rb6
  refine rw_call rfl (by rfl) (by rfl) (fun K hK => ?_)
  go_simp
  refine (R3.out _).mono ?_
  rintro e w8 ⟨rfl, x1⟩
  refine hK _ _ x1 ?_
  clear hK K
  replace XC := Lib.hid (XC.out.tr x1)
  clear x1
  have KA := A0.out.ext XC.out
  have KB := B0.out.ext XC.out
  have ra0 := fun d os => Ext.cell (Ext.reg w8 d os) KA.c0
  have ra1 := fun d os => Ext.cell (Ext.reg w8 d os) KA.c1
  have ra2 := fun d os => Ext.cell (Ext.reg w8 d os) KA.c2
  have ra3 := fun d os => Ext.cell (Ext.reg w8 d os) KA.c3
  have ra4 := fun d os => Ext.cell (Ext.reg w8 d os) KA.c4
  have ra5 := fun d os => Ext.cell (Ext.reg w8 d os) KA.c5
  have ra6 := fun d os => Ext.cell (Ext.reg w8 d os) KA.c6
  have rb0 := fun d os => Ext.cell (Ext.reg w8 d os) KB.c0
  have rb1 := fun d os => Ext.cell (Ext.reg w8 d os) KB.c1
  have rb2 := fun d os => Ext.cell (Ext.reg w8 d os) KB.c2
  have rb3 := fun d os => Ext.cell (Ext.reg w8 d os) KB.c3
  have rb4 := fun d os => Ext.cell (Ext.reg w8 d os) KB.c4
  have rb5 := fun d os => Ext.cell (Ext.reg w8 d os) KB.c5
  have rb6 := fun d os => Ext.cell (Ext.reg w8 d os) KB.c6
  simp only at ra0 ra1 ra2 ra3 ra4 ra5 ra6 rb0 rb1 rb2 rb3 rb4 rb5 rb6
  clear KA KB
  repeat (first | (refine rw_quiet rfl (by rfl) (by rfl) (fun K hK => ?_); go_big_quiet_op; refine hK _ ?_; clear hK K) | (refine rw_skip rfl (by rfl) (fun K hK => ?_); go_big_quiet_op; refine hK _ ?_; clear hK K))
  clear ra0 ra1 ra2 ra3 ra4 ra5 ra6 rb0 rb1 rb2 rb3 rb4 rb5 rb6
  refine rw_call rfl (by rfl) (by rfl) (fun K hK => ?_)
  go_simp
  refine (R4.out _).mono ?_
  rintro e w9 ⟨rfl, x1⟩
  refine hK _ _ x1 ?_
  clear hK K
  replace XC := Lib.hid (XC.out.tr x1)
  clear x1
  have KA := A0.out.ext XC.out
  have KB := B0.out.ext XC.out
  have ra0 := fun d os => Ext.cell (Ext.reg w9 d os) KA.c0
  have ra1 := fun d os => Ext.cell (Ext.reg w9 d os) KA.c1
  have ra2 := fun d os => Ext.cell (Ext.reg w9 d os) KA.c2
  have ra3 := fun d os => Ext.cell (Ext.reg w9 d os) KA.c3
  have ra4 := fun d os => Ext.cell (Ext.reg w9 d os) KA.c4
  have ra5 := fun d os => Ext.cell (Ext.reg w9 d os) KA.c5
  have ra6 := fun d os => Ext.cell (Ext.reg w9 d os) KA.c6
  have rb0 := fun d os => Ext.cell (Ext.reg w9 d os) KB.c0
  have rb1 := fun d os => Ext.cell (Ext.reg w9 d os) KB.c1
  have rb2 := fun d os => Ext.cell (Ext.reg w9 d os) KB.c2
  have rb3 := fun d os => Ext.cell (Ext.reg w9 d os) KB.c3
  have rb4 := fun d os => Ext.cell (Ext.reg w9 d os) KB.c4
  have rb5 := fun d os => Ext.cell (Ext.reg w9 d os) KB.c5
  have rb6 := fun d os => Ext.cell (Ext.reg w9 d os) KB.c6
  simp only at ra0 ra1 ra2 ra3 ra4 ra5 ra6 rb0 rb1 rb2 rb3 rb4 rb5 rb6
  clear KA KB
  repeat (first | (refine rw_quiet rfl (by rfl) (by rfl) (fun K hK => ?_); go_big_quiet_op; refine hK _ ?_; clear hK K) | (refine rw_skip rfl (by rfl) (fun K hK => ?_); go_big_quiet_op; refine hK _ ?_; clear hK K))
  clear ra0 ra1 ra2 ra3 ra4 ra5 ra6 rb0 rb1 rb2 rb3 rb4 rb5 rb6
  refine rw_call rfl (by rfl) (by rfl) (fun K hK => ?_)
  go_simp
  refine (R5.out _).mono ?_
  rintro e w10 ⟨rfl, x1⟩
  refine hK _ _ x1 ?_
  clear hK K
  replace XC := Lib.hid (XC.out.tr x1)
  clear x1
  have KA := A0.out.ext XC.out
  have KB := B0.out.ext XC.out
  have ra0 := fun d os => Ext.cell (Ext.reg w10 d os) KA.c0
  have ra1 := fun d os => Ext.cell (Ext.reg w10 d os) KA.c1
  have ra2 := fun d os => Ext.cell (Ext.reg w10 d os) KA.c2
  have ra3 := fun d os => Ext.cell (Ext.reg w10 d os) KA.c3
  have ra4 := fun d os => Ext.cell (Ext.reg w10 d os) KA.c4
  have ra5 := fun d os => Ext.cell (Ext.reg w10 d os) KA.c5
  have ra6 := fun d os => Ext.cell (Ext.reg w10 d os) KA.c6
  have rb0 := fun d os => Ext.cell (Ext.reg w10 d os) KB.c0
  have rb1 := fun d os => Ext.cell (Ext.reg w10 d os) KB.c1
  have rb2 := fun d os => Ext.cell (Ext.reg w10 d os) KB.c2
  have rb3 := fun d os => Ext.cell (Ext.reg w10 d os) KB.c3
  have rb4 := fun d os => Ext.cell (Ext.reg w10 d os) KB.c4
  have rb5 := fun d os => Ext.cell (Ext.reg w10 d os) KB.c5
  have rb6 := fun d os => Ext.cell (Ext.reg w10 d os) KB.c6
  simp only at ra0 ra1 ra2 ra3 ra4 ra5 ra6 rb0 rb1 rb2 rb3 rb4 rb5 rb6
  clear KA KB
  repeat (first | (refine rw_quiet rfl (by rfl) (by rfl) (fun K hK => ?_); go_big_quiet_op; refine hK _ ?_; clear hK K) | (refine rw_skip rfl (by rfl) (fun K hK => ?_); go_big_quiet_op; refine hK _ ?_; clear hK K))
  clear ra0 ra1 ra2 ra3 ra4 ra5 ra6 rb0 rb1 rb2 rb3 rb4 rb5 rb6
  refine rw_call rfl (by rfl) (by rfl) (fun K hK => ?_)
  go_simp
  refine (R6.out _).mono ?_
  rintro e w11 ⟨rfl, x1⟩
  refine hK _ _ x1 ?_
  clear hK K
  replace XC := Lib.hid (XC.out.tr x1)
  clear x1
  have KA := A0.out.ext XC.out
  have KB := B0.out.ext XC.out
  have ra0 := fun d os => Ext.cell (Ext.reg w11 d os) KA.c0
  have ra1 := fun d os => Ext.cell (Ext.reg w11 d os) KA.c1
  have ra2 := fun d os => Ext.cell (Ext.reg w11 d os) KA.c2
  have ra3 := fun d os => Ext.cell (Ext.reg w11 d os) KA.c3
  have ra4 := fun d os => Ext.cell (Ext.reg w11 d os) KA.c4
  have ra5 := fun d os => Ext.cell (Ext.reg w11 d os) KA.c5
  have ra6 := fun d os => Ext.cell (Ext.reg w11 d os) KA.c6
  have rb0 := fun d os => Ext.cell (Ext.reg w11 d os) KB.c0
  have rb1 := fun d os => Ext.cell (Ext.reg w11 d os) KB.c1
  have rb2 := fun d os => Ext.cell (Ext.reg w11 d os) KB.c2
  have rb3 := fun d os => Ext.cell (Ext.reg w11 d os) KB.c3
  have rb4 := fun d os => Ext.cell (Ext.reg w11 d os) KB.c4
  have rb5 := fun d os => Ext.cell (Ext.reg w11 d os) KB.c5
  have rb6 := fun d os => Ext.cell (Ext.reg w11 d os) KB.c6
  simp only at ra0 ra1 ra2 ra3 ra4 ra5 ra6 rb0 rb1 rb2 rb3 rb4 rb5 rb6
  clear KA KB
  repeat (first | (refine rw_quiet rfl (by rfl) (by rfl) (fun K hK => ?_); go_big_quiet_op; refine hK _ ?_; clear hK K) | (refine rw_skip rfl (by rfl) (fun K hK => ?_); go_big_quiet_op; refine hK _ ?_; clear hK K))
  clear ra0 ra1 ra2 ra3 ra4 ra5 ra6 rb0 rb1 rb2 rb3 rb4 rb5 rb6
  refine rw_nil ?_
  go_wp2
  go_ret
  exact ⟨rfl, GX.out.tr XC.out⟩
end Go.Proofs.Ytkgcmobijbakmaa
