/-
  Walks of WireMay: whatever the messages, the numbers and the bytes, the law returns true.
-/
import Derived.Test.YtgplmbchlahbkaaWire10
namespace Go.Proofs.Ytgplmbchlahbkaa
open Go Go.Sort Go.RowKit
set_option linter.unusedVariables false

set_option maxRecDepth 8000 in
set_option maxHeartbeats 8000000 in
theorem walk_WireMay {m1 m2 : MsD} {p1 p2 : Option Addr} {n1 n2 k1 k2 : Nat} {L1 L2 : List EnD} {w : World} (o1 : MsOk m1) (s1 : SlS 7 w p1 n1 k1 (L1.map enL)) (q1 : ∀ e ∈ L1, EnOk e) (o2 : MsOk m2) (s2 : SlS 7 w p2 n2 k2 (L2.map enL)) (q2 : ∀ e ∈ L2, EnOk e) :
    Calls Try.prog 8 #[msV m1 p1 n1 k1, msV m2 p2 n2 k2] w fun e w' => e = .returned (.bool true) ∧ Below w.heap.size w w' := by
  obtain ⟨w0, hw0⟩ : ∃ w0, w0 = (w.alloc (.cells (msA m1 p1 n1 k1) 31)).alloc (.cells (msA m2 p2 n2 k2) 31) := ⟨_, rfl⟩
  have TA : Hid (BoxV w0 w.heap.size w.heap.size (msL m1 p1 n1 k1)) := Lib.hid (by rw [hw0]; exact (BoxV.new w w.heap.size (msA m1 p1 n1 k1) (msL m1 p1 n1 k1) 31 _ rfl (Nat.le_refl _) rfl).ext (Ext.alloc _ _))
  have TB : Hid (BoxV w0 w.heap.size (w.heap.size + 1) (msL m2 p2 n2 k2)) := Lib.hid (by rw [hw0]; exact BoxV.new (w.alloc (.cells (msA m1 p1 n1 k1) 31)) w.heap.size (msA m2 p2 n2 k2) (msL m2 p2 n2 k2) 31 (w.heap.size + 1) (by simp) (by omega) rfl)
  have X : Hid (Ext w w0) := Lib.hid (by rw [hw0]; exact (Ext.alloc w _).tr (Ext.alloc _ _))
  have S1 := Lib.hid s1
  have S2 := Lib.hid s2
  have Q1 := Lib.hid q1
  have Q2 := Lib.hid q2
  have OKA := Lib.hid o1
  have OKB := Lib.hid o2
  clear s1 s2 q1 q2 o1 o2
  go_enter Try.func8, Try.ntmps8
  go_wp2_with fail
  change Calls _ _ _ ((w.alloc (.cells (msA m1 p1 n1 k1) 31)).alloc (.cells (msA m2 p2 n2 k2) 31)) _
  rw [← hw0]
  clear hw0
  refine (begun16 _).mono ?_
  rintro e w1 ⟨rfl, x1⟩
  replace X := Lib.hid (X.out.tr x1)
  replace TA := Lib.hid (TA.out.ext x1)
  replace TB := Lib.hid (TB.out.ext x1)
  clear x1
  go_wp2_with fail
  have KA := Lib.hid (TA.out.ext (Ext.drew w1))
  have KB := Lib.hid (TB.out.ext (Ext.drew w1))
  have r0 := fun d os => Ext.cell (Ext.reg w1.drew d os) (KA.out.c 0 _ rfl)
  have r1 := fun d os => Ext.cell (Ext.reg w1.drew d os) (KA.out.c 1 _ rfl)
  have r2 := fun d os => Ext.cell (Ext.reg w1.drew d os) (KA.out.c 2 _ rfl)
  have r3 := fun d os => Ext.cell (Ext.reg w1.drew d os) (KA.out.c 3 _ rfl)
  have r4 := fun d os => Ext.cell (Ext.reg w1.drew d os) (KA.out.c 4 _ rfl)
  have r5 := fun d os => Ext.cell (Ext.reg w1.drew d os) (KA.out.c 5 _ rfl)
  have r6 := fun d os => Ext.cell (Ext.reg w1.drew d os) (KA.out.c 6 _ rfl)
  have r7 := fun d os => Ext.cell (Ext.reg w1.drew d os) (KA.out.c 7 _ rfl)
  have r8 := fun d os => Ext.cell (Ext.reg w1.drew d os) (KA.out.c 8 _ rfl)
  have r9 := fun d os => Ext.cell (Ext.reg w1.drew d os) (KA.out.c 9 _ rfl)
  have r10 := fun d os => Ext.cell (Ext.reg w1.drew d os) (KA.out.c 10 _ rfl)
  have r11 := fun d os => Ext.cell (Ext.reg w1.drew d os) (KA.out.c 11 _ rfl)
  have r12 := fun d os => Ext.cell (Ext.reg w1.drew d os) (KA.out.c 12 _ rfl)
  try simp only at r0 r1 r2 r3 r4 r5 r6 r7 r8 r9 r10 r11 r12
  have s0 := fun d os => Ext.cell (Ext.reg w1.drew d os) (KB.out.c 0 _ rfl)
  have s1 := fun d os => Ext.cell (Ext.reg w1.drew d os) (KB.out.c 1 _ rfl)
  have s2 := fun d os => Ext.cell (Ext.reg w1.drew d os) (KB.out.c 2 _ rfl)
  have s3 := fun d os => Ext.cell (Ext.reg w1.drew d os) (KB.out.c 3 _ rfl)
  have s4 := fun d os => Ext.cell (Ext.reg w1.drew d os) (KB.out.c 4 _ rfl)
  have s5 := fun d os => Ext.cell (Ext.reg w1.drew d os) (KB.out.c 5 _ rfl)
  have s6 := fun d os => Ext.cell (Ext.reg w1.drew d os) (KB.out.c 6 _ rfl)
  have s7 := fun d os => Ext.cell (Ext.reg w1.drew d os) (KB.out.c 7 _ rfl)
  have s8 := fun d os => Ext.cell (Ext.reg w1.drew d os) (KB.out.c 8 _ rfl)
  have s9 := fun d os => Ext.cell (Ext.reg w1.drew d os) (KB.out.c 9 _ rfl)
  have s10 := fun d os => Ext.cell (Ext.reg w1.drew d os) (KB.out.c 10 _ rfl)
  have s11 := fun d os => Ext.cell (Ext.reg w1.drew d os) (KB.out.c 11 _ rfl)
  have s12 := fun d os => Ext.cell (Ext.reg w1.drew d os) (KB.out.c 12 _ rfl)
  try simp only at s0 s1 s2 s3 s4 s5 s6 s7 s8 s9 s10 s11 s12
  refine ra_start [0, 2, 1, 3] [4, 5] (by kernel_rfl) (by kernel_rfl) (fun _ _ d _ _ h => by cases d <;> exact h) ?_
  repeat (first | (refine ra_quiet rfl (by rfl) (by rfl) (fun K hK => ?_); go_big_quiet_op; refine hK _ ?_; clear hK K) | (refine ra_skip rfl (by rfl) (fun K hK => ?_); go_big_quiet_op; refine hK _ ?_; clear hK K))
  clear r0 r1 r2 r3 r4 r5 r6 r7 r8 r9 r10 r11 r12
  clear s0 s1 s2 s3 s4 s5 s6 s7 s8 s9 s10 s11 s12
  refine ra_call rfl (by rfl) (by rfl) (fun K hK => ?_)
  go_simp
  refine (wcut_any (S1.out.ext (X.out.tr (Ext.drew w1))) Q1.out).mono ?_
  rintro e2 w2 ⟨M1, p3, c3, rfl, hM1, u1, v1, x2⟩
  refine hK _ _ x2 ?_
  clear hK K
  have E2 := Lib.hid ((Ext.drew w1).tr x2)
  have U1 := Lib.hid u1
  have V1 := Lib.hid v1
  clear x2 u1 v1 KA KB
  refine ra_call rfl (by rfl) (by rfl) (fun K hK => ?_)
  go_simp
  refine (wcut_any (S2.out.ext (X.out.tr E2.out)) Q2.out).mono ?_
  rintro e3 w3 ⟨M2, p4, c4, rfl, hM2, u2, v2, x3⟩
  refine hK _ _ x3 ?_
  clear hK K
  replace U1 := Lib.hid (U1.out.ext x3)
  have U2 := Lib.hid u2
  have V2 := Lib.hid v2
  have G1 := Lib.hid (X.out.tr (Ext.drew w1)).size
  have G2 := Lib.hid (X.out.tr E2.out).size
  have GT := Lib.hid (TB.out.hi)
  have GE := Lib.hid E2.out.size
  replace X := Lib.hid (X.out.tr (E2.out.tr x3))
  replace TA := Lib.hid (TA.out.ext (E2.out.tr x3))
  replace TB := Lib.hid (TB.out.ext (E2.out.tr x3))
  clear x3 E2 u2 v2 S1 S2
  refine ra_nil ?_
  have b0 := TA.out.c 0 _ rfl
  have b1 := TA.out.c 1 _ rfl
  have b2 := TA.out.c 2 _ rfl
  have b3 := TA.out.c 3 _ rfl
  have b4 := TA.out.c 4 _ rfl
  have b5 := TA.out.c 5 _ rfl
  have b6 := TA.out.c 6 _ rfl
  have b7 := TA.out.c 7 _ rfl
  have b8 := TA.out.c 8 _ rfl
  have b9 := TA.out.c 9 _ rfl
  have b10 := TA.out.c 10 _ rfl
  have b11 := TA.out.c 11 _ rfl
  have b12 := TA.out.c 12 _ rfl
  try simp only at b0 b1 b2 b3 b4 b5 b6 b7 b8 b9 b10 b11 b12
  have bf := TA.out.f
  refine rt_op rfl (by rfl) (fun K hK => ?_)
  go_simp
  refine hK _ _ ?_
  clear hK K bf
  clear b0 b1 b2 b3 b4 b5 b6 b7 b8 b9 b10 b11 b12
  have FA := Lib.hid (TA.out.fill (vs := msL m1 p3 M1.length c3) (Nat.le_refl _))
  have FG := Lib.hid (fillV_grown w.heap.size (msL m1 p3 M1.length c3) 0 w3 w3 (grown_refl _ _))
  have FB := Lib.hid (TB.out.other FG.out (by simp))
  have FX := Lib.hid (fillV_below X.out (Nat.le_refl _) (msL m1 p3 M1.length c3) 0)
  have FU1 := Lib.hid (U1.out.kept FG.out (fun k hk => by
    cases hk
    intro hc
    have h1 := U1.out.lt _ hc
    have h2 : w1.drew.heap.size = w1.heap.size := rfl
    have h3 := GT.out
    omega))
  have FU2 := Lib.hid (U2.out.kept FG.out (fun k hk => by
    cases hk
    intro hc
    have h1 := U2.out.lt _ hc
    have h2 : w1.drew.heap.size = w1.heap.size := rfl
    have h3 := GT.out
    have h4 := GE.out
    omega))
  change RT _ _ _ _ _ (fillV w3 w.heap.size 0 (msL m1 p3 M1.length c3))
  clear FG TA TB X U1 U2
  generalize fillV w3 w.heap.size 0 (msL m1 p3 M1.length c3) = w4 at *
  have b0 := FB.out.c 0 _ rfl
  have b1 := FB.out.c 1 _ rfl
  have b2 := FB.out.c 2 _ rfl
  have b3 := FB.out.c 3 _ rfl
  have b4 := FB.out.c 4 _ rfl
  have b5 := FB.out.c 5 _ rfl
  have b6 := FB.out.c 6 _ rfl
  have b7 := FB.out.c 7 _ rfl
  have b8 := FB.out.c 8 _ rfl
  have b9 := FB.out.c 9 _ rfl
  have b10 := FB.out.c 10 _ rfl
  have b11 := FB.out.c 11 _ rfl
  have b12 := FB.out.c 12 _ rfl
  try simp only at b0 b1 b2 b3 b4 b5 b6 b7 b8 b9 b10 b11 b12
  have bf := FB.out.f
  refine rt_op rfl (by rfl) (fun K hK => ?_)
  go_simp
  refine hK _ _ ?_
  clear hK K bf
  clear b0 b1 b2 b3 b4 b5 b6 b7 b8 b9 b10 b11 b12
  refine rt_nil ?_
  have B0 := Lib.hid (FB.out.fill (vs := msL m2 p4 M2.length c4) (Nat.le_refl _))
  have FG := Lib.hid (fillV_grown (w.heap.size + 1) (msL m2 p4 M2.length c4) 0 w4 w4 (grown_refl _ _))
  have A0 := Lib.hid (FA.out.other FG.out (by simp))
  have GX := Lib.hid (fillV_below FX.out (show w.heap.size ≤ w.heap.size + 1 by omega) (msL m2 p4 M2.length c4) 0)
  have U1 := Lib.hid (FU1.out.kept FG.out (fun k hk => by
    cases hk
    intro hc
    have h1 := FU1.out.lt _ hc
    have h2 : w1.drew.heap.size = w1.heap.size := rfl
    have h3 := GT.out
    omega)).sl
  have U2 := Lib.hid (FU2.out.kept FG.out (fun k hk => by
    cases hk
    intro hc
    have h1 := FU2.out.lt _ hc
    have h2 : w1.drew.heap.size = w1.heap.size := rfl
    have h3 := GT.out
    have h4 := GE.out
    omega)).sl
  change Exit.then _ _ _ _ (fillV w4 (w.heap.size + 1) 0 (msL m2 p4 M2.length c4))
  clear FG FA FB FX FU1 FU2
  generalize fillV w4 (w.heap.size + 1) 0 (msL m2 p4 M2.length c4) = w5 at *
  have R1 := Lib.hid (fun w (h : Ext w5 w) => wmay_any (m := m1) (p := p3) (n := M1.length) (cap := c3) OKA.out (U1.out.ext h) V1.out)
  have R2 := Lib.hid (fun w (h : Ext w5 w) => rmaym_any (m := m1) (p := p3) (n := M1.length) (cap := c3) (U1.out.ext h) V1.out)
  have R3 := Lib.hid (fun w (h : Ext w5 w) => weq_any (a := m1) (b := m2) (U1.out.ext h) (U2.out.ext h))
  have R4 := Lib.hid (fun w (h : Ext w5 w) => reqm_any (a := m1) (b := m2) (U1.out.ext h) (U2.out.ext h))
  have r5 := fun w (h : Ext w5 w) => weq_any (a := m1) (b := m1) (U1.out.ext h) (U1.out.ext h)
  rw [show eqM m1 M1 m1 M1 = true from (eqM_iff _ _ _ _).2 ⟨rfl, rfl⟩] at r5
  have R5 := Lib.hid r5
  clear r5
  generalize mayM m1 M1 = B1 at *
  generalize eqM m1 M1 m2 M2 = B2 at *
  go_wp2_with fail
  refine rw_start [0, 2, 1, 3, 4, 5, 6, 7, 9, 10, 8, 11, 12, 13, 14, 15, 16, 17, 18, 19] (by kernel_rfl) (by kernel_rfl) (fun _ _ d _ _ h => by cases d <;> exact h) ?_
  have XC := Lib.hid (Ext.drew w5)
  have KA := Lib.hid (A0.out.ext XC.out)
  have r0 := fun d os => Ext.cell (Ext.reg w5.drew d os) (KA.out.c 0 _ rfl)
  have r1 := fun d os => Ext.cell (Ext.reg w5.drew d os) (KA.out.c 1 _ rfl)
  have r2 := fun d os => Ext.cell (Ext.reg w5.drew d os) (KA.out.c 2 _ rfl)
  have r3 := fun d os => Ext.cell (Ext.reg w5.drew d os) (KA.out.c 3 _ rfl)
  have r4 := fun d os => Ext.cell (Ext.reg w5.drew d os) (KA.out.c 4 _ rfl)
  have r5 := fun d os => Ext.cell (Ext.reg w5.drew d os) (KA.out.c 5 _ rfl)
  have r6 := fun d os => Ext.cell (Ext.reg w5.drew d os) (KA.out.c 6 _ rfl)
  have r7 := fun d os => Ext.cell (Ext.reg w5.drew d os) (KA.out.c 7 _ rfl)
  have r8 := fun d os => Ext.cell (Ext.reg w5.drew d os) (KA.out.c 8 _ rfl)
  have r9 := fun d os => Ext.cell (Ext.reg w5.drew d os) (KA.out.c 9 _ rfl)
  have r10 := fun d os => Ext.cell (Ext.reg w5.drew d os) (KA.out.c 10 _ rfl)
  have r11 := fun d os => Ext.cell (Ext.reg w5.drew d os) (KA.out.c 11 _ rfl)
  have r12 := fun d os => Ext.cell (Ext.reg w5.drew d os) (KA.out.c 12 _ rfl)
  try simp only at r0 r1 r2 r3 r4 r5 r6 r7 r8 r9 r10 r11 r12
  repeat (first | (refine rw_quiet rfl (by rfl) (by rfl) (fun K hK => ?_); go_big_quiet_op; refine hK _ ?_; clear hK K) | (refine rw_skip rfl (by rfl) (fun K hK => ?_); go_big_quiet_op; refine hK _ ?_; clear hK K))
  clear r0 r1 r2 r3 r4 r5 r6 r7 r8 r9 r10 r11 r12
  clear KA
  refine rw_call rfl (by rfl) (by rfl) (fun K hK => ?_)
  go_simp
  refine (R1.out _ XC.out).mono ?_
  rintro e w6 ⟨rfl, x1⟩
  refine hK _ _ x1 ?_
  clear hK K
  replace XC := Lib.hid (XC.out.tr x1)
  clear x1
  refine rw_call rfl (by rfl) (by rfl) (fun K hK => ?_)
  go_simp
  refine (R2.out _ XC.out).mono ?_
  rintro e w7 ⟨rfl, x1⟩
  refine hK _ _ x1 ?_
  clear hK K
  replace XC := Lib.hid (XC.out.tr x1)
  clear x1
  have KA := Lib.hid (A0.out.ext XC.out)
  have r0 := fun d os => Ext.cell (Ext.reg w7 d os) (KA.out.c 0 _ rfl)
  have r1 := fun d os => Ext.cell (Ext.reg w7 d os) (KA.out.c 1 _ rfl)
  have r2 := fun d os => Ext.cell (Ext.reg w7 d os) (KA.out.c 2 _ rfl)
  have r3 := fun d os => Ext.cell (Ext.reg w7 d os) (KA.out.c 3 _ rfl)
  have r4 := fun d os => Ext.cell (Ext.reg w7 d os) (KA.out.c 4 _ rfl)
  have r5 := fun d os => Ext.cell (Ext.reg w7 d os) (KA.out.c 5 _ rfl)
  have r6 := fun d os => Ext.cell (Ext.reg w7 d os) (KA.out.c 6 _ rfl)
  have r7 := fun d os => Ext.cell (Ext.reg w7 d os) (KA.out.c 7 _ rfl)
  have r8 := fun d os => Ext.cell (Ext.reg w7 d os) (KA.out.c 8 _ rfl)
  have r9 := fun d os => Ext.cell (Ext.reg w7 d os) (KA.out.c 9 _ rfl)
  have r10 := fun d os => Ext.cell (Ext.reg w7 d os) (KA.out.c 10 _ rfl)
  have r11 := fun d os => Ext.cell (Ext.reg w7 d os) (KA.out.c 11 _ rfl)
  have r12 := fun d os => Ext.cell (Ext.reg w7 d os) (KA.out.c 12 _ rfl)
  try simp only at r0 r1 r2 r3 r4 r5 r6 r7 r8 r9 r10 r11 r12
  have KB := Lib.hid (B0.out.ext XC.out)
  have s0 := fun d os => Ext.cell (Ext.reg w7 d os) (KB.out.c 0 _ rfl)
  have s1 := fun d os => Ext.cell (Ext.reg w7 d os) (KB.out.c 1 _ rfl)
  have s2 := fun d os => Ext.cell (Ext.reg w7 d os) (KB.out.c 2 _ rfl)
  have s3 := fun d os => Ext.cell (Ext.reg w7 d os) (KB.out.c 3 _ rfl)
  have s4 := fun d os => Ext.cell (Ext.reg w7 d os) (KB.out.c 4 _ rfl)
  have s5 := fun d os => Ext.cell (Ext.reg w7 d os) (KB.out.c 5 _ rfl)
  have s6 := fun d os => Ext.cell (Ext.reg w7 d os) (KB.out.c 6 _ rfl)
  have s7 := fun d os => Ext.cell (Ext.reg w7 d os) (KB.out.c 7 _ rfl)
  have s8 := fun d os => Ext.cell (Ext.reg w7 d os) (KB.out.c 8 _ rfl)
  have s9 := fun d os => Ext.cell (Ext.reg w7 d os) (KB.out.c 9 _ rfl)
  have s10 := fun d os => Ext.cell (Ext.reg w7 d os) (KB.out.c 10 _ rfl)
  have s11 := fun d os => Ext.cell (Ext.reg w7 d os) (KB.out.c 11 _ rfl)
  have s12 := fun d os => Ext.cell (Ext.reg w7 d os) (KB.out.c 12 _ rfl)
  try simp only at s0 s1 s2 s3 s4 s5 s6 s7 s8 s9 s10 s11 s12
  repeat (first | (refine rw_quiet rfl (by rfl) (by rfl) (fun K hK => ?_); go_big_quiet_op; refine hK _ ?_; clear hK K) | (refine rw_skip rfl (by rfl) (fun K hK => ?_); go_big_quiet_op; refine hK _ ?_; clear hK K))
  clear r0 r1 r2 r3 r4 r5 r6 r7 r8 r9 r10 r11 r12
  clear s0 s1 s2 s3 s4 s5 s6 s7 s8 s9 s10 s11 s12
  clear KA KB
  refine rw_call rfl (by rfl) (by rfl) (fun K hK => ?_)
  go_simp
  refine (R3.out _ XC.out).mono ?_
  rintro e w8 ⟨rfl, x1⟩
  refine hK _ _ x1 ?_
  clear hK K
  replace XC := Lib.hid (XC.out.tr x1)
  clear x1
  refine rw_call rfl (by rfl) (by rfl) (fun K hK => ?_)
  go_simp
  refine (R4.out _ XC.out).mono ?_
  rintro e w9 ⟨rfl, x1⟩
  refine hK _ _ x1 ?_
  clear hK K
  replace XC := Lib.hid (XC.out.tr x1)
  clear x1
  have KA := Lib.hid (A0.out.ext XC.out)
  have r0 := fun d os => Ext.cell (Ext.reg w9 d os) (KA.out.c 0 _ rfl)
  have r1 := fun d os => Ext.cell (Ext.reg w9 d os) (KA.out.c 1 _ rfl)
  have r2 := fun d os => Ext.cell (Ext.reg w9 d os) (KA.out.c 2 _ rfl)
  have r3 := fun d os => Ext.cell (Ext.reg w9 d os) (KA.out.c 3 _ rfl)
  have r4 := fun d os => Ext.cell (Ext.reg w9 d os) (KA.out.c 4 _ rfl)
  have r5 := fun d os => Ext.cell (Ext.reg w9 d os) (KA.out.c 5 _ rfl)
  have r6 := fun d os => Ext.cell (Ext.reg w9 d os) (KA.out.c 6 _ rfl)
  have r7 := fun d os => Ext.cell (Ext.reg w9 d os) (KA.out.c 7 _ rfl)
  have r8 := fun d os => Ext.cell (Ext.reg w9 d os) (KA.out.c 8 _ rfl)
  have r9 := fun d os => Ext.cell (Ext.reg w9 d os) (KA.out.c 9 _ rfl)
  have r10 := fun d os => Ext.cell (Ext.reg w9 d os) (KA.out.c 10 _ rfl)
  have r11 := fun d os => Ext.cell (Ext.reg w9 d os) (KA.out.c 11 _ rfl)
  have r12 := fun d os => Ext.cell (Ext.reg w9 d os) (KA.out.c 12 _ rfl)
  try simp only at r0 r1 r2 r3 r4 r5 r6 r7 r8 r9 r10 r11 r12
  repeat (first | (refine rw_quiet rfl (by rfl) (by rfl) (fun K hK => ?_); go_big_quiet_op; refine hK _ ?_; clear hK K) | (refine rw_skip rfl (by rfl) (fun K hK => ?_); go_big_quiet_op; refine hK _ ?_; clear hK K))
  clear r0 r1 r2 r3 r4 r5 r6 r7 r8 r9 r10 r11 r12
  clear KA
  refine rw_call rfl (by rfl) (by rfl) (fun K hK => ?_)
  go_simp
  refine (R5.out _ XC.out).mono ?_
  rintro e w10 ⟨rfl, x1⟩
  refine hK _ _ x1 ?_
  clear hK K
  replace XC := Lib.hid (XC.out.tr x1)
  clear x1
  repeat (first | (refine rw_quiet rfl (by rfl) (by rfl) (fun K hK => ?_); go_big_quiet_op; refine hK _ ?_; clear hK K) | (refine rw_skip rfl (by rfl) (fun K hK => ?_); go_big_quiet_op; refine hK _ ?_; clear hK K))
  refine rw_nil ?_
  go_wp2
  go_ret
  exact ⟨rfl, Ext.tr (GX.out) XC.out⟩
end Go.Proofs.Ytgplmbchlahbkaa
