/-
  Contracts of the statements' Cut, tells, begun of wire; what an argument of a message reads as. Conditions stand at each.
-/
import Derived.Test.YtgplmbchlahbkaaWire9
import Derived.Test.YtgplmbchlahbkaaWire6
import Derived.Test.YtgplmbchlahbkaaWire7
import Derived.Test.YtgplmbchlahbkaaEntry8
import Derived.Deep.DeepCutAuto
namespace Go.Proofs.Ytgplmbchlahbkaa
open Go Go.Sort Go.RowKit
set_option linter.unusedVariables false

set_option maxRecDepth 8000 in
set_option maxHeartbeats 4000000 in
/-- The statements' Cut. -/
theorem wcut_any {w : World} {m : MsD} {p : Option Addr} {n cap : Nat} {L : List EnD} (h : SlS 7 w p n cap (L.map enL)) (hL : ∀ e ∈ L, EnOk e) :
    Calls Try.prog 16 #[msV m p n cap] w fun x w' => ∃ (M : List EnD) (p' : Option Addr) (cap' : Nat), x = .returned (msV m p' M.length cap') ∧ M.length ≤ 62 ∧ OwS 54 7 w' w.heap.size p' M.length cap' (M.map enL) ∧ (∀ e ∈ M, EnOk e) ∧ Ext w w' := by
  obtain ⟨w0, hw0⟩ : ∃ w0, w0 = (w.alloc (.cells (msA m p n cap) 31)).alloc (.cells (msA zeroM none 0 0) 31) := ⟨_, rfl⟩
  have D : Hid (BoxV w0 w.heap.size w.heap.size (msL m p n cap)) := Lib.hid (by rw [hw0]; exact (BoxV.new w w.heap.size (msA m p n cap) (msL m p n cap) 31 _ rfl (Nat.le_refl _) rfl).ext (Ext.alloc _ _))
  have T : Hid (BoxV w0 w.heap.size (w.heap.size + 1) (msL zeroM none 0 0)) := Lib.hid (by rw [hw0]; exact BoxV.new (w.alloc (.cells (msA m p n cap) 31)) w.heap.size (msA zeroM none 0 0) (msL zeroM none 0 0) 31 (w.heap.size + 1) (by simp) (by omega) rfl)
  have X : Hid (Ext w w0) := Lib.hid (by rw [hw0]; exact (Ext.alloc w _).tr (Ext.alloc _ _))
  have W0 : Hid (w0.heap.size = w.heap.size + 1 + 1) := Lib.hid (by rw [hw0]; simp)
  have S := Lib.hid (h.ext X.out)
  have HL := Lib.hid hL
  clear h hL
  go_enter Try.func16, Try.ntmps16
  go_wp2_with fail
  change Calls _ _ _ ((w.alloc (.cells (msA m p n cap) 31)).alloc (.cells (msA zeroM none 0 0) 31)) _
  rw [← hw0]
  clear hw0
  refine (lentries_any 62 (by omega) S.out HL.out).mono ?_
  rintro x w2 ⟨M, p', cap', rfl, hM, o2, hok, x2⟩
  have O2 := Lib.hid o2
  have OK2 := Lib.hid hok
  have D2 := Lib.hid (D.out.ext x2)
  have T2 := Lib.hid (T.out.ext x2)
  have X2 := Lib.hid (X.out.tr x2)
  have HG := Lib.hid x2.size
  clear o2 hok x2 D T X S
  have hlt : w.heap.size < w2.heap.size := by have := HG.out; have := W0.out; omega
  have c0 := D2.out.c 0 _ rfl
  have c1 := D2.out.c 1 _ rfl
  have c2 := D2.out.c 2 _ rfl
  have c3 := D2.out.c 3 _ rfl
  have c4 := D2.out.c 4 _ rfl
  have c5 := D2.out.c 5 _ rfl
  have c6 := D2.out.c 6 _ rfl
  have c7 := D2.out.c 7 _ rfl
  have c8 := D2.out.c 8 _ rfl
  have c9 := D2.out.c 9 _ rfl
  have c10 := D2.out.c 10 _ rfl
  have c11 := D2.out.c 11 _ rfl
  have c12 := D2.out.c 12 _ rfl
  try simp only at c0 c1 c2 c3 c4 c5 c6 c7 c8 c9 c10 c11 c12
  have cf := D2.out.f
  go_upto_region 2 with fail
  obtain ⟨w3, hw3⟩ : ∃ w3, w3 = w2.setCell ⟨w.heap.size, 8, none⟩ (.slice p' M.length cap') := ⟨_, rfl⟩
  have D3 : Hid (BoxV w3 w.heap.size w.heap.size (msL m p' M.length cap')) := Lib.hid (by rw [hw3]; exact D2.out.put 8 _)
  have G3 : Hid (w2.grownBy w3 (some w.heap.size)) := Lib.hid (by rw [hw3]; exact grown_put (grown_refl _ _) 8 _)
  have X3 : Hid (Ext w w3) := Lib.hid (by rw [hw3]; exact X2.out.setCell (Nat.le_refl _) _)
  have T3 := Lib.hid (T2.out.other G3.out (by simp))
  change Code.wp _ _ _ _ (w2.setCell ⟨w.heap.size, 8, none⟩ (.slice p' M.length cap'))
  rw [← hw3]
  clear c0 c1 c2 c3 c4 c5 c6 c7 c8 c9 c10 c11 c12
  clear cf hw3 D2 X2 T2
  have d0 := D3.out.c 0 _ rfl
  have d1 := D3.out.c 1 _ rfl
  have d2 := D3.out.c 2 _ rfl
  have d3 := D3.out.c 3 _ rfl
  have d4 := D3.out.c 4 _ rfl
  have d5 := D3.out.c 5 _ rfl
  have d6 := D3.out.c 6 _ rfl
  have d7 := D3.out.c 7 _ rfl
  have d8 := D3.out.c 8 _ rfl
  have d9 := D3.out.c 9 _ rfl
  have d10 := D3.out.c 10 _ rfl
  have d11 := D3.out.c 11 _ rfl
  have d12 := D3.out.c 12 _ rfl
  try simp only at d0 d1 d2 d3 d4 d5 d6 d7 d8 d9 d10 d11 d12
  have b0 := T3.out.c 0 _ rfl
  have b1 := T3.out.c 1 _ rfl
  have b2 := T3.out.c 2 _ rfl
  have b3 := T3.out.c 3 _ rfl
  have b4 := T3.out.c 4 _ rfl
  have b5 := T3.out.c 5 _ rfl
  have b6 := T3.out.c 6 _ rfl
  have b7 := T3.out.c 7 _ rfl
  have b8 := T3.out.c 8 _ rfl
  have b9 := T3.out.c 9 _ rfl
  have b10 := T3.out.c 10 _ rfl
  have b11 := T3.out.c 11 _ rfl
  have b12 := T3.out.c 12 _ rfl
  try simp only at b0 b1 b2 b3 b4 b5 b6 b7 b8 b9 b10 b11 b12
  have bf := T3.out.f
  go_wp2
  obtain ⟨w9, hw9⟩ : ∃ w9, w9 = fillV w3 (w.heap.size + 1) 0 (msL m p' M.length cap') := ⟨_, rfl⟩
  change bodyPost _ _ _ Exit.ret _ (fillV w3 (w.heap.size + 1) 0 (msL m p' M.length cap'))
  have FB := Lib.hid (T3.out.fill (vs := msL m p' M.length cap') (Nat.le_refl _))
  have FX := Lib.hid (fillV_below X3.out (show w.heap.size ≤ w.heap.size + 1 by omega) (msL m p' M.length cap') 0)
  have FO := Lib.hid (((O2.out.kept G3.out (fun k hk => by
      cases hk
      intro hc
      have := O2.out.lt _ hc
      have := W0.out
      omega)).kept (fillV_grown (w.heap.size + 1) (msL m p' M.length cap') 0 w3 w3 (grown_refl _ _)) (fun k hk => by
      cases hk
      intro hc
      have := O2.out.lt _ hc
      have := W0.out
      omega)).mono (show w.heap.size ≤ w0.heap.size by have := W0.out; omega))
  rw [← hw9] at FB FX FO ⊢
  have f0 := FB.out.c 0 _ rfl
  have f1 := FB.out.c 1 _ rfl
  have f2 := FB.out.c 2 _ rfl
  have f3 := FB.out.c 3 _ rfl
  have f4 := FB.out.c 4 _ rfl
  have f5 := FB.out.c 5 _ rfl
  have f6 := FB.out.c 6 _ rfl
  have f7 := FB.out.c 7 _ rfl
  have f8 := FB.out.c 8 _ rfl
  have f9 := FB.out.c 9 _ rfl
  have f10 := FB.out.c 10 _ rfl
  have f11 := FB.out.c 11 _ rfl
  have f12 := FB.out.c 12 _ rfl
  try simp only at f0 f1 f2 f3 f4 f5 f6 f7 f8 f9 f10 f11 f12
  exact bodyPost_ret (v := msV m p' M.length cap') (by simp [results, Try.results16, go_sem, f0, f1, f2, f3, f4, f5, f6, f7, f8, f9, f10, f11, f12]) rfl ⟨M, p', cap', rfl, hM, FO.out, (fun e he => (OK2.out e he).1), FX.out⟩

set_option maxRecDepth 8000 in
set_option maxHeartbeats 4000000 in
/-- The statements' tells: true at any bytes. -/
theorem wtells_any {w : World} {p : Option Addr} {n cap : Nat} {b : List UInt8} (h : SlP w p n cap b) (hn : n ≤ 6000) :
    Calls Try.prog 31 #[.slice p n cap] w fun x w' => x = .returned (.bool true) ∧ Ext w w' := by
  have H := Lib.hid h
  have HN := Lib.hid h.len
  clear h
  have DC := Lib.hid (fun (w : World) (h : SlP w p n cap b) => wdecode_any h hn)
  cases hd : decM b with
  | none =>
    rw [hd] at DC
    clear hd
    go_enter Try.func31, Try.ntmps31
    go_wp2_with fail
    refine (DC.out _ H.out).mono ?_
    rintro e w2 ⟨rfl, x2⟩
    simp only [zeroM]
    have X2 := Lib.hid (x2.tr (Ext.alloc w2 (.cells (msA zeroM none 0 0) 31)))
    clear x2
    go_wp2
    go_ret
    exact ⟨rfl, X2.out⟩
  | some R =>
    obtain ⟨m, L⟩ := R
    rw [hd] at DC
    have EN := Lib.hid (decM_some hd).1
    clear hd
    obtain ⟨kd, fr, tt, bt, vw, ls, mb, po, cm, nm, ck, ye⟩ := m
    go_enter Try.func31, Try.ntmps31
    go_wp2_with fail
    refine (DC.out _ H.out).mono ?_
    rintro e w2 ⟨p2, c2, rfl, o2, lok, mok, x2⟩
    have X2 := Lib.hid (x2.tr (Ext.alloc w2 (.cells (msA ⟨kd, fr, tt, bt, vw, ls, mb, po, cm, nm, ck, ye⟩ p2 L.length c2) 31)))
    have O2 := Lib.hid (o2.sl.ext (Ext.alloc w2 (.cells (msA ⟨kd, fr, tt, bt, vw, ls, mb, po, cm, nm, ck, ye⟩ p2 L.length c2) 31)))
    have D2 := Lib.hid (BoxV.new w2 w2.heap.size (msA ⟨kd, fr, tt, bt, vw, ls, mb, po, cm, nm, ck, ye⟩ p2 L.length c2) (msL ⟨kd, fr, tt, bt, vw, ls, mb, po, cm, nm, ck, ye⟩ p2 L.length c2) 31 _ rfl (Nat.le_refl _) rfl)
    have LOK := Lib.hid lok
    have MOK := Lib.hid mok
    clear o2 x2 lok mok
    obtain ⟨w0, hw0⟩ : ∃ w0, w0 = w2.alloc (.cells (msA ⟨kd, fr, tt, bt, vw, ls, mb, po, cm, nm, ck, ye⟩ p2 L.length c2) 31) := ⟨_, rfl⟩
    rw [← hw0] at X2 O2 D2
    go_wp2_with fail
    change Code.wp _ _ _ _ (w2.alloc (.cells (msA ⟨kd, fr, tt, bt, vw, ls, mb, po, cm, nm, ck, ye⟩ p2 L.length c2) 31))
    rw [← hw0]
    clear hw0
    have cv := fun d os => str_of (H.out.ext ((X2.out.tr (Ext.drew w0)).tr (Ext.reg _ d os)))
    have D1 := Lib.hid (D2.out.ext (Ext.drew w0))
    have r0 := fun d os => Ext.cell (Ext.reg w0.drew d os) (D1.out.c 0 _ rfl)
    have r1 := fun d os => Ext.cell (Ext.reg w0.drew d os) (D1.out.c 1 _ rfl)
    have r2 := fun d os => Ext.cell (Ext.reg w0.drew d os) (D1.out.c 2 _ rfl)
    have r3 := fun d os => Ext.cell (Ext.reg w0.drew d os) (D1.out.c 3 _ rfl)
    have r4 := fun d os => Ext.cell (Ext.reg w0.drew d os) (D1.out.c 4 _ rfl)
    have r5 := fun d os => Ext.cell (Ext.reg w0.drew d os) (D1.out.c 5 _ rfl)
    have r6 := fun d os => Ext.cell (Ext.reg w0.drew d os) (D1.out.c 6 _ rfl)
    have r7 := fun d os => Ext.cell (Ext.reg w0.drew d os) (D1.out.c 7 _ rfl)
    have r8 := fun d os => Ext.cell (Ext.reg w0.drew d os) (D1.out.c 8 _ rfl)
    have r9 := fun d os => Ext.cell (Ext.reg w0.drew d os) (D1.out.c 9 _ rfl)
    have r10 := fun d os => Ext.cell (Ext.reg w0.drew d os) (D1.out.c 10 _ rfl)
    have r11 := fun d os => Ext.cell (Ext.reg w0.drew d os) (D1.out.c 11 _ rfl)
    have r12 := fun d os => Ext.cell (Ext.reg w0.drew d os) (D1.out.c 12 _ rfl)
    try simp only at r0 r1 r2 r3 r4 r5 r6 r7 r8 r9 r10 r11 r12
    refine rw_start [0, 3, 4, 1, 2, 5, 6] (by kernel_rfl) (by kernel_rfl) (fun _ _ d _ _ h => by cases d <;> exact h) ?_
    repeat (first | (refine rw_quiet rfl (by rfl) (by rfl) (fun K hK => ?_); go_big_quiet_op; refine hK _ ?_; clear hK K) | (refine rw_skip rfl (by rfl) (fun K hK => ?_); go_big_quiet_op; refine hK _ ?_; clear hK K))
    clear cv
    clear r0 r1 r2 r3 r4 r5 r6 r7 r8 r9 r10 r11 r12
    refine rw_call rfl (by rfl) (by rfl) (fun K hK => ?_)
    go_simp
    refine (rbytesm_any MOK.out (O2.out.ext (Ext.drew w0)) LOK.out).mono ?_
    rw [EN.out]
    rintro e w3 ⟨p3, c3, rfl, o3, x3⟩
    refine hK _ _ x3 ?_
    clear hK K
    have X3 := Lib.hid (X2.out.tr ((Ext.drew w0).tr x3))
    have cv := fun d os => str_of (o3.sl.ext (Ext.reg w3 d os))
    clear o3 x3
    repeat (first | (refine rw_quiet rfl (by rfl) (by rfl) (fun K hK => ?_); go_big_quiet_op; refine hK _ ?_; clear hK K) | (refine rw_skip rfl (by rfl) (fun K hK => ?_); go_big_quiet_op; refine hK _ ?_; clear hK K))
    clear cv
    refine rw_nil ?_
    go_wp2
    go_ret
    exact ⟨rfl, X3.out⟩

theorem decM_nil : decM [] = none := by
  cases h : decM [] with
  | none => rfl
  | some r =>
    obtain ⟨m, L⟩ := r
    obtain ⟨h1, h2, -⟩ := decM_some h
    have := encM_pos h2
    rw [h1] at this
    simp at this
def m16 : MsD := ⟨6, 1, 2, 1, 4, 0, 0, 3, 0, 0, 0, false⟩
theorem ok16 : MsOk m16 := ⟨⟨by decide, by decide⟩, ⟨by decide, by decide⟩, ⟨by decide, by decide⟩, ⟨by decide, by decide⟩, ⟨by decide, by decide⟩, ⟨by decide, by decide⟩, ⟨by decide, by decide⟩, ⟨by decide, by decide⟩, ⟨by decide, by decide⟩, ⟨by decide, by decide⟩, ⟨by decide, by decide⟩⟩
theorem okZM : MsOk zeroM := ⟨⟨by decide, by decide⟩, ⟨by decide, by decide⟩, ⟨by decide, by decide⟩, ⟨by decide, by decide⟩, ⟨by decide, by decide⟩, ⟨by decide, by decide⟩, ⟨by decide, by decide⟩, ⟨by decide, by decide⟩, ⟨by decide, by decide⟩, ⟨by decide, by decide⟩, ⟨by decide, by decide⟩⟩
set_option maxRecDepth 8000 in
set_option maxHeartbeats 4000000 in
/-- The statements' begun of wire. -/
theorem begun16 (w : World) : Calls Try.prog 25 #[] w fun e w' => e = .returned (.bool true) ∧ Ext w w' := by
  have hm : mayM m16 [] = true := by decide
  have DL := Lib.hid (decM_enc ok16 (by simp) hm)
  have hpos := encM_pos hm
  have hlen := encM_len (L := []) ok16 (by simp)
  obtain ⟨B, hB⟩ : ∃ B, B = encM m16 [] := ⟨_, rfl⟩
  have EC := fun w => wencode_any (w := w) ok16 (SlS.empty 7 w) (L := []) (by simp)
  rw [← hB] at hpos hlen DL EC
  have EC := Lib.hid EC
  have HB := Lib.hid hB
  clear hB
  have w1 := fun w => wmay_any (w := w) ok16 (SlS.empty 7 w) (L := []) (by simp)
  rw [hm] at w1
  have W1 := Lib.hid w1
  have w2 := fun w => wmay_any (w := w) okZM (SlS.empty 7 w) (L := []) (by simp)
  rw [show mayM zeroM [] = false by decide] at w2
  have W2 := Lib.hid w2
  have w3 := fun w (p : Option Addr) c (h : SlS 7 w p 0 c (([] : List EnD).map enL)) => weq_any (w := w) (a := m16) (b := m16) (L := []) (M := []) (SlS.empty 7 w) h
  rw [show eqM m16 [] m16 [] = true from (eqM_iff _ _ _ _).2 ⟨rfl, rfl⟩] at w3
  have W3 := Lib.hid w3
  have w4 := fun w => weq_any (w := w) (a := m16) (b := zeroM) (L := []) (M := []) (SlS.empty 7 w) (SlS.empty 7 w)
  rw [show eqM m16 [] zeroM [] = false by decide] at w4
  have W4 := Lib.hid w4
  clear w1 w2 w3 w4 hm
  go_enter Try.func25, Try.ntmps25
  go_wp2_with fail
  have X := Lib.hid (Ext.alloc w (.cells (msA m16 none 0 0) 31))
  have D1 := Lib.hid (BoxV.new w w.heap.size (msA m16 none 0 0) (msL m16 none 0 0) 31 _ rfl (Nat.le_refl _) rfl)
  refine (EC.out _).mono ?_
  rintro e w5 ⟨p5, c5, rfl, o5, -, x5⟩
  replace X := Lib.hid (X.out.tr x5)
  replace D1 := Lib.hid (D1.out.ext x5)
  have O5 := Lib.hid o5
  clear x5 o5
  go_wp2_with fail
  have DC := wdecode_any O5.out.sl (by omega)
  rw [DL.out] at DC
  refine DC.mono ?_
  rintro e w6 ⟨p6, c6, rfl, o6, -, -, x6⟩
  replace X := Lib.hid ((X.out.tr x6).tr (Ext.alloc w6 (.cells (msA m16 p6 0 c6) 31)))
  replace D1 := Lib.hid ((D1.out.ext x6).ext (Ext.alloc w6 (.cells (msA m16 p6 0 c6) 31)))
  have D2 := Lib.hid (BoxV.new w6 w6.heap.size (msA m16 p6 0 c6) (msL m16 p6 0 c6) 31 _ rfl (Nat.le_refl _) rfl)
  have O := Lib.hid (o6.sl.ext (Ext.alloc w6 (.cells (msA m16 p6 0 c6) 31)))
  clear x6 o6 DC
  simp only [m16]
  go_wp2_with fail
  have DC := wdecode_any (SlP.empty (w6.alloc (.cells (msA m16 p6 0 c6) 31))) (by omega)
  rw [decM_nil] at DC
  refine DC.mono ?_
  rintro e w7 ⟨rfl, x6⟩
  replace X := Lib.hid ((X.out.tr x6).tr (Ext.alloc w7 (.cells (msA zeroM none 0 0) 31)))
  replace D1 := Lib.hid ((D1.out.ext x6).ext (Ext.alloc w7 (.cells (msA zeroM none 0 0) 31)))
  replace D2 := Lib.hid ((D2.out.ext x6).ext (Ext.alloc w7 (.cells (msA zeroM none 0 0) 31)))
  replace O := Lib.hid ((O.out.ext x6).ext (Ext.alloc w7 (.cells (msA zeroM none 0 0) 31)))
  clear x6 DC
  simp only [zeroM]
  have hl0 : (0 : Int) < (B.length : Int) := by omega
  obtain ⟨w8, hw8⟩ : ∃ w8, w8 = w7.alloc (.cells (msA zeroM none 0 0) 31) := ⟨_, rfl⟩
  rw [← hw8] at X D1 D2 O
  go_upto_region 5 with fail
  change Code.wp _ _ _ _ (w7.alloc (.cells (msA zeroM none 0 0) 31))
  rw [← hw8]
  clear hw8
  have c0 := D1.out.c 0 _ rfl
  have c1 := D1.out.c 1 _ rfl
  have c2 := D1.out.c 2 _ rfl
  have c3 := D1.out.c 3 _ rfl
  have c4 := D1.out.c 4 _ rfl
  have c5 := D1.out.c 5 _ rfl
  have c6 := D1.out.c 6 _ rfl
  have c7 := D1.out.c 7 _ rfl
  have c8 := D1.out.c 8 _ rfl
  have c9 := D1.out.c 9 _ rfl
  have c10 := D1.out.c 10 _ rfl
  have c11 := D1.out.c 11 _ rfl
  have c12 := D1.out.c 12 _ rfl
  try simp only at c0 c1 c2 c3 c4 c5 c6 c7 c8 c9 c10 c11 c12
  have d0 := D2.out.c 0 _ rfl
  have d1 := D2.out.c 1 _ rfl
  have d2 := D2.out.c 2 _ rfl
  have d3 := D2.out.c 3 _ rfl
  have d4 := D2.out.c 4 _ rfl
  have d5 := D2.out.c 5 _ rfl
  have d6 := D2.out.c 6 _ rfl
  have d7 := D2.out.c 7 _ rfl
  have d8 := D2.out.c 8 _ rfl
  have d9 := D2.out.c 9 _ rfl
  have d10 := D2.out.c 10 _ rfl
  have d11 := D2.out.c 11 _ rfl
  have d12 := D2.out.c 12 _ rfl
  try simp only at d0 d1 d2 d3 d4 d5 d6 d7 d8 d9 d10 d11 d12
  simp only [m16] at c0 c1 c2 c3 c4 c5 c6 c7 c8 c9 c10 c11 c12 d0 d1 d2 d3 d4 d5 d6 d7 d8 d9 d10 d11 d12
  go_wp2_with fail
  clear c0 c1 c2 c3 c4 c5 c6 c7 c8 c9 c10 c11 c12
  clear d0 d1 d2 d3 d4 d5 d6 d7 d8 d9 d10 d11 d12
  refine (W1.out _).mono ?_
  rintro e w9 ⟨rfl, x1⟩
  replace X := Lib.hid (X.out.tr x1)
  replace D1 := Lib.hid (D1.out.ext x1)
  replace D2 := Lib.hid (D2.out.ext x1)
  replace O := Lib.hid (O.out.ext x1)
  clear x1
  have c0 := D1.out.c 0 _ rfl
  have c1 := D1.out.c 1 _ rfl
  have c2 := D1.out.c 2 _ rfl
  have c3 := D1.out.c 3 _ rfl
  have c4 := D1.out.c 4 _ rfl
  have c5 := D1.out.c 5 _ rfl
  have c6 := D1.out.c 6 _ rfl
  have c7 := D1.out.c 7 _ rfl
  have c8 := D1.out.c 8 _ rfl
  have c9 := D1.out.c 9 _ rfl
  have c10 := D1.out.c 10 _ rfl
  have c11 := D1.out.c 11 _ rfl
  have c12 := D1.out.c 12 _ rfl
  try simp only at c0 c1 c2 c3 c4 c5 c6 c7 c8 c9 c10 c11 c12
  have d0 := D2.out.c 0 _ rfl
  have d1 := D2.out.c 1 _ rfl
  have d2 := D2.out.c 2 _ rfl
  have d3 := D2.out.c 3 _ rfl
  have d4 := D2.out.c 4 _ rfl
  have d5 := D2.out.c 5 _ rfl
  have d6 := D2.out.c 6 _ rfl
  have d7 := D2.out.c 7 _ rfl
  have d8 := D2.out.c 8 _ rfl
  have d9 := D2.out.c 9 _ rfl
  have d10 := D2.out.c 10 _ rfl
  have d11 := D2.out.c 11 _ rfl
  have d12 := D2.out.c 12 _ rfl
  try simp only at d0 d1 d2 d3 d4 d5 d6 d7 d8 d9 d10 d11 d12
  simp only [m16] at c0 c1 c2 c3 c4 c5 c6 c7 c8 c9 c10 c11 c12 d0 d1 d2 d3 d4 d5 d6 d7 d8 d9 d10 d11 d12
  go_wp2_with fail
  clear c0 c1 c2 c3 c4 c5 c6 c7 c8 c9 c10 c11 c12
  clear d0 d1 d2 d3 d4 d5 d6 d7 d8 d9 d10 d11 d12
  refine (W2.out _).mono ?_
  rintro e w9 ⟨rfl, x1⟩
  replace X := Lib.hid (X.out.tr x1)
  replace D1 := Lib.hid (D1.out.ext x1)
  replace D2 := Lib.hid (D2.out.ext x1)
  replace O := Lib.hid (O.out.ext x1)
  clear x1
  have c0 := D1.out.c 0 _ rfl
  have c1 := D1.out.c 1 _ rfl
  have c2 := D1.out.c 2 _ rfl
  have c3 := D1.out.c 3 _ rfl
  have c4 := D1.out.c 4 _ rfl
  have c5 := D1.out.c 5 _ rfl
  have c6 := D1.out.c 6 _ rfl
  have c7 := D1.out.c 7 _ rfl
  have c8 := D1.out.c 8 _ rfl
  have c9 := D1.out.c 9 _ rfl
  have c10 := D1.out.c 10 _ rfl
  have c11 := D1.out.c 11 _ rfl
  have c12 := D1.out.c 12 _ rfl
  try simp only at c0 c1 c2 c3 c4 c5 c6 c7 c8 c9 c10 c11 c12
  have d0 := D2.out.c 0 _ rfl
  have d1 := D2.out.c 1 _ rfl
  have d2 := D2.out.c 2 _ rfl
  have d3 := D2.out.c 3 _ rfl
  have d4 := D2.out.c 4 _ rfl
  have d5 := D2.out.c 5 _ rfl
  have d6 := D2.out.c 6 _ rfl
  have d7 := D2.out.c 7 _ rfl
  have d8 := D2.out.c 8 _ rfl
  have d9 := D2.out.c 9 _ rfl
  have d10 := D2.out.c 10 _ rfl
  have d11 := D2.out.c 11 _ rfl
  have d12 := D2.out.c 12 _ rfl
  try simp only at d0 d1 d2 d3 d4 d5 d6 d7 d8 d9 d10 d11 d12
  simp only [m16] at c0 c1 c2 c3 c4 c5 c6 c7 c8 c9 c10 c11 c12 d0 d1 d2 d3 d4 d5 d6 d7 d8 d9 d10 d11 d12
  go_wp2_with fail
  clear c0 c1 c2 c3 c4 c5 c6 c7 c8 c9 c10 c11 c12
  clear d0 d1 d2 d3 d4 d5 d6 d7 d8 d9 d10 d11 d12
  refine (W3.out _ _ _ O.out).mono ?_
  rintro e w9 ⟨rfl, x1⟩
  replace X := Lib.hid (X.out.tr x1)
  replace D1 := Lib.hid (D1.out.ext x1)
  replace D2 := Lib.hid (D2.out.ext x1)
  replace O := Lib.hid (O.out.ext x1)
  clear x1
  have c0 := D1.out.c 0 _ rfl
  have c1 := D1.out.c 1 _ rfl
  have c2 := D1.out.c 2 _ rfl
  have c3 := D1.out.c 3 _ rfl
  have c4 := D1.out.c 4 _ rfl
  have c5 := D1.out.c 5 _ rfl
  have c6 := D1.out.c 6 _ rfl
  have c7 := D1.out.c 7 _ rfl
  have c8 := D1.out.c 8 _ rfl
  have c9 := D1.out.c 9 _ rfl
  have c10 := D1.out.c 10 _ rfl
  have c11 := D1.out.c 11 _ rfl
  have c12 := D1.out.c 12 _ rfl
  try simp only at c0 c1 c2 c3 c4 c5 c6 c7 c8 c9 c10 c11 c12
  have d0 := D2.out.c 0 _ rfl
  have d1 := D2.out.c 1 _ rfl
  have d2 := D2.out.c 2 _ rfl
  have d3 := D2.out.c 3 _ rfl
  have d4 := D2.out.c 4 _ rfl
  have d5 := D2.out.c 5 _ rfl
  have d6 := D2.out.c 6 _ rfl
  have d7 := D2.out.c 7 _ rfl
  have d8 := D2.out.c 8 _ rfl
  have d9 := D2.out.c 9 _ rfl
  have d10 := D2.out.c 10 _ rfl
  have d11 := D2.out.c 11 _ rfl
  have d12 := D2.out.c 12 _ rfl
  try simp only at d0 d1 d2 d3 d4 d5 d6 d7 d8 d9 d10 d11 d12
  simp only [m16] at c0 c1 c2 c3 c4 c5 c6 c7 c8 c9 c10 c11 c12 d0 d1 d2 d3 d4 d5 d6 d7 d8 d9 d10 d11 d12
  go_wp2_with fail
  clear c0 c1 c2 c3 c4 c5 c6 c7 c8 c9 c10 c11 c12
  clear d0 d1 d2 d3 d4 d5 d6 d7 d8 d9 d10 d11 d12
  refine (W4.out _).mono ?_
  rintro e w9 ⟨rfl, x1⟩
  replace X := Lib.hid (X.out.tr x1)
  replace D1 := Lib.hid (D1.out.ext x1)
  replace D2 := Lib.hid (D2.out.ext x1)
  replace O := Lib.hid (O.out.ext x1)
  clear x1
  go_wp2
  go_ret
  exact ⟨rfl, X.out⟩

open Go.ChangeShapes Go.WideShapes Go.Deep
theorem list7 {r : List Value} {a b c d e f g : Value} (h : r.length = 7) (h0 : r[0]? = some a) (h1 : r[1]? = some b) (h2 : r[2]? = some c) (h3 : r[3]? = some d) (h4 : r[4]? = some e) (h5 : r[5]? = some f) (h6 : r[6]? = some g) : r = [a, b, c, d, e, f, g] := by
  match r, h with
  | [x1, x2, x3, x4, x5, x6, x7], _ => simp_all
theorem en_typed {H : Type} {enc : TypeId × Value → H} {w : World} {base : Nat} {spare : Nat → Bool} {held : Bool} {r : List Value} {fs : Array Field} (hfs : Try.prog.underlying 54 = some (.struct fs)) (hlen : r.length = 7)
    (h : ∀ (j : Nat) (f : Field), fs[j]? = some f → ∃ (v : Value) (y : DataW H × List MemPlace) (m : Nat), r[j]? = some v ∧ DataW.trod enc Try.prog w base spare held m f.type [v] = some y) : ∃ e : EnD, r = enL e ∧ EnOk e := by
  have hu := Try.underlying54
  rw [hu] at hfs
  injection hfs with hfs
  injection hfs with hfs
  subst hfs
  obtain ⟨v0, y0, m0, g0, e0⟩ := h 0 _ rfl
  obtain ⟨v1, y1, m1, g1, e1⟩ := h 1 _ rfl
  obtain ⟨v2, y2, m2, g2, e2⟩ := h 2 _ rfl
  obtain ⟨v3, y3, m3, g3, e3⟩ := h 3 _ rfl
  obtain ⟨v4, y4, m4, g4, e4⟩ := h 4 _ rfl
  obtain ⟨v5, y5, m5, g5, e5⟩ := h 5 _ rfl
  obtain ⟨v6, y6, m6, g6, e6⟩ := h 6 _ rfl
  obtain ⟨z0, k0, -, w0⟩ := DataW.trod_int Try.underlying3 e0
  obtain ⟨z1, k1, -, w1⟩ := DataW.trod_int Try.underlying2 e1
  obtain ⟨z2, k2, -, w2⟩ := DataW.trod_int Try.underlying2 e2
  obtain ⟨z3, k3, -, w3⟩ := DataW.trod_int Try.underlying3 e3
  obtain ⟨z4, k4, -, w4⟩ := DataW.trod_int Try.underlying3 e4
  obtain ⟨z5, k5, -, w5⟩ := DataW.trod_int Try.underlying2 e5
  obtain ⟨s6, k6, -, w6⟩ := DataW.trod_string Try.underlying9 e6
  obtain rfl : v0 = .int .i64 z0 := by simpa using k0
  obtain rfl : v1 = .int .i64 z1 := by simpa using k1
  obtain rfl : v2 = .int .i64 z2 := by simpa using k2
  obtain rfl : v3 = .int .i64 z3 := by simpa using k3
  obtain rfl : v4 = .int .i64 z4 := by simpa using k4
  obtain rfl : v5 = .int .i64 z5 := by simpa using k5
  obtain rfl : v6 = .string s6 := by simpa using k6
  exact ⟨⟨z0, z1, z2, z3, z4, z5, s6⟩, list7 hlen g0 g1 g2 g3 g4 g5 g6, bounds_i64 w0, bounds_i64 w1, bounds_i64 w2, bounds_i64 w3, bounds_i64 w4, bounds_i64 w5, by unfold maxLen at w6; exact w6⟩
theorem ens_of_arg {H : Type} {enc : TypeId × Value → H} {w : World} {base : Nat} {spare : Nat → Bool} {held : Bool} {fuel : Nat} {p : Option Addr} {n cap : Nat} {x : DataW H × List MemPlace}
    (h : DataW.trod enc Try.prog w base spare held fuel 29 [.slice p n cap] = some x) : ∃ xs : List EnD, SlS 7 w p n cap (xs.map enL) ∧ ∀ e ∈ xs, EnOk e := by
  obtain ⟨L, hL, hr⟩ := sls_of_arg Try.underlying29 Try.underlying54 (by kernel_rfl) (by kernel_rfl) (by decide) h
  obtain ⟨xs, rfl, hx⟩ := list_typed (E := enL) (ok := EnOk) L (fun r hr' => en_typed Try.underlying54 (hL.wid r hr') (hr r hr'))
  exact ⟨xs, hL, hx⟩

theorem list13 {r : List Value} {v0 v1 v2 v3 v4 v5 v6 v7 v8 v9 v10 v11 v12 : Value} (h : r.length = 13) (h0 : r[0]? = some v0) (h1 : r[1]? = some v1) (h2 : r[2]? = some v2) (h3 : r[3]? = some v3) (h4 : r[4]? = some v4) (h5 : r[5]? = some v5) (h6 : r[6]? = some v6) (h7 : r[7]? = some v7) (h8 : r[8]? = some v8) (h9 : r[9]? = some v9) (h10 : r[10]? = some v10) (h11 : r[11]? = some v11) (h12 : r[12]? = some v12) : r = [v0, v1, v2, v3, v4, v5, v6, v7, v8, v9, v10, v11, v12] := by
  match r, h with
  | [x0, x1, x2, x3, x4, x5, x6, x7, x8, x9, x10, x11, x12], _ => simp_all
theorem ms_typed {H : Type} {enc : TypeId × Value → H} {w : World} {base : Nat} {spare : Nat → Bool} {held : Bool} {r : List Value} {fs : Array Field} (hfs : Try.prog.underlying 31 = some (.struct fs)) (hlen : r.length = 13)
    (h : ∀ (j : Nat) (f : Field), fs[j]? = some f → ∃ (v : Value) (y : DataW H × List MemPlace) (m : Nat), r[j]? = some v ∧ DataW.trod enc Try.prog w base spare held m f.type [v] = some y) : ∃ (m : MsD) (p : Option Addr) (n cap : Nat) (L : List EnD), r = msL m p n cap ∧ MsOk m ∧ SlS 7 w p n cap (L.map enL) ∧ ∀ e ∈ L, EnOk e := by
  have hu := Try.underlying31
  rw [hu] at hfs
  injection hfs with hfs
  injection hfs with hfs
  subst hfs
  obtain ⟨v0, y0, m0, g0, e0⟩ := h 0 _ rfl
  obtain ⟨v1, y1, m1, g1, e1⟩ := h 1 _ rfl
  obtain ⟨v2, y2, m2, g2, e2⟩ := h 2 _ rfl
  obtain ⟨v3, y3, m3, g3, e3⟩ := h 3 _ rfl
  obtain ⟨v4, y4, m4, g4, e4⟩ := h 4 _ rfl
  obtain ⟨v5, y5, m5, g5, e5⟩ := h 5 _ rfl
  obtain ⟨v6, y6, m6, g6, e6⟩ := h 6 _ rfl
  obtain ⟨v7, y7, m7, g7, e7⟩ := h 7 _ rfl
  obtain ⟨v8, y8, m8, g8, e8⟩ := h 8 _ rfl
  obtain ⟨v9, y9, m9, g9, e9⟩ := h 9 _ rfl
  obtain ⟨v10, y10, m10, g10, e10⟩ := h 10 _ rfl
  obtain ⟨v11, y11, m11, g11, e11⟩ := h 11 _ rfl
  obtain ⟨v12, y12, m12, g12, e12⟩ := h 12 _ rfl
  obtain ⟨z0, k0, -, w0⟩ := DataW.trod_int Try.underlying3 e0
  obtain rfl : v0 = .int .i64 z0 := by simpa using k0
  obtain ⟨z1, k1, -, w1⟩ := DataW.trod_int Try.underlying3 e1
  obtain rfl : v1 = .int .i64 z1 := by simpa using k1
  obtain ⟨z2, k2, -, w2⟩ := DataW.trod_int Try.underlying3 e2
  obtain rfl : v2 = .int .i64 z2 := by simpa using k2
  obtain ⟨z3, k3, -, w3⟩ := DataW.trod_int Try.underlying2 e3
  obtain rfl : v3 = .int .i64 z3 := by simpa using k3
  obtain ⟨z4, k4, -, w4⟩ := DataW.trod_int Try.underlying2 e4
  obtain rfl : v4 = .int .i64 z4 := by simpa using k4
  obtain ⟨z5, k5, -, w5⟩ := DataW.trod_int Try.underlying2 e5
  obtain rfl : v5 = .int .i64 z5 := by simpa using k5
  obtain ⟨z6, k6, -, w6⟩ := DataW.trod_int Try.underlying3 e6
  obtain rfl : v6 = .int .i64 z6 := by simpa using k6
  obtain ⟨z7, k7, -, w7⟩ := DataW.trod_int Try.underlying3 e7
  obtain rfl : v7 = .int .i64 z7 := by simpa using k7
  obtain ⟨z9, k9, -, w9⟩ := DataW.trod_int Try.underlying3 e9
  obtain rfl : v9 = .int .i64 z9 := by simpa using k9
  obtain ⟨z10, k10, -, w10⟩ := DataW.trod_int Try.underlying2 e10
  obtain rfl : v10 = .int .i64 z10 := by simpa using k10
  obtain ⟨z11, k11, -, w11⟩ := DataW.trod_int Try.underlying2 e11
  obtain rfl : v11 = .int .i64 z11 := by simpa using k11
  obtain ⟨z12, k12, -⟩ := DataW.trod_bool Try.underlying4 e12
  obtain rfl : v12 = .bool z12 := by simpa using k12
  obtain ⟨p, n, cap, rfl⟩ : ∃ p n cap, v8 = .slice p n cap := by
    rcases open_slice Try.underlying29 e8 with ⟨h0, -⟩ | ⟨a, len, cap', m, fl, D, Pl, hcs, -⟩
    · exact ⟨none, 0, 0, by simpa using h0⟩
    · exact ⟨some a, len, cap', by simpa using hcs⟩
  obtain ⟨L, hL, hok⟩ := ens_of_arg e8
  exact ⟨⟨z0, z1, z2, z3, z4, z5, z6, z7, z9, z10, z11, z12⟩, p, n, cap, L, list13 hlen g0 g1 g2 g3 g4 g5 g6 g7 g8 g9 g10 g11 g12, ⟨bounds_i64 w0, bounds_i64 w1, bounds_i64 w2, bounds_i64 w3, bounds_i64 w4, bounds_i64 w5, bounds_i64 w6, bounds_i64 w7, bounds_i64 w9, bounds_i64 w10, bounds_i64 w11⟩, hL, hok⟩
/-- A message by value. -/
theorem ms_of_arg {H : Type} {enc : TypeId × Value → H} {w : World} {base : Nat} {spare : Nat → Bool} {held : Bool} {r : Reach} {b0 : Nat} {v : Value} {d : DataW H} {p : List MemPlace}
    (hv : Value.okWide Try.prog w r b0 31 v) (h : DataW.Trod enc Try.prog w base spare held 31 v d p) : ∃ (m : MsD) (q : Option Addr) (n cap : Nat) (L : List EnD), v = msV m q n cap ∧ MsOk m ∧ SlS 7 w q n cap (L.map enL) ∧ ∀ e ∈ L, EnOk e := by
  obtain ⟨cs, rfl, hsz⟩ := okWide_struct Try.underlying31 hv
  obtain ⟨fuel, hf⟩ := h
  obtain ⟨xs, n, _, hx, _, hlen, hg⟩ := DataW.trod_struct Try.underlying31 hf
  have hsz2 : cs.toList.length = 13 := by
    have : Try.prog.cellsOf 31 = 13 := by kernel_rfl
    rw [Array.length_toList, hsz, this]
  have key : ∀ fs, Try.prog.underlying 31 = some (.struct fs) → oneCellFields Try.prog fs = true := by
    intro fs hfs
    rw [Try.underlying31] at hfs
    injection hfs with hfs
    injection hfs with hfs
    subst hfs
    kernel_rfl
  have hone := hone_of (key _ Try.underlying31)
  obtain ⟨m, q, k, cap, L, he, hok, hS, hL⟩ := ms_typed (enc := enc) (w := w) (base := base) (spare := spare) (held := held) Try.underlying31 hsz2 (fun j f hj => by
    obtain ⟨o0, k0⟩ := hone j f hj
    have h1 := hg j f hj
    have hjl : j < 13 := (Array.getElem?_eq_some_iff.1 hj).1
    have hce : (Value.agg cs).cells.toList = cs.toList := rfl
    rw [o0, k0, hce] at h1
    have hdt : (cs.toList.drop j).take 1 = [cs.toList[j]'(by omega)] := by
      rw [List.drop_eq_getElem_cons (by omega)]
      rfl
    rw [hdt] at h1
    have hxj : j < xs.length := by rw [hlen]; exact hjl
    rw [List.getElem?_eq_getElem hxj] at h1
    exact ⟨_, _, _, List.getElem?_eq_getElem (by omega), h1⟩)
  refine ⟨m, q, k, cap, L, ?_, hok, hS, hL⟩
  congr 1
  exact Array.toList_inj.1 he
end Go.Proofs.Ytgplmbchlahbkaa
