/-
  Walks of WireAny, WireKinds: whatever the messages, the numbers and the bytes, the law returns true.
-/
import Derived.Test.YtgplmbchlahbkaaWire10
namespace Go.Proofs.Ytgplmbchlahbkaa
open Go Go.Sort Go.RowKit
set_option linter.unusedVariables false

set_option maxRecDepth 8000 in
set_option maxHeartbeats 8000000 in
theorem walk_WireAny {p : Option Addr} {n cap : Nat} {l : List UInt8} {w : World} (h : SlP w p n cap l) :
    Calls Try.prog 10 #[.slice p n cap] w fun e w' => e = .returned (.bool true) ∧ Below w.heap.size w w' := by
  have H := Lib.hid h
  clear h
  have HT := Lib.hid (H.out.take (min n 150) (by omega))
  have SH := Lib.hid (fun (w : World) (h : SlP w p n cap l) => short_any h 150 (by omega))
  have hm : min n 150 ≤ 6000 := by omega
  generalize min n 150 = k at *
  go_enter Try.func10, Try.ntmps10
  go_wp2_with fail
  refine (begun16 w).mono ?_
  rintro e w1 ⟨rfl, x1⟩
  have X := Lib.hid x1
  clear x1
  go_wp2_with fail
  refine (SH.out _ (H.out.ext X.out)).mono ?_
  rintro e w2 ⟨rfl, rfl⟩
  go_wp2_with fail
  refine (wtells_any (HT.out.ext X.out) hm).mono ?_
  rintro e w3 ⟨rfl, x1⟩
  replace X := Lib.hid (X.out.tr x1)
  clear x1
  go_wp2
  go_ret
  exact ⟨rfl, X.out⟩

set_option maxRecDepth 8000 in
set_option maxHeartbeats 8000000 in
theorem walk_WireKinds {a b c d : Int} {w : World} (ha : I64 a) (hb : I64 b) (hc : I64 c) (hd : I64 d) :
    Calls Try.prog 13 #[.int .i64 a, .int .i64 b, .int .i64 c, .int .i64 d] w fun e w' => e = .returned (.bool true) ∧ Below w.heap.size w w' := by
  have OK : Hid (MsOk ⟨a, b, c, d, 0, 0, 0, 0, 0, 0, 0, false⟩) := Lib.hid (have z : I64 0 := ⟨by decide, by decide⟩; ⟨ha, hb, hc, hd, z, z, z, z, z, z, z⟩)
  have EC := Lib.hid (fun w => wencode_any (w := w) OK.out (SlS.empty 7 w) (L := []) (by simp))
  have HL := Lib.hid (encM_len (L := []) OK.out (by simp))
  have rm := fun w => rmaym_any (w := w) (m := ⟨a, b, c, d, 0, 0, 0, 0, 0, 0, 0, false⟩) (SlS.empty 7 w) (L := []) (by simp)
  cases hm : mayM ⟨a, b, c, d, 0, 0, 0, 0, 0, 0, 0, false⟩ []
  · have hno := encM_no hm
    rw [hm] at rm
    have RM := Lib.hid rm
    have NO := Lib.hid hno
    clear rm hm hno ha hb hc hd
    go_enter Try.func13, Try.ntmps13
    go_wp2_with fail
    refine (begun16 w).mono ?_
    rintro e w1 ⟨rfl, x1⟩
    have X := Lib.hid (x1.tr (Ext.alloc w1 (.cells (msA ⟨a, b, c, d, 0, 0, 0, 0, 0, 0, 0, false⟩ none 0 0) 31)))
    have D := Lib.hid (BoxV.new w1 w1.heap.size (msA ⟨a, b, c, d, 0, 0, 0, 0, 0, 0, 0, false⟩ none 0 0) (msL ⟨a, b, c, d, 0, 0, 0, 0, 0, 0, 0, false⟩ none 0 0) 31 _ rfl (Nat.le_refl _) rfl)
    clear x1
    go_wp2_with fail
    refine (EC.out _).mono ?_
    rw [NO.out]
    rintro e w2 ⟨p2, c2, rfl, -, -, x2⟩
    replace X := Lib.hid (X.out.tr x2)
    replace D := Lib.hid (D.out.ext x2)
    clear x2
    have c0 := D.out.c 0 _ rfl
    have c1 := D.out.c 1 _ rfl
    have c2 := D.out.c 2 _ rfl
    have c3 := D.out.c 3 _ rfl
    have c4 := D.out.c 4 _ rfl
    have c5 := D.out.c 5 _ rfl
    have c6 := D.out.c 6 _ rfl
    have c7 := D.out.c 7 _ rfl
    have c8 := D.out.c 8 _ rfl
    have c9 := D.out.c 9 _ rfl
    have c10 := D.out.c 10 _ rfl
    have c11 := D.out.c 11 _ rfl
    have c12 := D.out.c 12 _ rfl
    try simp only at c0 c1 c2 c3 c4 c5 c6 c7 c8 c9 c10 c11 c12
    go_wp2_with fail
    refine (RM.out _).mono ?_
    rintro e w3 ⟨rfl, x2⟩
    replace X := Lib.hid (X.out.tr x2)
    clear x2
    go_wp2
    go_ret
    exact ⟨rfl, X.out⟩
  · have DL := Lib.hid (decM_enc OK.out (by simp) hm)
    rw [hm] at rm
    have RM := Lib.hid rm
    have w3 := fun w (p : Option Addr) cc (h : SlS 7 w p 0 cc (([] : List EnD).map enL)) => reqm_any (w := w) (a := ⟨a, b, c, d, 0, 0, 0, 0, 0, 0, 0, false⟩) (b := ⟨a, b, c, d, 0, 0, 0, 0, 0, 0, 0, false⟩) (L := []) (M := []) h (SlS.empty 7 w)
    rw [show eqM ⟨a, b, c, d, 0, 0, 0, 0, 0, 0, 0, false⟩ [] ⟨a, b, c, d, 0, 0, 0, 0, 0, 0, 0, false⟩ [] = true from (eqM_iff _ _ _ _).2 ⟨rfl, rfl⟩] at w3
    have W3 := Lib.hid w3
    clear rm hm w3 ha hb hc hd
    generalize encM ⟨a, b, c, d, 0, 0, 0, 0, 0, 0, 0, false⟩ [] = B at *
    go_enter Try.func13, Try.ntmps13
    go_wp2_with fail
    refine (begun16 w).mono ?_
    rintro e w1 ⟨rfl, x1⟩
    have X := Lib.hid (x1.tr (Ext.alloc w1 (.cells (msA ⟨a, b, c, d, 0, 0, 0, 0, 0, 0, 0, false⟩ none 0 0) 31)))
    have D := Lib.hid (BoxV.new w1 w1.heap.size (msA ⟨a, b, c, d, 0, 0, 0, 0, 0, 0, 0, false⟩ none 0 0) (msL ⟨a, b, c, d, 0, 0, 0, 0, 0, 0, 0, false⟩ none 0 0) 31 _ rfl (Nat.le_refl _) rfl)
    clear x1
    go_wp2_with fail
    refine (EC.out _).mono ?_
    rintro e w2 ⟨p2, c2, rfl, o2, -, x2⟩
    replace X := Lib.hid (X.out.tr x2)
    replace D := Lib.hid (D.out.ext x2)
    have O2 := Lib.hid o2
    clear x2 o2
    have c0 := D.out.c 0 _ rfl
    have c1 := D.out.c 1 _ rfl
    have c2 := D.out.c 2 _ rfl
    have c3 := D.out.c 3 _ rfl
    have c4 := D.out.c 4 _ rfl
    have c5 := D.out.c 5 _ rfl
    have c6 := D.out.c 6 _ rfl
    have c7 := D.out.c 7 _ rfl
    have c8 := D.out.c 8 _ rfl
    have c9 := D.out.c 9 _ rfl
    have c10 := D.out.c 10 _ rfl
    have c11 := D.out.c 11 _ rfl
    have c12 := D.out.c 12 _ rfl
    try simp only at c0 c1 c2 c3 c4 c5 c6 c7 c8 c9 c10 c11 c12
    go_wp2_with fail
    refine (RM.out _).mono ?_
    rintro e w3 ⟨rfl, x2⟩
    replace X := Lib.hid (X.out.tr x2)
    replace D := Lib.hid (D.out.ext x2)
    replace O2 := Lib.hid (O2.out.ext x2)
    clear x2
    clear c0 c1 c2 c3 c4 c5 c6 c7 c8 c9 c10 c11 c12
    go_wp2_with fail
    have DC := wdecode_any O2.out.sl (by have := HL.out; omega)
    rw [DL.out] at DC
    refine DC.mono ?_
    rintro e w6 ⟨p6, c6, rfl, o6, -, -, x6⟩
    replace X := Lib.hid ((X.out.tr x6).tr (Ext.alloc w6 (.cells (msA ⟨a, b, c, d, 0, 0, 0, 0, 0, 0, 0, false⟩ p6 0 c6) 31)))
    replace D := Lib.hid ((D.out.ext x6).ext (Ext.alloc w6 (.cells (msA ⟨a, b, c, d, 0, 0, 0, 0, 0, 0, 0, false⟩ p6 0 c6) 31)))
    have O := Lib.hid (o6.sl.ext (Ext.alloc w6 (.cells (msA ⟨a, b, c, d, 0, 0, 0, 0, 0, 0, 0, false⟩ p6 0 c6) 31)))
    clear x6 o6 DC
    simp only [List.length_nil]
    have c0 := D.out.c 0 _ rfl
    have c1 := D.out.c 1 _ rfl
    have c2 := D.out.c 2 _ rfl
    have c3 := D.out.c 3 _ rfl
    have c4 := D.out.c 4 _ rfl
    have c5 := D.out.c 5 _ rfl
    have c6 := D.out.c 6 _ rfl
    have c7 := D.out.c 7 _ rfl
    have c8 := D.out.c 8 _ rfl
    have c9 := D.out.c 9 _ rfl
    have c10 := D.out.c 10 _ rfl
    have c11 := D.out.c 11 _ rfl
    have c12 := D.out.c 12 _ rfl
    try simp only at c0 c1 c2 c3 c4 c5 c6 c7 c8 c9 c10 c11 c12
    go_wp2_with fail
    refine (W3.out _ _ _ O.out).mono ?_
    rintro e w7 ⟨rfl, x2⟩
    replace X := Lib.hid (X.out.tr x2)
    clear x2
    go_wp2
    go_ret
    exact ⟨rfl, X.out⟩
end Go.Proofs.Ytgplmbchlahbkaa
