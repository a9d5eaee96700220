/-
  The statements' begun of gram, and walks of GramNone, GramTook: whatever the numbers, the law returns true.
-/
import Derived.Test.YtbhgbkbdojhofaaGram2
import Derived.Test.YtbhgbkbdojhofaaGram3
import Derived.Test.YtbhgbkbdojhofaaWire8
namespace Go.Proofs.Ytbhgbkbdojhofaa
open Go Go.Sort Go.RowKit
set_option linter.unusedVariables false

def m17 : MsD := ⟨13, 1, 2, 3, 0, 0, 0, 0, 0, 5, 100, false⟩
def o17 : MsD := ⟨13, 1, 2, 2, 0, 0, 0, 0, 0, 5, 100, false⟩
def b17 : Nat → Int := updF zB 1 3
def p17 : Nat → Int × Int × Bool := updF zP 1 (5, 10, true)
theorem ok17 : MsOk m17 := ⟨⟨by decide, by decide⟩, ⟨by decide, by decide⟩, ⟨by decide, by decide⟩, ⟨by decide, by decide⟩, ⟨by decide, by decide⟩, ⟨by decide, by decide⟩, ⟨by decide, by decide⟩, ⟨by decide, by decide⟩, ⟨by decide, by decide⟩, ⟨by decide, by decide⟩, ⟨by decide, by decide⟩⟩
theorem oko17 : MsOk o17 := ⟨⟨by decide, by decide⟩, ⟨by decide, by decide⟩, ⟨by decide, by decide⟩, ⟨by decide, by decide⟩, ⟨by decide, by decide⟩, ⟨by decide, by decide⟩, ⟨by decide, by decide⟩, ⟨by decide, by decide⟩, ⟨by decide, by decide⟩, ⟨by decide, by decide⟩, ⟨by decide, by decide⟩⟩
theorem p17_ok : ∀ F, J64 (p17 F).2.1 := by
  intro F
  by_cases h : F = 1
  · subst h; exact ⟨by decide, by decide⟩
  · rw [show p17 F = zP F from if_neg h]; exact (show J64 0 from ⟨by decide, by decide⟩)
theorem hear17 : hearR 2 zB (encM m17 []) = .inl (m17, []) := by
  unfold hearR
  rw [decM_enc ok17 (by simp) (by decide)]
  rfl
theorem hearo17 : hearR 2 b17 (encM o17 []) = .inr 7 := by
  unfold hearR
  rw [decM_enc oko17 (by simp) (by decide)]
  rfl
theorem tk17 : tkV p17 m17 30 0 = 20 ∧ tkO p17 m17 30 0 = true := by decide

set_option maxRecDepth 8000 in
set_option maxHeartbeats 8000000 in
/-- The statements' begun of gram. -/
theorem begun17 (w : World) : Calls Try.prog 8 #[] w fun e w' => e = .returned (.bool true) ∧ Ext w w' := by
  go_enter Try.func8, Try.ntmps8
  go_wp2_with fail
  refine (gnew_any 2 w).mono ?_
  rintro e w1 ⟨hy, -, x1⟩
  obtain ⟨rfl, d1⟩ := hy (by decide)
  have D := Lib.hid d1
  have X := Lib.hid x1
  clear hy d1 x1
  go_wp2_with fail
  refine (gnew_any 0 w1).mono ?_
  rintro e w2 ⟨-, hy, x2⟩
  obtain rfl := hy (by decide)
  replace D := Lib.hid (D.out.ext x2)
  replace X := Lib.hid (X.out.tr x2)
  clear hy x2
  go_wp2_with fail
  refine (gnew_any 8 w2).mono ?_
  rintro e w3 ⟨-, hy, x3⟩
  obtain rfl := hy (by decide)
  replace D := Lib.hid (D.out.ext x3)
  replace X := Lib.hid (X.out.tr x3)
  clear hy x3
  generalize hg : w.heap.size = g at *
  have A3 := Lib.hid (Ext.alloc w3 (.cells (msA m17 none 0 0) 30))
  have M := Lib.hid (BoxV.new w3 g (msA m17 none 0 0) (msL m17 none 0 0) 30 w3.heap.size rfl (Nat.le_of_lt D.out.hi) rfl)
  have HN1 : Hid ((some g : Option Nat) ≠ some w3.heap.size) := Lib.hid (by intro hh; injection hh with hh; have := D.out.hi; omega)
  replace D := Lib.hid (D.out.ext A3.out)
  replace X := Lib.hid (X.out.tr A3.out)
  go_wp2_with fail
  change Calls _ _ _ (w3.alloc (.cells (msA m17 none 0 0) 30)) _
  generalize hm3 : w3.heap.size = gm at *
  generalize w3.alloc (.cells (msA m17 none 0 0) 30) = w4 at *
  clear A3 hm3
  refine (rbytesm_any ok17 (SlS.empty 7 w4) (L := []) (by simp)).mono ?_
  rintro e w5 ⟨p5, k5, rfl, o5, x5⟩
  replace D := Lib.hid (D.out.ext x5)
  replace X := Lib.hid (X.out.tr x5)
  replace M := Lib.hid (M.out.ext x5)
  have O5 := Lib.hid o5.sl
  clear o5 x5
  go_wp2_with fail
  have H := hear_any D.out O5.out (Nat.le_trans (encM_len ok17 (by simp)) (by omega))
  rw [hear17] at H
  refine H.mono ?_
  rintro e w6 ⟨p6, k6, rfl, -, -, -, d6, g6⟩
  replace D : Hid (BoxV w6 g g (grL 2 b17 zP)) := Lib.hid d6
  replace M := Lib.hid (M.out.other g6 HN1.out)
  replace X : Hid (Ext w w6) := Lib.hid (Below.trans X.out (grown_below g6 (Nat.le_of_eq hg) X.out.size))
  clear H d6 g6 O5
  simp only [m17]
  go_upto_region 6 with fail
  have A6 := Lib.hid (Ext.alloc w6 (.cells (msA m17 p6 0 k6) 30))
  have XB := Lib.hid (BoxV.new w6 g (msA m17 p6 0 k6) (msL m17 p6 0 k6) 30 w6.heap.size rfl (Nat.le_of_lt D.out.hi) rfl)
  have HN2 : Hid ((some g : Option Nat) ≠ some w6.heap.size) := Lib.hid (by intro hh; injection hh with hh; have := D.out.hi; omega)
  change Code.wp _ _ _ _ (w6.alloc (.cells (msA m17 p6 0 k6) 30))
  replace D := Lib.hid (D.out.ext A6.out)
  replace M := Lib.hid (M.out.ext A6.out)
  replace X := Lib.hid (X.out.tr A6.out)
  generalize hx6 : w6.heap.size = gx at *
  generalize w6.alloc (.cells (msA m17 p6 0 k6) 30) = w7 at *
  clear A6 hx6
  have c0 := M.out.c 0 _ rfl
  have c1 := M.out.c 1 _ rfl
  have c2 := M.out.c 2 _ rfl
  have c3 := M.out.c 3 _ rfl
  have c4 := M.out.c 4 _ rfl
  have c5 := M.out.c 5 _ rfl
  have c6 := M.out.c 6 _ rfl
  have c7 := M.out.c 7 _ rfl
  have c8 := M.out.c 8 _ rfl
  have c9 := M.out.c 9 _ rfl
  have c10 := M.out.c 10 _ rfl
  have c11 := M.out.c 11 _ rfl
  have c12 := M.out.c 12 _ rfl
  try simp only at c0 c1 c2 c3 c4 c5 c6 c7 c8 c9 c10 c11 c12
  simp only [m17] at c0 c1 c2 c3 c4 c5 c6 c7 c8 c9 c10 c11 c12
  go_wp2_with fail
  clear c0 c1 c2 c3 c4 c5 c6 c7 c8 c9 c10 c11 c12
  have A7 := Lib.hid (Ext.alloc w7 (.cells (msA o17 none 0 0) 30))
  refine (rbytesm_any (w := w7.alloc (.cells (msA o17 none 0 0) 30)) oko17 (SlS.empty 7 _) (L := []) (by simp)).mono ?_
  rintro e w8 ⟨p8, k8, rfl, o8, x8⟩
  replace D := Lib.hid (D.out.ext (A7.out.tr x8))
  replace M := Lib.hid (M.out.ext (A7.out.tr x8))
  replace XB := Lib.hid (XB.out.ext (A7.out.tr x8))
  replace X := Lib.hid (X.out.tr (A7.out.tr x8))
  have O8 := Lib.hid o8.sl
  clear o8 x8 A7
  go_wp2_with fail
  have H := hear_any D.out O8.out (Nat.le_trans (encM_len oko17 (by simp)) (by omega))
  rw [hearo17] at H
  refine H.mono ?_
  rintro e w9 ⟨rfl, d9, g9⟩
  have A9 := Lib.hid (Ext.alloc w9 (.cells (msA zeroM none 0 0) 30))
  replace D := Lib.hid (d9.ext A9.out)
  replace M := Lib.hid ((M.out.other g9 HN1.out).ext A9.out)
  replace XB := Lib.hid ((XB.out.other g9 HN2.out).ext A9.out)
  replace X : Hid (Ext w w9) := Lib.hid (Below.trans X.out (grown_below g9 (Nat.le_of_eq hg) X.out.size))
  replace X := Lib.hid (X.out.tr A9.out)
  clear H d9 g9 O8
  simp only [zeroM]
  go_wp2_with fail
  change Calls _ _ _ (w9.alloc (.cells (msA zeroM none 0 0) 30)) _
  generalize w9.alloc (.cells (msA zeroM none 0 0) 30) = w10 at *
  clear A9
  refine (sent_any D.out 1 5 10).mono ?_
  rintro e w11 ⟨rfl, d, gr⟩
  replace D : Hid (BoxV w11 g g (grL 2 b17 p17)) := Lib.hid d
  replace M := Lib.hid (M.out.other gr HN1.out)
  replace XB := Lib.hid (XB.out.other gr HN2.out)
  replace X : Hid (Ext w w11) := Lib.hid (Below.trans X.out (grown_below gr (Nat.le_of_eq hg) X.out.size))
  clear d gr
  have c0 := M.out.c 0 _ rfl
  have c1 := M.out.c 1 _ rfl
  have c2 := M.out.c 2 _ rfl
  have c3 := M.out.c 3 _ rfl
  have c4 := M.out.c 4 _ rfl
  have c5 := M.out.c 5 _ rfl
  have c6 := M.out.c 6 _ rfl
  have c7 := M.out.c 7 _ rfl
  have c8 := M.out.c 8 _ rfl
  have c9 := M.out.c 9 _ rfl
  have c10 := M.out.c 10 _ rfl
  have c11 := M.out.c 11 _ rfl
  have c12 := M.out.c 12 _ rfl
  try simp only at c0 c1 c2 c3 c4 c5 c6 c7 c8 c9 c10 c11 c12
  simp only [m17] at c0 c1 c2 c3 c4 c5 c6 c7 c8 c9 c10 c11 c12
  go_wp2_with fail
  clear c0 c1 c2 c3 c4 c5 c6 c7 c8 c9 c10 c11 c12
  have H := took_any D.out ok17 (p := none) (n := 0) (cap := 0) 30 0 ⟨by decide, by decide⟩ p17_ok
  rw [tk17.1, tk17.2] at H
  refine H.mono ?_
  rintro e w12 ⟨rfl, x12⟩
  replace D := Lib.hid (D.out.ext x12)
  replace XB := Lib.hid (XB.out.ext x12)
  replace X := Lib.hid (X.out.tr x12)
  clear H x12
  have c0 := XB.out.c 0 _ rfl
  have c1 := XB.out.c 1 _ rfl
  have c2 := XB.out.c 2 _ rfl
  have c3 := XB.out.c 3 _ rfl
  have c4 := XB.out.c 4 _ rfl
  have c5 := XB.out.c 5 _ rfl
  have c6 := XB.out.c 6 _ rfl
  have c7 := XB.out.c 7 _ rfl
  have c8 := XB.out.c 8 _ rfl
  have c9 := XB.out.c 9 _ rfl
  have c10 := XB.out.c 10 _ rfl
  have c11 := XB.out.c 11 _ rfl
  have c12 := XB.out.c 12 _ rfl
  try simp only at c0 c1 c2 c3 c4 c5 c6 c7 c8 c9 c10 c11 c12
  simp only [m17] at c0 c1 c2 c3 c4 c5 c6 c7 c8 c9 c10 c11 c12
  go_wp2_with fail
  clear c0 c1 c2 c3 c4 c5 c6 c7 c8 c9 c10 c11 c12
  refine (boot_any D.out 1).mono ?_
  rw [show (if isI 1 = true then b17 (1 : Int).toNat else 0) = 3 by decide]
  rintro e w13 ⟨rfl, rfl⟩
  go_wp2_with fail
  refine (boot_any D.out 2).mono ?_
  rw [show (if isI 2 = true then b17 (2 : Int).toNat else 0) = 0 by decide]
  rintro e w14 ⟨rfl, rfl⟩
  go_wp2
  go_ret
  exact ⟨rfl, X.out⟩
end Go.Proofs.Ytbhgbkbdojhofaa
