/-
  The statements' begun of entry, and walks of its laws: whatever the entries and the numbers, the law returns true.
-/
import Derived.Test.YtkgcmobijbakmaaEntry8
namespace Go.Proofs.Ytkgcmobijbakmaa
open Go Go.Sort Go.RowKit
set_option linter.unusedVariables false

def e12 : EnD := ⟨1, 1, 1, 1, 1, 0, ⟨#[97, 61, 98]⟩⟩
def f12 : EnD := ⟨1, 1, 1, 1, 1, 9, ⟨#[97, 61, 98]⟩⟩
theorem ok12 : ∀ e ∈ [e12, f12], EnOk e := by
  intro e he
  simp at he
  rcases he with rfl | rfl <;> exact ⟨⟨by decide, by decide⟩, ⟨by decide, by decide⟩, ⟨by decide, by decide⟩, ⟨by decide, by decide⟩, ⟨by decide, by decide⟩, ⟨by decide, by decide⟩, by decide⟩
theorem okZ : EnOk ⟨0, 0, 0, 0, 0, 0, ⟨#[]⟩⟩ := ⟨⟨by decide, by decide⟩, ⟨by decide, by decide⟩, ⟨by decide, by decide⟩, ⟨by decide, by decide⟩, ⟨by decide, by decide⟩, ⟨by decide, by decide⟩, by decide⟩
set_option maxRecDepth 8000 in
set_option maxHeartbeats 4000000 in
theorem begun12 (w : World) : Calls Try.prog 15 #[] w fun e w' => e = .returned (.bool true) ∧ Ext w w' := by
  have hm : [e12, f12].all mayB = true := by decide
  have DL := Lib.hid (decL_enc ok12 hm)
  have hpos : 0 < (encAll [e12, f12]).length := by
    unfold encAll
    rw [if_pos hm]
    have := enB_pos e12
    simp only [List.map_cons, List.flatten_cons, List.length_append]
    omega
  have hlen : (encAll [e12, f12]).length ≤ 200 := by
    unfold encAll
    rw [if_pos hm]
    have := enB_len (ok12 e12 (by simp)) (by decide)
    have := enB_len (ok12 f12 (by simp)) (by decide)
    simp only [List.map_cons, List.map_nil, List.flatten_cons, List.flatten_nil, List.length_append, List.length_nil]
    omega
  obtain ⟨B, hB⟩ : ∃ B, B = encAll [e12, f12] := ⟨_, rfl⟩
  rw [← hB] at hpos hlen DL
  have HB := Lib.hid hB
  clear hB hm
  have w1 := fun w => may_any (e := e12) (w := w) (ok12 _ (by simp))
  rw [show mayB e12 = true by decide] at w1
  have W1 := Lib.hid w1
  have w2 := fun w => may_any (e := ⟨0, 0, 0, 0, 0, 0, ⟨#[]⟩⟩) (w := w) okZ
  rw [show mayB ⟨0, 0, 0, 0, 0, 0, ⟨#[]⟩⟩ = false by decide] at w2
  have W2 := Lib.hid w2
  have w3 := fun w => same_any (a := e12) (b := f12) (w := w)
  rw [show sameB e12 f12 = true by decide] at w3
  have W3 := Lib.hid w3
  have w4 := fun w => eq_any (a := e12) (b := f12) (w := w)
  rw [show eqB e12 f12 = false by decide] at w4
  have W4 := Lib.hid w4
  clear w1 w2 w3 w4
  go_enter Try.func15, Try.ntmps15
  go_wp2_with fail
  have SB : Hid (SlS 7 (((w.alloc (.cells (enA ⟨1, 1, 1, 1, 1, 0, ⟨#[97, 61, 98]⟩⟩) 23)).alloc (.cells (enA ⟨1, 1, 1, 1, 1, 9, ⟨#[97, 61, 98]⟩⟩) 23)).alloc (.cells #[.int .i64 1, .int .i64 1, .int .i64 1, .int .i64 1, .int .i64 1, .int .i64 0, .string ⟨#[97, 61, 98]⟩, .int .i64 1, .int .i64 1, .int .i64 1, .int .i64 1, .int .i64 1, .int .i64 9, .string ⟨#[97, 61, 98]⟩] 23)) (some ⟨w.heap.size + 1 + 1, 0, none⟩) 2 2 ([e12, f12].map enL)) := Lib.hid (by
    have h := SlS.lit (K := 7) (E := 23) ((w.alloc (.cells (enA ⟨1, 1, 1, 1, 1, 0, ⟨#[97, 61, 98]⟩⟩) 23)).alloc (.cells (enA ⟨1, 1, 1, 1, 1, 9, ⟨#[97, 61, 98]⟩⟩) 23)) 2 #[.int .i64 1, .int .i64 1, .int .i64 1, .int .i64 1, .int .i64 1, .int .i64 0, .string ⟨#[97, 61, 98]⟩, .int .i64 1, .int .i64 1, .int .i64 1, .int .i64 1, .int .i64 1, .int .i64 9, .string ⟨#[97, 61, 98]⟩] (0, 0) ([e12, f12].map enL) rfl wid7 rfl (by omega)
    rw [show ((w.alloc (.cells (enA ⟨1, 1, 1, 1, 1, 0, ⟨#[97, 61, 98]⟩⟩) 23)).alloc (.cells (enA ⟨1, 1, 1, 1, 1, 9, ⟨#[97, 61, 98]⟩⟩) 23)).heap.size = w.heap.size + 1 + 1 by simp] at h
    exact h)
  have X : Hid (Ext w (((w.alloc (.cells (enA ⟨1, 1, 1, 1, 1, 0, ⟨#[97, 61, 98]⟩⟩) 23)).alloc (.cells (enA ⟨1, 1, 1, 1, 1, 9, ⟨#[97, 61, 98]⟩⟩) 23)).alloc (.cells #[.int .i64 1, .int .i64 1, .int .i64 1, .int .i64 1, .int .i64 1, .int .i64 0, .string ⟨#[97, 61, 98]⟩, .int .i64 1, .int .i64 1, .int .i64 1, .int .i64 1, .int .i64 1, .int .i64 9, .string ⟨#[97, 61, 98]⟩] 23))) := Lib.hid (((Ext.alloc w _).tr (Ext.alloc _ _)).tr (Ext.alloc _ _))
  have D1 : Hid (EnBox (((w.alloc (.cells (enA ⟨1, 1, 1, 1, 1, 0, ⟨#[97, 61, 98]⟩⟩) 23)).alloc (.cells (enA ⟨1, 1, 1, 1, 1, 9, ⟨#[97, 61, 98]⟩⟩) 23)).alloc (.cells #[.int .i64 1, .int .i64 1, .int .i64 1, .int .i64 1, .int .i64 1, .int .i64 0, .string ⟨#[97, 61, 98]⟩, .int .i64 1, .int .i64 1, .int .i64 1, .int .i64 1, .int .i64 1, .int .i64 9, .string ⟨#[97, 61, 98]⟩] 23)) w.heap.size ⟨1, 1, 1, 1, 1, 0, ⟨#[97, 61, 98]⟩⟩) := Lib.hid ((EnBox.new w _ _).ext ((Ext.alloc _ _).tr (Ext.alloc _ _)))
  have D2 : Hid (EnBox (((w.alloc (.cells (enA ⟨1, 1, 1, 1, 1, 0, ⟨#[97, 61, 98]⟩⟩) 23)).alloc (.cells (enA ⟨1, 1, 1, 1, 1, 9, ⟨#[97, 61, 98]⟩⟩) 23)).alloc (.cells #[.int .i64 1, .int .i64 1, .int .i64 1, .int .i64 1, .int .i64 1, .int .i64 0, .string ⟨#[97, 61, 98]⟩, .int .i64 1, .int .i64 1, .int .i64 1, .int .i64 1, .int .i64 1, .int .i64 9, .string ⟨#[97, 61, 98]⟩] 23)) (w.heap.size + 1) ⟨1, 1, 1, 1, 1, 9, ⟨#[97, 61, 98]⟩⟩) := Lib.hid ((EnBox.new' (w.alloc (.cells (enA ⟨1, 1, 1, 1, 1, 0, ⟨#[97, 61, 98]⟩⟩) 23)) _ _ _ (by simp)).ext (Ext.alloc _ _))
  refine (encode_any SB.out ok12 (by omega)).mono ?_
  rw [← HB.out]
  rintro e w5 ⟨p5, c5, rfl, o5, x5⟩
  replace X := Lib.hid (X.out.tr x5)
  replace D1 := Lib.hid (D1.out.ext x5)
  replace D2 := Lib.hid (D2.out.ext x5)
  have O5 := Lib.hid o5
  clear x5 o5 SB
  go_wp2_with fail
  have DC := decode_any O5.out.sl (by omega)
  rw [DL.out] at DC
  refine DC.mono ?_
  rintro e w6 ⟨p6, c6, rfl, o6, x6, ok6⟩
  replace X := Lib.hid (X.out.tr x6)
  replace D1 := Lib.hid (D1.out.ext x6)
  replace D2 := Lib.hid (D2.out.ext x6)
  have O := Lib.hid o6.sl
  clear x6 o6 ok6 DC
  obtain ⟨a0, a1, a2, a3, a4, a5, a6⟩ := D1.out
  obtain ⟨b0, b1, b2, b3, b4, b5, b6⟩ := D2.out
  simp only at a0 a1 a2 a3 a4 a5 a6 b0 b1 b2 b3 b4 b5 b6
  go_wp2_with fail
  clear a0 a1 a2 a3 a4 a5 a6 b0 b1 b2 b3 b4 b5 b6
  refine (W1.out _).mono ?_
  rintro e w7 ⟨rfl, x1⟩
  replace X := Lib.hid (X.out.tr x1)
  replace D1 := Lib.hid (D1.out.ext x1)
  replace D2 := Lib.hid (D2.out.ext x1)
  replace O := Lib.hid (O.out.ext x1)
  clear x1
  obtain ⟨a0, a1, a2, a3, a4, a5, a6⟩ := D1.out
  obtain ⟨b0, b1, b2, b3, b4, b5, b6⟩ := D2.out
  simp only at a0 a1 a2 a3 a4 a5 a6 b0 b1 b2 b3 b4 b5 b6
  go_wp2_with fail
  clear a0 a1 a2 a3 a4 a5 a6 b0 b1 b2 b3 b4 b5 b6
  refine (W2.out _).mono ?_
  rintro e w8 ⟨rfl, x1⟩
  replace X := Lib.hid (X.out.tr x1)
  replace D1 := Lib.hid (D1.out.ext x1)
  replace D2 := Lib.hid (D2.out.ext x1)
  replace O := Lib.hid (O.out.ext x1)
  clear x1
  obtain ⟨a0, a1, a2, a3, a4, a5, a6⟩ := D1.out
  obtain ⟨b0, b1, b2, b3, b4, b5, b6⟩ := D2.out
  simp only at a0 a1 a2 a3 a4 a5 a6 b0 b1 b2 b3 b4 b5 b6
  go_wp2_with fail
  clear a0 a1 a2 a3 a4 a5 a6 b0 b1 b2 b3 b4 b5 b6
  refine (W3.out _).mono ?_
  rintro e w9 ⟨rfl, x1⟩
  replace X := Lib.hid (X.out.tr x1)
  replace D1 := Lib.hid (D1.out.ext x1)
  replace D2 := Lib.hid (D2.out.ext x1)
  replace O := Lib.hid (O.out.ext x1)
  clear x1
  obtain ⟨a0, a1, a2, a3, a4, a5, a6⟩ := D1.out
  obtain ⟨b0, b1, b2, b3, b4, b5, b6⟩ := D2.out
  simp only at a0 a1 a2 a3 a4 a5 a6 b0 b1 b2 b3 b4 b5 b6
  go_wp2_with fail
  clear a0 a1 a2 a3 a4 a5 a6 b0 b1 b2 b3 b4 b5 b6
  refine (W4.out _).mono ?_
  rintro e w10 ⟨rfl, x1⟩
  replace X := Lib.hid (X.out.tr x1)
  replace D1 := Lib.hid (D1.out.ext x1)
  replace D2 := Lib.hid (D2.out.ext x1)
  replace O := Lib.hid (O.out.ext x1)
  clear x1
  obtain ⟨a0, a1, a2, a3, a4, a5, a6⟩ := D1.out
  obtain ⟨b0, b1, b2, b3, b4, b5, b6⟩ := D2.out
  simp only at a0 a1 a2 a3 a4 a5 a6 b0 b1 b2 b3 b4 b5 b6
  clear a0 a1 a2 a3 a4 a5 a6 b0 b1 b2 b3 b4 b5 b6
  obtain ⟨bb, oo, x, hp, hx, -, hc⟩ := O.out.at 1 (by simp)
  simp [enL] at hx
  subst hx hp
  have hc5 : w10.cell? ⟨bb, oo + 7 + 5, none⟩ = some (.int .i64 9) := hc 5 _ rfl
  have hl0 : (0 : Int) < (B.length : Int) := by omega
  clear hc
  go_wp2
  go_ret
  exact ⟨rfl, X.out⟩
end Go.Proofs.Ytkgcmobijbakmaa
