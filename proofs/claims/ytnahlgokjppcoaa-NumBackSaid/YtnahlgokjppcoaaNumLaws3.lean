/-
  The walk of NumBack: whatever the arguments, the law returns true. Condition: an argument's length is a length.
-/
import Derived.Test.YtnahlgokjppcoaaNumLaws
import Derived.Test.YtnahlgokjppcoaaRegion
namespace Go.Proofs.Ytnahlgokjppcoaa
open Go Go.Sort Go.RowKit
set_option linter.unusedVariables false

theorem cat_str {a b c : List UInt8} (h : a ++ b = c) : (⟨a.toArray⟩ : ByteArray) ++ ⟨b.toArray⟩ = ⟨c.toArray⟩ := by
  subst h
  apply ByteArray.ext
  simp [ByteArray.data_append]

set_option maxRecDepth 8000 in
set_option maxHeartbeats 8000000 in
theorem walk_NumBack {p q : Option Addr} {n m cap cb : Nat} {l k : List UInt8} {x : Int} {s : ByteArray} {w : World} (h : SlP w p n cap l) (h2 : SlP w q m cb k) (hx : -9223372036854775808 ≤ x ∧ x ≤ 9223372036854775807) (hs : s.size ≤ maxLen) :
    Calls Try.prog 7 #[.slice p n cap, .slice q m cb, .int .i64 x, .string s] w fun e w' => e = .returned (.bool true) ∧ Below w.heap.size w w' := by
  have H := Lib.hid h
  have H2 := Lib.hid h2
  have HXB := Lib.hid hx
  have hs2 : s.size ≤ 9223372036854775807 := by unfold maxLen at hs; omega
  have hle := h.le
  have hle2 := h2.le
  have hz := zig_lt hx.1 hx.2
  have KE := Lib.hid (enc_ten hz)
  have KZ := Lib.hid hz
  have u1 := h.max
  have u2 := h2.max
  clear h h2 hs hx hz
  go_enter Try.func7, Try.ntmps7
  go_wp2_with fail
  refine (begunN _).mono ?_
  rintro e w1 ⟨rfl, x1⟩
  have X := Lib.hid x1
  clear x1
  go_wp2_with fail
  refine (short_any (H.out.ext X.out) 20 (by omega)).mono ?_
  rintro e w2 ⟨rfl, rfl⟩
  go_wp2_with fail
  refine (short_any (H2.out.ext X.out) 20 (by omega)).mono ?_
  rintro e w2 ⟨rfl, rfl⟩
  have A := Lib.hid (H.out.take (min n 20) (by omega))
  have B := Lib.hid (H2.out.take (min m 20) (by omega))
  have hn20 : min n 20 ≤ 20 := by omega
  have hm20 : min m 20 ≤ 20 := by omega
  generalize l.take (min n 20) = la at *
  generalize k.take (min m 20) = lb at *
  generalize min n 20 = na at *
  generalize min m 20 = nb at *
  clear H H2 hle hle2
  go_wp2_with fail
  refine (cut_any 100 (by omega) hs2).mono ?_
  rintro e w2 ⟨t, ht, rfl, rfl⟩
  have z1 := X.out.size
  go_wp2_with (at_builtin; refine wpList_app rfl _ _ 22 rfl w.heap.size Try.underlying22 info5 none 0 0 [] rfl (OwP.nil _ _) p na cap la rfl (A.out.ext X.out) (by omega) (by omega) ?_)
  intro p1 c1 w2 h2 g2
  have H1 := Lib.hid h2
  have X2 : Hid (Ext w1 w2) := Lib.hid (Ext.own (Ext.rfl' w1) (OwP.nil w1 _) g2 rfl)
  clear h2 g2
  have z2 := X2.out.size
  obtain ⟨E, hE⟩ : ∃ E, E = enc (zig x) := ⟨_, rfl⟩
  obtain ⟨el, hel⟩ : ∃ el, el = E.length := ⟨_, rfl⟩
  have hel10 : el ≤ 10 := by rw [hel, hE]; exact KE.out
  have HE := Lib.hid hE
  have HEL := Lib.hid hel
  clear hE hel KE
  go_wp2_with fail
  refine (put_any H1.out (by omega) (by omega) HXB.out.1 HXB.out.2).mono ?_
  rw [← HE.out, ← HEL.out]
  rintro e w3 ⟨p3, c3, rfl, h3, x3⟩
  have S3 := Lib.hid h3.sl
  have X3 := Lib.hid (Below.trans (Ext.tr X.out X2.out) x3 : Below w.heap.size w w3)
  clear h3 x3 H1 X X2 z1 z2
  have z3 := X3.out.size
  go_wp2_with (at_builtin; refine wpList_app rfl _ _ 22 rfl w3.heap.size Try.underlying22 info5 none 0 0 [] rfl (OwP.nil _ _) p na cap la rfl (A.out.ext X3.out) (by omega) (by omega) ?_)
  intro p4 c4 w4 h4 g4
  have H4 := Lib.hid h4
  have X4 : Hid (Ext w3 w4) := Lib.hid (Ext.own (Ext.rfl' w3) (OwP.nil w3 _) g4 rfl)
  clear h4 g4
  have z4 := X4.out.size
  obtain ⟨T, hT⟩ : ∃ T, T = txt t.data.toList := ⟨_, rfl⟩
  obtain ⟨tl, htl⟩ : ∃ tl, tl = T.length := ⟨_, rfl⟩
  have tl10 : tl ≤ 110 := by
    rw [htl, hT]
    unfold txt
    have hq : t.data.toList.length = t.size := by simp
    have := enc_ten (zig_lt (x := (t.data.toList.length : Int)) (by omega) (by omega))
    rw [List.length_append]
    omega
  have HT := Lib.hid hT
  have HTL := Lib.hid htl
  clear hT htl
  go_wp2_with fail
  refine (puttext_any (s := t) H4.out (by omega) (by omega) (by omega)).mono ?_
  rw [← HT.out, ← HTL.out]
  rintro e w5 ⟨p5, c5, rfl, h5, x5⟩
  have S5 := Lib.hid h5.sl
  have X5 : Hid (Ext w3 w5) := Lib.hid (Below.trans X4.out x5)
  clear h5 x5 H4 X4 z4 z3
  have X : Hid (Ext w w5) := Lib.hid (Ext.tr X3.out X5.out)
  have R3 := Lib.hid (S3.out.ext X5.out)
  clear S3 X3 X5
  obtain ⟨L1, hL1⟩ : ∃ L, L = la ++ E := ⟨_, rfl⟩
  obtain ⟨L2, hL2⟩ : ∃ L, L = la ++ T := ⟨_, rfl⟩
  rw [← hL1] at R3
  rw [← hL2] at S5
  have cat1 := cat_str hL1.symm
  have cat2 := cat_str hL2.symm
  have no1 : ¬ 9223372036854775807 < la.length + E.length := by have := A.out.len; have := HEL.out; omega
  have no2 : ¬ 9223372036854775807 < la.length + T.length := by have := A.out.len; have := HTL.out; omega
  have HL1 := Lib.hid hL1
  have HL2 := Lib.hid hL2
  clear hL1 hL2
  go_wp2_with fail
  refine rw_start [0, 1, 2, 3, 4, 5, 6, 7, 8, 9, 10, 11, 12, 13, 14, 15, 16, 17, 18, 19] (by kernel_rfl) (by kernel_rfl) (fun _ _ d _ _ h => by cases d <;> exact h) ?_
  have cv1 := fun d os => str_of (R3.out.ext ((Ext.drew w5).tr (Ext.reg _ d os)))
  have cv2 := fun d os => str_of (A.out.ext (X.out.tr ((Ext.drew w5).tr (Ext.reg _ d os))))
  repeat (first | (refine rw_quiet rfl (by rfl) (by rfl) (fun K hK => ?_); go_big_quiet_op; refine hK _ ?_; clear hK K) | (refine rw_skip rfl (by rfl) ?_))
  clear cv1 cv2
  refine rw_call rfl (by rfl) (by rfl) (fun K hK => ?_)
  go_simp
  refine (rput_any HXB.out.1 HXB.out.2).mono ?_
  rw [← HE.out, ← HEL.out]
  rintro e w6 ⟨p6, c6, rfl, h6, x6⟩
  refine hK _ _ x6 ?_
  clear hK K
  have X6 := Lib.hid ((Ext.drew w5).tr x6)
  have cv3 := fun d os => str_of (h6.sl.ext (Ext.reg w6 d os))
  have cv4 := fun d os => str_of (S5.out.ext (X6.out.tr (Ext.reg w6 d os)))
  have cv5 := fun d os => str_of (A.out.ext (X.out.tr (X6.out.tr (Ext.reg w6 d os))))
  clear h6 x6
  repeat (first | (refine rw_quiet rfl (by rfl) (by rfl) (fun K hK => ?_); go_big_quiet_op; refine hK _ ?_; clear hK K) | (refine rw_skip rfl (by rfl) ?_))
  clear cv3 cv4 cv5
  refine rw_call rfl (by rfl) (by rfl) (fun K hK => ?_)
  go_simp
  refine (rputtext_any (by omega)).mono ?_
  rw [← HT.out, ← HTL.out]
  rintro e w7 ⟨p7, c7, rfl, h7, x7⟩
  refine hK _ _ x7 ?_
  clear hK K
  have cv6 := fun d os => str_of (h7.sl.ext (Ext.reg w7 d os))
  replace X := Lib.hid (X.out.tr (X6.out.tr x7))
  have R5 := Lib.hid (S5.out.ext (X6.out.tr x7))
  have R4 := Lib.hid (R3.out.ext (X6.out.tr x7))
  clear h7 x7 S5 R3 X6
  repeat (first | (refine rw_quiet rfl (by rfl) (by rfl) (fun K hK => ?_); go_big_quiet_op; refine hK _ ?_; clear hK K) | (refine rw_skip rfl (by rfl) ?_))
  refine rw_nil ?_
  clear cv6 cat1 cat2 no1 no2
  have cc1 := cut_from p3 (na + el) c3 na (by omega) w7
  rw [Nat.add_sub_cancel_left] at cc1
  have D1 := Lib.hid (R4.out.drop na (by omega))
  rw [Nat.add_sub_cancel_left] at D1
  have D1b : L1.drop na = E := by rw [HL1.out, ← A.out.len, List.drop_left]
  rw [D1b] at D1
  go_wp2_with (at_builtin; refine wpList_app (o := ⟨some 60, _, _, _, _, _⟩) rfl _ _ 22 rfl w7.heap.size Try.underlying22 info5 none 0 0 [] rfl (OwP.nil _ _) (tailP p3 c3 na) el (c3 - na) E rfl D1.out (by omega) (by omega) ?_)
  intro p8 c8 w8 h8 g8
  have H8 := Lib.hid h8
  have X8 : Hid (Ext w7 w8) := Lib.hid (Ext.own (Ext.rfl' w7) (OwP.nil w7 _) g8 rfl)
  have z8 := X8.out.size
  clear h8 g8 cc1 D1 D1b R4
  go_wp2_with (at_builtin; refine wpList_app (o := ⟨some 62, _, _, _, _, _⟩) rfl _ _ 22 rfl w7.heap.size Try.underlying22 info5 p8 el c8 E rfl H8.out q nb cb lb rfl (B.out.ext (X.out.tr X8.out)) (by omega) (by omega) ?_)
  intro p9 c9 w9 h9 g9
  have H9 := Lib.hid h9.sl
  have X9 : Hid (Ext w7 w9) := Lib.hid (Below.grown X8.out g9 (by omega) (fun k hk => (H8.out.lt k hk).1))
  replace X := Lib.hid (X.out.tr X9.out)
  have R6 := Lib.hid (R5.out.ext X9.out)
  clear h9 g9 H8 X8 z8 X9 R5
  have gg := getL_enc KZ.out lb
  rw [unzig_zig, ← HE.out, ← HEL.out] at gg
  have GG := Lib.hid gg
  clear gg
  go_wp2_with fail
  refine (get_any H9.out (by omega)).mono ?_
  rw [GG.out]
  rintro e w10 ⟨rfl, rfl⟩
  have cc1 := cut_from p5 (na + tl) c5 na (by omega) w9
  rw [Nat.add_sub_cancel_left] at cc1
  have D1 := Lib.hid (R6.out.drop na (by omega))
  rw [Nat.add_sub_cancel_left] at D1
  have D1b : L2.drop na = T := by rw [HL2.out, ← A.out.len, List.drop_left]
  rw [D1b] at D1
  go_wp2_with (at_builtin; refine wpList_app (o := ⟨some 72, _, _, _, _, _⟩) rfl _ _ 22 rfl w9.heap.size Try.underlying22 info5 none 0 0 [] rfl (OwP.nil _ _) (tailP p5 c5 na) tl (c5 - na) T rfl D1.out (by omega) (by omega) ?_)
  intro p11 c11 w11 h11 g11
  have H11 := Lib.hid h11
  have X11 : Hid (Ext w9 w11) := Lib.hid (Ext.own (Ext.rfl' w9) (OwP.nil w9 _) g11 rfl)
  have z11 := X11.out.size
  clear h11 g11 cc1 D1 D1b R6
  go_wp2_with (at_builtin; refine wpList_app (o := ⟨some 74, _, _, _, _, _⟩) rfl _ _ 22 rfl w9.heap.size Try.underlying22 info5 p11 tl c11 T rfl H11.out q nb cb lb rfl (B.out.ext (X.out.tr X11.out)) (by omega) (by omega) ?_)
  intro p12 c12 w12 h12 g12
  have H12 := Lib.hid h12.sl
  have X12 : Hid (Ext w9 w12) := Lib.hid (Below.grown X11.out g12 (by omega) (fun k hk => (H11.out.lt k hk).1))
  replace X := Lib.hid (X.out.tr X12.out)
  clear h12 g12 H11 X11 z11 X12
  have gg := textL_txt (s := t.data.toList) (by simp; omega) lb
  rw [← HT.out, ← HTL.out] at gg
  have G2 := Lib.hid gg
  clear gg
  go_wp2_with fail
  refine (gettext_any H12.out (by omega)).mono ?_
  rw [G2.out]
  rintro e w13 ⟨rfl, rfl⟩
  have d1 : ((na : Int) + (el : Int) - (na : Int)) = (el : Int) := by omega
  have d2 : ((na : Int) + (tl : Int) - (na : Int)) = (tl : Int) := by omega
  go_wp2
  go_ret
  exact ⟨rfl, X.out⟩
end Go.Proofs.Ytnahlgokjppcoaa
