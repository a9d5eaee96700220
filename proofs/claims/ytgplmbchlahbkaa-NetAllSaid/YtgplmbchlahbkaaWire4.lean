/-
  The reference's MayMsg, where its first test fails: at any messages. Conditions stand at each.
-/
import Derived.Test.YtgplmbchlahbkaaWire3
namespace Go.Proofs.Ytgplmbchlahbkaa
open Go Go.Sort Go.RowKit
set_option linter.unusedVariables false

def nm1 (kd fr to bt vw ls nm ck : Int) : Prop := ¬ kd < 1 ∧ ¬ 13 < kd ∧ ¬ fr < 1 ∧ ¬ 7 < fr ∧ ¬ to < 1 ∧ ¬ 7 < to ∧ ¬ fr = to ∧ ¬ bt < 1 ∧ inB 0 1099511627776 bt = true ∧ inB 0 1099511627776 vw = true ∧ inB 0 1099511627776 ls = true ∧ inB 0 1099511627776 nm = true ∧ inB 0 1099511627776 ck = true

set_option maxRecDepth 8000 in
set_option maxHeartbeats 16000000 in
theorem rmaym_0 {w : World} {kd fr to bt vw ls mb po cm nm ck : Int} {ye : Bool} {p : Option Addr} {n cap : Nat} {L : List EnD} (h : SlS 7 w p n cap (L.map enL)) (hL : ∀ e ∈ L, EnOk e) (hno : ¬ nm1 kd fr to bt vw ls nm ck) :
    Calls Try.prog 17 #[msV ⟨kd, fr, to, bt, vw, ls, mb, po, cm, nm, ck, ye⟩ p n cap] w fun e w' => e = .returned (.bool (mayM ⟨kd, fr, to, bt, vw, ls, mb, po, cm, nm, ck, ye⟩ L)) ∧ Ext w w' := by
  have hn : n ≤ 9223372036854775807 := Nat.le_trans h.le h.max
  have N := Lib.hid (en_len h)
  have HL := Lib.hid hL
  have D := Lib.hid (BoxV.new w w.heap.size (msA ⟨kd, fr, to, bt, vw, ls, mb, po, cm, nm, ck, ye⟩ p n cap) (msL ⟨kd, fr, to, bt, vw, ls, mb, po, cm, nm, ck, ye⟩ p n cap) 31 _ rfl (Nat.le_refl _) rfl)
  have X := Lib.hid (Ext.alloc w (.cells (msA ⟨kd, fr, to, bt, vw, ls, mb, po, cm, nm, ck, ye⟩ p n cap) 31))
  have S0 := Lib.hid h
  have S := Lib.hid (h.ext (Ext.alloc w (.cells (msA ⟨kd, fr, to, bt, vw, ls, mb, po, cm, nm, ck, ye⟩ p n cap) 31)))
  obtain ⟨B, hB⟩ : ∃ B, B = mayM ⟨kd, fr, to, bt, vw, ls, mb, po, cm, nm, ck, ye⟩ L := ⟨_, rfl⟩
  rw [← hB]
  have HB := Lib.hid hB
  clear h hL hB
  unfold nm1 at hno
  have c0 := D.out.c 0 _ rfl
  have c1 := D.out.c 1 _ rfl
  have c2 := D.out.c 2 _ rfl
  have c3 := D.out.c 3 _ rfl
  have c4 := D.out.c 4 _ rfl
  have c5 := D.out.c 5 _ rfl
  have c6 := D.out.c 6 _ rfl
  have c7 := D.out.c 7 _ rfl
  have c8 := D.out.c 8 _ rfl
  have c9 := D.out.c 9 _ rfl
  have c10 := D.out.c 10 _ rfl
  have c11 := D.out.c 11 _ rfl
  have c12 := D.out.c 12 _ rfl
  try simp only at c0 c1 c2 c3 c4 c5 c6 c7 c8 c9 c10 c11 c12
  by_cases d0 : kd < 1
  · have hBf : B = false := by
      rw [HB.out]
      refine Bool.eq_false_iff.2 (fun h => ?_)
      obtain ⟨a1, a2, a3, -⟩ := mayM_iff.1 h
      have b1 := (who_iff _).1 a1
      have b2 := (what_iff _).1 a2
      simp only at b1 b2 a3
      rw [N.out] at a3
      omega
    subst hBf
    go_enter Try.func17, Try.ntmps17
    go_wp2
    go_ret
    exact ⟨rfl, X.out⟩
  by_cases d1 : 13 < kd
  · have hBf : B = false := by
      rw [HB.out]
      refine Bool.eq_false_iff.2 (fun h => ?_)
      obtain ⟨a1, a2, a3, -⟩ := mayM_iff.1 h
      have b1 := (who_iff _).1 a1
      have b2 := (what_iff _).1 a2
      simp only at b1 b2 a3
      rw [N.out] at a3
      omega
    subst hBf
    go_enter Try.func17, Try.ntmps17
    go_wp2
    go_ret
    exact ⟨rfl, X.out⟩
  by_cases d2 : fr < 1
  · have hBf : B = false := by
      rw [HB.out]
      refine Bool.eq_false_iff.2 (fun h => ?_)
      obtain ⟨a1, a2, a3, -⟩ := mayM_iff.1 h
      have b1 := (who_iff _).1 a1
      have b2 := (what_iff _).1 a2
      simp only at b1 b2 a3
      rw [N.out] at a3
      omega
    subst hBf
    go_enter Try.func17, Try.ntmps17
    go_wp2
    go_ret
    exact ⟨rfl, X.out⟩
  by_cases d3 : 7 < fr
  · have hBf : B = false := by
      rw [HB.out]
      refine Bool.eq_false_iff.2 (fun h => ?_)
      obtain ⟨a1, a2, a3, -⟩ := mayM_iff.1 h
      have b1 := (who_iff _).1 a1
      have b2 := (what_iff _).1 a2
      simp only at b1 b2 a3
      rw [N.out] at a3
      omega
    subst hBf
    go_enter Try.func17, Try.ntmps17
    go_wp2
    go_ret
    exact ⟨rfl, X.out⟩
  by_cases d4 : to < 1
  · have hBf : B = false := by
      rw [HB.out]
      refine Bool.eq_false_iff.2 (fun h => ?_)
      obtain ⟨a1, a2, a3, -⟩ := mayM_iff.1 h
      have b1 := (who_iff _).1 a1
      have b2 := (what_iff _).1 a2
      simp only at b1 b2 a3
      rw [N.out] at a3
      omega
    subst hBf
    go_enter Try.func17, Try.ntmps17
    go_wp2
    go_ret
    exact ⟨rfl, X.out⟩
  by_cases d5 : 7 < to
  · have hBf : B = false := by
      rw [HB.out]
      refine Bool.eq_false_iff.2 (fun h => ?_)
      obtain ⟨a1, a2, a3, -⟩ := mayM_iff.1 h
      have b1 := (who_iff _).1 a1
      have b2 := (what_iff _).1 a2
      simp only at b1 b2 a3
      rw [N.out] at a3
      omega
    subst hBf
    go_enter Try.func17, Try.ntmps17
    go_wp2
    go_ret
    exact ⟨rfl, X.out⟩
  by_cases d6 : fr = to
  · have f1 : (fr == to) = true := beq_iff_eq.2 d6
    have hBf : B = false := by
      rw [HB.out]
      refine Bool.eq_false_iff.2 (fun h => ?_)
      obtain ⟨a1, a2, a3, -⟩ := mayM_iff.1 h
      have b1 := (who_iff _).1 a1
      have b2 := (what_iff _).1 a2
      simp only at b1 b2 a3
      rw [N.out] at a3
      omega
    subst hBf
    clear d6
    go_enter Try.func17, Try.ntmps17
    go_wp2
    go_ret
    exact ⟨rfl, X.out⟩
  have f1 : (fr == to) = false := beq_eq_false_iff_ne.2 d6
  have f2 := Lib.hid d6
  clear d6
  by_cases d7 : bt < 1
  · have hBf : B = false := by
      rw [HB.out]
      refine Bool.eq_false_iff.2 (fun h => ?_)
      obtain ⟨a1, a2, a3, -⟩ := mayM_iff.1 h
      have b1 := (who_iff _).1 a1
      have b2 := (what_iff _).1 a2
      simp only at b1 b2 a3
      rw [N.out] at a3
      omega
    subst hBf
    go_enter Try.func17, Try.ntmps17
    go_wp2
    go_ret
    exact ⟨rfl, X.out⟩
  by_cases c108 : inB 0 1099511627776 bt = true
  rotate_left
  · have g_bt : Hid (inB 0 1099511627776 bt = false) := Lib.hid (by simpa using c108)
    have hBf : B = false := by
      rw [HB.out]
      refine Bool.eq_false_iff.2 (fun h => ?_)
      obtain ⟨a1, a2, a3, -⟩ := mayM_iff.1 h
      have b1 := (who_iff _).1 a1
      have b2 := (what_iff _).1 a2
      simp only at b1 b2 a3
      rw [N.out] at a3
      exact c108 (by simp [inB]; omega)
    subst hBf
    clear c108
    go_enter Try.func17, Try.ntmps17
    go_wp2_with fail
    refine (rnum_any bt _).mono ?_
    rw [show inB 0 1099511627776 bt = false from g_bt.out]
    rintro e w2 ⟨rfl, rfl⟩
    go_wp2
    go_ret
    exact ⟨rfl, X.out⟩
  have g_bt : Hid (inB 0 1099511627776 bt = true) := Lib.hid c108
  clear c108
  by_cases c109 : inB 0 1099511627776 vw = true
  rotate_left
  · have g_vw : Hid (inB 0 1099511627776 vw = false) := Lib.hid (by simpa using c109)
    have hBf : B = false := by
      rw [HB.out]
      refine Bool.eq_false_iff.2 (fun h => ?_)
      obtain ⟨a1, a2, a3, -⟩ := mayM_iff.1 h
      have b1 := (who_iff _).1 a1
      have b2 := (what_iff _).1 a2
      simp only at b1 b2 a3
      rw [N.out] at a3
      exact c109 (by simp [inB]; omega)
    subst hBf
    clear c109
    go_enter Try.func17, Try.ntmps17
    go_wp2_with fail
    refine (rnum_any bt _).mono ?_
    rw [show inB 0 1099511627776 bt = true from g_bt.out]
    rintro e w2 ⟨rfl, rfl⟩
    go_wp2_with fail
    refine (rnum_any vw _).mono ?_
    rw [show inB 0 1099511627776 vw = false from g_vw.out]
    rintro e w2 ⟨rfl, rfl⟩
    go_wp2
    go_ret
    exact ⟨rfl, X.out⟩
  have g_vw : Hid (inB 0 1099511627776 vw = true) := Lib.hid c109
  clear c109
  by_cases c110 : inB 0 1099511627776 ls = true
  rotate_left
  · have g_ls : Hid (inB 0 1099511627776 ls = false) := Lib.hid (by simpa using c110)
    have hBf : B = false := by
      rw [HB.out]
      refine Bool.eq_false_iff.2 (fun h => ?_)
      obtain ⟨a1, a2, a3, -⟩ := mayM_iff.1 h
      have b1 := (who_iff _).1 a1
      have b2 := (what_iff _).1 a2
      simp only at b1 b2 a3
      rw [N.out] at a3
      exact c110 (by simp [inB]; omega)
    subst hBf
    clear c110
    go_enter Try.func17, Try.ntmps17
    go_wp2_with fail
    refine (rnum_any bt _).mono ?_
    rw [show inB 0 1099511627776 bt = true from g_bt.out]
    rintro e w2 ⟨rfl, rfl⟩
    go_wp2_with fail
    refine (rnum_any vw _).mono ?_
    rw [show inB 0 1099511627776 vw = true from g_vw.out]
    rintro e w2 ⟨rfl, rfl⟩
    go_wp2_with fail
    refine (rnum_any ls _).mono ?_
    rw [show inB 0 1099511627776 ls = false from g_ls.out]
    rintro e w2 ⟨rfl, rfl⟩
    go_wp2
    go_ret
    exact ⟨rfl, X.out⟩
  have g_ls : Hid (inB 0 1099511627776 ls = true) := Lib.hid c110
  clear c110
  by_cases c111 : inB 0 1099511627776 nm = true
  rotate_left
  · have g_nm : Hid (inB 0 1099511627776 nm = false) := Lib.hid (by simpa using c111)
    have hBf : B = false := by
      rw [HB.out]
      refine Bool.eq_false_iff.2 (fun h => ?_)
      obtain ⟨a1, a2, a3, -⟩ := mayM_iff.1 h
      have b1 := (who_iff _).1 a1
      have b2 := (what_iff _).1 a2
      simp only at b1 b2 a3
      rw [N.out] at a3
      exact c111 (by simp [inB]; omega)
    subst hBf
    clear c111
    go_enter Try.func17, Try.ntmps17
    go_wp2_with fail
    refine (rnum_any bt _).mono ?_
    rw [show inB 0 1099511627776 bt = true from g_bt.out]
    rintro e w2 ⟨rfl, rfl⟩
    go_wp2_with fail
    refine (rnum_any vw _).mono ?_
    rw [show inB 0 1099511627776 vw = true from g_vw.out]
    rintro e w2 ⟨rfl, rfl⟩
    go_wp2_with fail
    refine (rnum_any ls _).mono ?_
    rw [show inB 0 1099511627776 ls = true from g_ls.out]
    rintro e w2 ⟨rfl, rfl⟩
    go_wp2_with fail
    refine (rnum_any nm _).mono ?_
    rw [show inB 0 1099511627776 nm = false from g_nm.out]
    rintro e w2 ⟨rfl, rfl⟩
    go_wp2
    go_ret
    exact ⟨rfl, X.out⟩
  have g_nm : Hid (inB 0 1099511627776 nm = true) := Lib.hid c111
  clear c111
  by_cases c112 : inB 0 1099511627776 ck = true
  rotate_left
  · have g_ck : Hid (inB 0 1099511627776 ck = false) := Lib.hid (by simpa using c112)
    have hBf : B = false := by
      rw [HB.out]
      refine Bool.eq_false_iff.2 (fun h => ?_)
      obtain ⟨a1, a2, a3, -⟩ := mayM_iff.1 h
      have b1 := (who_iff _).1 a1
      have b2 := (what_iff _).1 a2
      simp only at b1 b2 a3
      rw [N.out] at a3
      exact c112 (by simp [inB]; omega)
    subst hBf
    clear c112
    go_enter Try.func17, Try.ntmps17
    go_wp2_with fail
    refine (rnum_any bt _).mono ?_
    rw [show inB 0 1099511627776 bt = true from g_bt.out]
    rintro e w2 ⟨rfl, rfl⟩
    go_wp2_with fail
    refine (rnum_any vw _).mono ?_
    rw [show inB 0 1099511627776 vw = true from g_vw.out]
    rintro e w2 ⟨rfl, rfl⟩
    go_wp2_with fail
    refine (rnum_any ls _).mono ?_
    rw [show inB 0 1099511627776 ls = true from g_ls.out]
    rintro e w2 ⟨rfl, rfl⟩
    go_wp2_with fail
    refine (rnum_any nm _).mono ?_
    rw [show inB 0 1099511627776 nm = true from g_nm.out]
    rintro e w2 ⟨rfl, rfl⟩
    go_wp2_with fail
    refine (rnum_any ck _).mono ?_
    rw [show inB 0 1099511627776 ck = false from g_ck.out]
    rintro e w2 ⟨rfl, rfl⟩
    go_wp2
    go_ret
    exact ⟨rfl, X.out⟩
  have g_ck : Hid (inB 0 1099511627776 ck = true) := Lib.hid c112
  clear c112
  exact absurd ⟨d0, d1, d2, d3, d4, d5, f2.out, d7, g_bt.out, g_vw.out, g_ls.out, g_nm.out, g_ck.out⟩ hno
end Go.Proofs.Ytgplmbchlahbkaa
