/-
  The reference's MayMsg: at any messages. Conditions stand at each.
-/
import Derived.Test.YtgplmbchlahbkaaWire4
namespace Go.Proofs.Ytgplmbchlahbkaa
open Go Go.Sort Go.RowKit
set_option linter.unusedVariables false

set_option maxRecDepth 8000 in
set_option maxHeartbeats 16000000 in
theorem rmaym_1 {w : World} {kd fr to bt vw ls mb po cm nm ck : Int} {ye : Bool} {p : Option Addr} {n cap : Nat} {L : List EnD} (h : SlS 7 w p n cap (L.map enL)) (hL : ∀ e ∈ L, EnOk e) (hy : nm1 kd fr to bt vw ls nm ck) :
    Calls Try.prog 17 #[msV ⟨kd, fr, to, bt, vw, ls, mb, po, cm, nm, ck, ye⟩ p n cap] w fun e w' => e = .returned (.bool (mayM ⟨kd, fr, to, bt, vw, ls, mb, po, cm, nm, ck, ye⟩ L)) ∧ Ext w w' := by
  have hn : n ≤ 9223372036854775807 := Nat.le_trans h.le h.max
  have N := Lib.hid (en_len h)
  have HL := Lib.hid hL
  have D := Lib.hid (BoxV.new w w.heap.size (msA ⟨kd, fr, to, bt, vw, ls, mb, po, cm, nm, ck, ye⟩ p n cap) (msL ⟨kd, fr, to, bt, vw, ls, mb, po, cm, nm, ck, ye⟩ p n cap) 31 _ rfl (Nat.le_refl _) rfl)
  have X := Lib.hid (Ext.alloc w (.cells (msA ⟨kd, fr, to, bt, vw, ls, mb, po, cm, nm, ck, ye⟩ p n cap) 31))
  have S0 := Lib.hid h
  have S := Lib.hid (h.ext (Ext.alloc w (.cells (msA ⟨kd, fr, to, bt, vw, ls, mb, po, cm, nm, ck, ye⟩ p n cap) 31)))
  obtain ⟨B, hB⟩ : ∃ B, B = mayM ⟨kd, fr, to, bt, vw, ls, mb, po, cm, nm, ck, ye⟩ L := ⟨_, rfl⟩
  rw [← hB]
  have HB := Lib.hid hB
  clear h hL hB
  unfold nm1 at hy
  have c0 := D.out.c 0 _ rfl
  have c1 := D.out.c 1 _ rfl
  have c2 := D.out.c 2 _ rfl
  have c3 := D.out.c 3 _ rfl
  have c4 := D.out.c 4 _ rfl
  have c5 := D.out.c 5 _ rfl
  have c6 := D.out.c 6 _ rfl
  have c7 := D.out.c 7 _ rfl
  have c8 := D.out.c 8 _ rfl
  have c9 := D.out.c 9 _ rfl
  have c10 := D.out.c 10 _ rfl
  have c11 := D.out.c 11 _ rfl
  have c12 := D.out.c 12 _ rfl
  try simp only at c0 c1 c2 c3 c4 c5 c6 c7 c8 c9 c10 c11 c12
  obtain ⟨d0, d1, d2, d3, d4, d5, d6, d7, g8, g9, g10, g11, g12⟩ := hy
  have f1 : (fr == to) = false := beq_eq_false_iff_ne.2 d6
  have f2 := Lib.hid d6
  clear d6
  have g_bt : Hid (inB 0 1099511627776 bt = true) := Lib.hid g8
  clear g8
  have g_vw : Hid (inB 0 1099511627776 vw = true) := Lib.hid g9
  clear g9
  have g_ls : Hid (inB 0 1099511627776 ls = true) := Lib.hid g10
  clear g10
  have g_nm : Hid (inB 0 1099511627776 nm = true) := Lib.hid g11
  clear g11
  have g_ck : Hid (inB 0 1099511627776 ck = true) := Lib.hid g12
  clear g12
  by_cases e0 : mb < 0
  · have hBf : B = false := by
      rw [HB.out]
      refine Bool.eq_false_iff.2 (fun h => ?_)
      obtain ⟨a1, a2, a3, -⟩ := mayM_iff.1 h
      have b1 := (who_iff _).1 a1
      have b2 := (what_iff _).1 a2
      simp only at b1 b2 a3
      rw [N.out] at a3
      omega
    subst hBf
    go_enter Try.func17, Try.ntmps17
    go_wp2_with fail
    refine (rnum_any bt _).mono ?_
    rw [show inB 0 1099511627776 bt = true from g_bt.out]
    rintro e w2 ⟨rfl, rfl⟩
    go_wp2_with fail
    refine (rnum_any vw _).mono ?_
    rw [show inB 0 1099511627776 vw = true from g_vw.out]
    rintro e w2 ⟨rfl, rfl⟩
    go_wp2_with fail
    refine (rnum_any ls _).mono ?_
    rw [show inB 0 1099511627776 ls = true from g_ls.out]
    rintro e w2 ⟨rfl, rfl⟩
    go_wp2_with fail
    refine (rnum_any nm _).mono ?_
    rw [show inB 0 1099511627776 nm = true from g_nm.out]
    rintro e w2 ⟨rfl, rfl⟩
    go_wp2_with fail
    refine (rnum_any ck _).mono ?_
    rw [show inB 0 1099511627776 ck = true from g_ck.out]
    rintro e w2 ⟨rfl, rfl⟩
    go_wp2
    go_ret
    exact ⟨rfl, X.out⟩
  by_cases e1 : 127 < mb
  · have hBf : B = false := by
      rw [HB.out]
      refine Bool.eq_false_iff.2 (fun h => ?_)
      obtain ⟨a1, a2, a3, -⟩ := mayM_iff.1 h
      have b1 := (who_iff _).1 a1
      have b2 := (what_iff _).1 a2
      simp only at b1 b2 a3
      rw [N.out] at a3
      omega
    subst hBf
    go_enter Try.func17, Try.ntmps17
    go_wp2_with fail
    refine (rnum_any bt _).mono ?_
    rw [show inB 0 1099511627776 bt = true from g_bt.out]
    rintro e w2 ⟨rfl, rfl⟩
    go_wp2_with fail
    refine (rnum_any vw _).mono ?_
    rw [show inB 0 1099511627776 vw = true from g_vw.out]
    rintro e w2 ⟨rfl, rfl⟩
    go_wp2_with fail
    refine (rnum_any ls _).mono ?_
    rw [show inB 0 1099511627776 ls = true from g_ls.out]
    rintro e w2 ⟨rfl, rfl⟩
    go_wp2_with fail
    refine (rnum_any nm _).mono ?_
    rw [show inB 0 1099511627776 nm = true from g_nm.out]
    rintro e w2 ⟨rfl, rfl⟩
    go_wp2_with fail
    refine (rnum_any ck _).mono ?_
    rw [show inB 0 1099511627776 ck = true from g_ck.out]
    rintro e w2 ⟨rfl, rfl⟩
    go_wp2
    go_ret
    exact ⟨rfl, X.out⟩
  by_cases e2 : po < 0
  · have hBf : B = false := by
      rw [HB.out]
      refine Bool.eq_false_iff.2 (fun h => ?_)
      obtain ⟨a1, a2, a3, -⟩ := mayM_iff.1 h
      have b1 := (who_iff _).1 a1
      have b2 := (what_iff _).1 a2
      simp only at b1 b2 a3
      rw [N.out] at a3
      omega
    subst hBf
    go_enter Try.func17, Try.ntmps17
    go_wp2_with fail
    refine (rnum_any bt _).mono ?_
    rw [show inB 0 1099511627776 bt = true from g_bt.out]
    rintro e w2 ⟨rfl, rfl⟩
    go_wp2_with fail
    refine (rnum_any vw _).mono ?_
    rw [show inB 0 1099511627776 vw = true from g_vw.out]
    rintro e w2 ⟨rfl, rfl⟩
    go_wp2_with fail
    refine (rnum_any ls _).mono ?_
    rw [show inB 0 1099511627776 ls = true from g_ls.out]
    rintro e w2 ⟨rfl, rfl⟩
    go_wp2_with fail
    refine (rnum_any nm _).mono ?_
    rw [show inB 0 1099511627776 nm = true from g_nm.out]
    rintro e w2 ⟨rfl, rfl⟩
    go_wp2_with fail
    refine (rnum_any ck _).mono ?_
    rw [show inB 0 1099511627776 ck = true from g_ck.out]
    rintro e w2 ⟨rfl, rfl⟩
    go_wp2
    go_ret
    exact ⟨rfl, X.out⟩
  by_cases e3 : 60 < po
  · have hBf : B = false := by
      rw [HB.out]
      refine Bool.eq_false_iff.2 (fun h => ?_)
      obtain ⟨a1, a2, a3, -⟩ := mayM_iff.1 h
      have b1 := (who_iff _).1 a1
      have b2 := (what_iff _).1 a2
      simp only at b1 b2 a3
      rw [N.out] at a3
      omega
    subst hBf
    go_enter Try.func17, Try.ntmps17
    go_wp2_with fail
    refine (rnum_any bt _).mono ?_
    rw [show inB 0 1099511627776 bt = true from g_bt.out]
    rintro e w2 ⟨rfl, rfl⟩
    go_wp2_with fail
    refine (rnum_any vw _).mono ?_
    rw [show inB 0 1099511627776 vw = true from g_vw.out]
    rintro e w2 ⟨rfl, rfl⟩
    go_wp2_with fail
    refine (rnum_any ls _).mono ?_
    rw [show inB 0 1099511627776 ls = true from g_ls.out]
    rintro e w2 ⟨rfl, rfl⟩
    go_wp2_with fail
    refine (rnum_any nm _).mono ?_
    rw [show inB 0 1099511627776 nm = true from g_nm.out]
    rintro e w2 ⟨rfl, rfl⟩
    go_wp2_with fail
    refine (rnum_any ck _).mono ?_
    rw [show inB 0 1099511627776 ck = true from g_ck.out]
    rintro e w2 ⟨rfl, rfl⟩
    go_wp2
    go_ret
    exact ⟨rfl, X.out⟩
  by_cases e4 : cm < 0
  · have hBf : B = false := by
      rw [HB.out]
      refine Bool.eq_false_iff.2 (fun h => ?_)
      obtain ⟨a1, a2, a3, -⟩ := mayM_iff.1 h
      have b1 := (who_iff _).1 a1
      have b2 := (what_iff _).1 a2
      simp only at b1 b2 a3
      rw [N.out] at a3
      omega
    subst hBf
    go_enter Try.func17, Try.ntmps17
    go_wp2_with fail
    refine (rnum_any bt _).mono ?_
    rw [show inB 0 1099511627776 bt = true from g_bt.out]
    rintro e w2 ⟨rfl, rfl⟩
    go_wp2_with fail
    refine (rnum_any vw _).mono ?_
    rw [show inB 0 1099511627776 vw = true from g_vw.out]
    rintro e w2 ⟨rfl, rfl⟩
    go_wp2_with fail
    refine (rnum_any ls _).mono ?_
    rw [show inB 0 1099511627776 ls = true from g_ls.out]
    rintro e w2 ⟨rfl, rfl⟩
    go_wp2_with fail
    refine (rnum_any nm _).mono ?_
    rw [show inB 0 1099511627776 nm = true from g_nm.out]
    rintro e w2 ⟨rfl, rfl⟩
    go_wp2_with fail
    refine (rnum_any ck _).mono ?_
    rw [show inB 0 1099511627776 ck = true from g_ck.out]
    rintro e w2 ⟨rfl, rfl⟩
    go_wp2
    go_ret
    exact ⟨rfl, X.out⟩
  by_cases e5 : 60 < cm
  · have hBf : B = false := by
      rw [HB.out]
      refine Bool.eq_false_iff.2 (fun h => ?_)
      obtain ⟨a1, a2, a3, -⟩ := mayM_iff.1 h
      have b1 := (who_iff _).1 a1
      have b2 := (what_iff _).1 a2
      simp only at b1 b2 a3
      rw [N.out] at a3
      omega
    subst hBf
    go_enter Try.func17, Try.ntmps17
    go_wp2_with fail
    refine (rnum_any bt _).mono ?_
    rw [show inB 0 1099511627776 bt = true from g_bt.out]
    rintro e w2 ⟨rfl, rfl⟩
    go_wp2_with fail
    refine (rnum_any vw _).mono ?_
    rw [show inB 0 1099511627776 vw = true from g_vw.out]
    rintro e w2 ⟨rfl, rfl⟩
    go_wp2_with fail
    refine (rnum_any ls _).mono ?_
    rw [show inB 0 1099511627776 ls = true from g_ls.out]
    rintro e w2 ⟨rfl, rfl⟩
    go_wp2_with fail
    refine (rnum_any nm _).mono ?_
    rw [show inB 0 1099511627776 nm = true from g_nm.out]
    rintro e w2 ⟨rfl, rfl⟩
    go_wp2_with fail
    refine (rnum_any ck _).mono ?_
    rw [show inB 0 1099511627776 ck = true from g_ck.out]
    rintro e w2 ⟨rfl, rfl⟩
    go_wp2
    go_ret
    exact ⟨rfl, X.out⟩
  by_cases e6 : 60 < n
  · have hBf : B = false := by
      rw [HB.out]
      refine Bool.eq_false_iff.2 (fun h => ?_)
      obtain ⟨a1, a2, a3, -⟩ := mayM_iff.1 h
      have b1 := (who_iff _).1 a1
      have b2 := (what_iff _).1 a2
      simp only at b1 b2 a3
      rw [N.out] at a3
      omega
    subst hBf
    go_enter Try.func17, Try.ntmps17
    go_wp2_with fail
    refine (rnum_any bt _).mono ?_
    rw [show inB 0 1099511627776 bt = true from g_bt.out]
    rintro e w2 ⟨rfl, rfl⟩
    go_wp2_with fail
    refine (rnum_any vw _).mono ?_
    rw [show inB 0 1099511627776 vw = true from g_vw.out]
    rintro e w2 ⟨rfl, rfl⟩
    go_wp2_with fail
    refine (rnum_any ls _).mono ?_
    rw [show inB 0 1099511627776 ls = true from g_ls.out]
    rintro e w2 ⟨rfl, rfl⟩
    go_wp2_with fail
    refine (rnum_any nm _).mono ?_
    rw [show inB 0 1099511627776 nm = true from g_nm.out]
    rintro e w2 ⟨rfl, rfl⟩
    go_wp2_with fail
    refine (rnum_any ck _).mono ?_
    rw [show inB 0 1099511627776 ck = true from g_ck.out]
    rintro e w2 ⟨rfl, rfl⟩
    go_wp2
    go_ret
    exact ⟨rfl, X.out⟩
  have WH : Hid (B = L.all mayB) := Lib.hid (by
    have k1 := f2.out
    have k2 := g_bt.out
    have k3 := g_vw.out
    have k4 := g_ls.out
    have k5 := g_nm.out
    have k6 := g_ck.out
    simp only [inB, Bool.and_eq_true, decide_eq_true_eq] at k2 k3 k4 k5 k6
    have a1 : whoB ⟨kd, fr, to, bt, vw, ls, mb, po, cm, nm, ck, ye⟩ = true := (who_iff _).2 (by simp only; omega)
    have a2 : whatB ⟨kd, fr, to, bt, vw, ls, mb, po, cm, nm, ck, ye⟩ = true := (what_iff _).2 (by simp only; omega)
    rw [HB.out]
    unfold mayM
    rw [a1, a2, decide_eq_true (by rw [N.out]; omega)]
    simp)
  clear c0 c1 c2 c3 c4 c5 c6 c7 c8 c9 c10 c11 c12
  have c0 := D.out.c 0 _ rfl
  have c1 := D.out.c 1 _ rfl
  have c2 := D.out.c 2 _ rfl
  have c3 := D.out.c 3 _ rfl
  have c4 := D.out.c 4 _ rfl
  have c5 := D.out.c 5 _ rfl
  have c6 := D.out.c 6 _ rfl
  have c7 := D.out.c 7 _ rfl
  have c8 := D.out.c 8 _ rfl
  have c9 := D.out.c 9 _ rfl
  have c10 := D.out.c 10 _ rfl
  have c11 := D.out.c 11 _ rfl
  have c12 := D.out.c 12 _ rfl
  try simp only at c0 c1 c2 c3 c4 c5 c6 c7 c8 c9 c10 c11 c12
  go_enter Try.func17, Try.ntmps17
  go_wp2_with fail
  refine (rnum_any bt _).mono ?_
  rw [show inB 0 1099511627776 bt = true from g_bt.out]
  rintro e w2 ⟨rfl, rfl⟩
  go_wp2_with fail
  refine (rnum_any vw _).mono ?_
  rw [show inB 0 1099511627776 vw = true from g_vw.out]
  rintro e w2 ⟨rfl, rfl⟩
  go_wp2_with fail
  refine (rnum_any ls _).mono ?_
  rw [show inB 0 1099511627776 ls = true from g_ls.out]
  rintro e w2 ⟨rfl, rfl⟩
  go_wp2_with fail
  refine (rnum_any nm _).mono ?_
  rw [show inB 0 1099511627776 nm = true from g_nm.out]
  rintro e w2 ⟨rfl, rfl⟩
  go_wp2_with fail
  refine (rnum_any ck _).mono ?_
  rw [show inB 0 1099511627776 ck = true from g_ck.out]
  rintro e w2 ⟨rfl, rfl⟩
  go_wp2
  clear c0 c1 c2 c3 c4 c5 c6 c7 c8 c9 c10 c11 c12
  go_loopw [3] (fun i wr => ∃ k : Nat, k ≤ n ∧ i = .int .i64 (k : Int) ∧ (L.take k).all mayB = true ∧ BoxV wr w.heap.size w.heap.size (msL ⟨kd, fr, to, bt, vw, ls, mb, po, cm, nm, ck, ye⟩ p n cap) ∧ Ext w wr) (fun i _ => n - (intOf i).toNat)
  case atStart => exact ⟨0, by omega, rfl, rfl, D.out, X.out⟩
  case round =>
    clear D X S
    obtain ⟨k, hk, rfl, ht, d1, x1⟩ := hrel
    have T := Lib.hid ht
    have D := Lib.hid d1
    have X := Lib.hid x1
    have c8 := D.out.c 8 _ rfl
    try simp only at c8
    clear ht x1 d1
    by_cases hlt : k < n
    · obtain ⟨b, o, e, hp, hx, c0, c1, c2, c3, c4, c5, c6⟩ := en_at (S0.out.ext X.out) k hlt
      have HX := Lib.hid hx
      clear hx
      subst hp
      obtain ⟨f1, f2, f3, f4, f5, f6, dat⟩ := e
      simp only at c0 c1 c2 c3 c4 c5 c6
      have ME := Lib.hid (fun w => rmay_any (w := w) (HL.out _ (List.mem_of_getElem? HX.out)))
      cases he : mayB ⟨f1, f2, f3, f4, f5, f6, dat⟩
      · have hB2 : B = false := by
          rw [WH.out, List.all_eq_false]
          exact ⟨_, List.mem_of_getElem? HX.out, by rw [he]; decide⟩
        subst hB2
        rw [he] at ME
        clear he
        go_wp2_with fail
        refine (ME.out _).mono ?_
        rintro e w4 ⟨rfl, x4⟩
        have X4 := Lib.hid (X.out.tr x4)
        clear x4
        go_wp2
        go_ret
        exact ⟨rfl, X4.out⟩
      · have T2 : Hid ((L.take (k + 1)).all mayB = true) := Lib.hid (by
          rw [List.take_add_one, HX.out, List.all_append, T.out]
          simp [he])
        rw [he] at ME
        clear he
        go_wp2_with fail
        refine (ME.out _).mono ?_
        rintro e w4 ⟨rfl, x4⟩
        have X4 := Lib.hid (X.out.tr x4)
        have D4 := Lib.hid (D.out.ext x4)
        clear x4
        go_wp2
        go_roundw
        case rel => exact ⟨k + 1, by omega, by go_num, T2.out, D4.out, X4.out⟩
        case measure => simp [intOf]; omega
    · have hB2 : B = true := by
        have h1 := T.out
        rw [List.take_of_length_le (by rw [N.out]; omega)] at h1
        rw [WH.out, h1]
      subst hB2
      go_wp2
      go_ret
      exact ⟨rfl, X.out⟩
/-- The reference's MayMsg. -/
theorem rmaym_any {w : World} {m : MsD} {p : Option Addr} {n cap : Nat} {L : List EnD} (h : SlS 7 w p n cap (L.map enL)) (hL : ∀ e ∈ L, EnOk e) :
    Calls Try.prog 17 #[msV m p n cap] w fun e w' => e = .returned (.bool (mayM m L)) ∧ Ext w w' := by
  obtain ⟨kd, fr, to, bt, vw, ls, mb, po, cm, nm, ck, ye⟩ := m
  by_cases hy : nm1 kd fr to bt vw ls nm ck
  · exact rmaym_1 h hL hy
  · exact rmaym_0 h hL hy
end Go.Proofs.Ytgplmbchlahbkaa
