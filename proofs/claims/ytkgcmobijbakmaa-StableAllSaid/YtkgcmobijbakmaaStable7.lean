/-
  The walk of StableRead: whatever the numbers and the bytes, the law returns true.
-/
import Derived.Test.YtkgcmobijbakmaaStable5
import Derived.Laws.BitsAllLaws
namespace Go.Proofs.Ytkgcmobijbakmaa
open Go Go.Sort Go.RowKit
set_option linter.unusedVariables false

theorem xor_u8s (x y : UInt8) : bits .xor .u8 (x.toNat : Int) (y.toNat : Int) = ((x ^^^ y).toNat : Int) := by
  have h1 := x.toNat_lt
  have h2 := y.toNat_lt
  rw [u8_xor_nat x.toNat y.toNat (by omega) (by omega), UInt8.toNat_xor]

set_option maxRecDepth 8000 in
set_option maxHeartbeats 16000000 in
theorem walk_StableRead {boot view pos a : Int} {p : Option Addr} {n cap : Nat} {l : List UInt8} {w : World} (h1 : -9223372036854775808 ≤ boot ∧ boot ≤ 9223372036854775807) (h2 : -9223372036854775808 ≤ view ∧ view ≤ 9223372036854775807) (h3 : -9223372036854775808 ≤ pos ∧ pos ≤ 9223372036854775807) (h4 : 0 ≤ a ∧ a ≤ 255) (h5 : SlP w p n cap l) :
    Calls Try.prog 10 #[.int .i64 boot, .int .i64 view, .int .i64 pos, .int .u8 a, .slice p n cap] w fun e w' => e = .returned (.bool true) ∧ Below w.heap.size w w' := by
  have JB := Lib.hid (show J64 boot from h1)
  have JV := Lib.hid (show J64 view from h2)
  obtain ⟨c, rfl⟩ := u8_of h4
  have S := Lib.hid h5
  have DR := Lib.hid (diskR_bytes JB.out JV.out)
  have l1 := enc_len10 JB.out
  have l2 := enc_len10 JV.out
  obtain ⟨x, hx⟩ : ∃ x, x = diskL boot view := ⟨_, rfl⟩
  obtain ⟨nx, hnx⟩ : ∃ nx, nx = x.length := ⟨_, rfl⟩
  have hl : nx ≤ 24 ∧ 0 < nx := by rw [hnx, hx]; unfold diskL; rw [sealL_length, List.length_append]; omega
  obtain ⟨hnx1, hnx0⟩ := hl
  rw [← hx] at DR
  have HX := Lib.hid hx
  have HNX := Lib.hid hnx
  obtain ⟨k, hk⟩ : ∃ k, k = min n 30 := ⟨_, rfl⟩
  have hk30 : k ≤ 30 := by omega
  have hkn : k ≤ n := by omega
  obtain ⟨z, hz⟩ : ∃ z, z = l.take k := ⟨_, rfl⟩
  have HZ : Hid (∀ w, SlP w p n cap l → SlP w p k cap z) := Lib.hid (fun w h => by rw [hz]; exact h.take k hkn)
  obtain ⟨R, hR⟩ : ∃ R, R = diskR z := ⟨_, rfl⟩
  have HK := Lib.hid hk
  have HR := Lib.hid hR
  clear h1 h2 h4 h5 l1 l2 hx hnx hk hz hR
  obtain ⟨hp1, hp2⟩ := h3
  obtain ⟨D, hD⟩ : ∃ D, D = diskR x := ⟨_, rfl⟩
  have hcase : (D = some (boot, view) ∧ 0 ≤ boot ∧ boot ≤ 1099511627776 ∧ 0 ≤ view ∧ view ≤ 1099511627776) ∨ (D = none ∧ boot < 0) ∨ (D = none ∧ 0 ≤ boot ∧ 1099511627776 < boot) ∨ (D = none ∧ 0 ≤ boot ∧ boot ≤ 1099511627776 ∧ view < 0) ∨ (D = none ∧ 0 ≤ boot ∧ boot ≤ 1099511627776 ∧ 0 ≤ view ∧ 1099511627776 < view) := by
    have hm : (mayN boot = true ∧ mayN view = true) ↔ (0 ≤ boot ∧ boot ≤ 1099511627776 ∧ 0 ≤ view ∧ view ≤ 1099511627776) := by
      unfold mayN
      simp only [Bool.and_eq_true, decide_eq_true_eq]
      constructor
      · rintro ⟨⟨a, b⟩, c, d⟩; exact ⟨a, b, c, d⟩
      · rintro ⟨a, b, c, d⟩; exact ⟨⟨a, b⟩, c, d⟩
    by_cases hg : mayN boot = true ∧ mayN view = true
    · exact .inl ⟨by rw [hD, DR.out, if_pos hg], hm.1 hg⟩
    · have hn : D = none := by rw [hD, DR.out, if_neg hg]
      have : ¬ (0 ≤ boot ∧ boot ≤ 1099511627776 ∧ 0 ≤ view ∧ view ≤ 1099511627776) := fun h => hg (hm.2 h)
      by_cases b1 : boot < 0
      · exact .inr (.inl ⟨hn, b1⟩)
      by_cases b2 : 1099511627776 < boot
      · exact .inr (.inr (.inl ⟨hn, by omega, b2⟩))
      by_cases b3 : view < 0
      · exact .inr (.inr (.inr (.inl ⟨hn, by omega, by omega, b3⟩)))
      · exact .inr (.inr (.inr (.inr ⟨hn, by omega, by omega, by omega, by omega⟩)))
  have HD := Lib.hid hD
  clear hD DR
  rcases hcase with ⟨hd, b1, b2, b3, b4⟩ | hcase
  · subst hd
    go_enter Try.func10, Try.ntmps10
    go_wp2_with fail
    refine (begun19 w).mono ?_
    rintro e w1 ⟨rfl, x1⟩
    have X := Lib.hid x1
    clear x1
    have TW := Lib.hid (two_new w1 boot view (t := 48))
    have XA := Lib.hid (X.out.tr (Ext.alloc w1 (.cells #[.int .i64 boot, .int .i64 view] 48)))
    go_wp2_with fail
    refine (rbytes_any TW.out JB.out JV.out).mono ?_
    rw [← HX.out]
    rintro e w2 ⟨px, n2, cx, rfl, ox, x2⟩
    obtain rfl : nx = n2 := by rw [HNX.out]; exact ox.sl.len
    have OX := Lib.hid ox.sl
    replace X := Lib.hid (XA.out.tr x2)
    clear XA TW ox x2
    have RD := sread_any OX.out (by omega)
    rw [← HD.out] at RD
    go_wp2_with fail
    refine RD.mono ?_
    rintro e w3 ⟨g3, rfl, t3, x3⟩
    replace X := Lib.hid (X.out.tr x3)
    replace OX := Lib.hid (OX.out.ext x3)
    have T3 := Lib.hid t3
    clear RD x3 t3
    go_wp2_with fail
    refine (boot_any T3.out).mono ?_
    rintro e w4 ⟨rfl, rfl⟩
    go_wp2_with fail
    refine (view_any T3.out).mono ?_
    rintro e w4 ⟨rfl, rfl⟩
    go_wp2_with fail
    refine (short_any (S.out.ext X.out) 30 (by omega)).mono ?_
    rw [← HK.out]
    rintro e w4 ⟨rfl, rfl⟩
    have Z := Lib.hid (HZ.out _ (S.out.ext X.out))
    have RD := sread_any Z.out (by omega)
    cases R
    · rw [← HR.out] at RD
      go_wp2_with fail
      refine RD.mono ?_
      rintro e w5 ⟨rfl, x5⟩
      replace X := Lib.hid (X.out.tr x5)
      replace OX := Lib.hid (OX.out.ext x5)
      clear x5 RD Z
      go_wp2_with fail
      refine rw_start [0, 1, 2, 3, 6, 7, 4, 5, 8, 9, 10, 11, 12, 13, 14, 15, 16, 17] (by kernel_rfl) (by kernel_rfl) (fun _ _ d _ _ h => by cases d <;> exact h) ?_
      repeat (first | (refine rw_quiet rfl (by rfl) (by rfl) (fun K hK => ?_); go_big_quiet_op; refine hK _ ?_; clear hK K) | (refine rw_skip rfl (by rfl) (fun K hK => ?_); go_big_quiet_op; refine hK _ ?_; clear hK K))
      refine rw_nil ?_
      replace X := Lib.hid (X.out.tr (Ext.drew _))
      replace OX := Lib.hid (OX.out.ext (Ext.drew _))
      by_cases hneg : pos < 0
      · go_wp2
        go_ret
        exact ⟨rfl, X.out⟩
      by_cases hc0 : c = 0
      · subst hc0
        go_wp2
        go_ret
        exact ⟨rfl, X.out⟩
      have HC := Lib.hid hc0
      have fc : ((c.toNat : Int) == 0) = false := beq_eq_false_iff_ne.2 (fun h => hc0 (UInt8.toNat_inj.1 (by rw [UInt8.toNat_zero]; omega)))
      clear hc0
      obtain ⟨P, rfl⟩ : ∃ P : Nat, pos = (P : Int) := ⟨pos.toNat, by omega⟩
      obtain ⟨j, hj⟩ : ∃ j, j = P % nx := ⟨_, rfl⟩
      have hjn : j < nx := by rw [hj]; exact Nat.mod_lt _ hnx0
      have hmod : (P : Int) % (nx : Int) = (j : Int) := by rw [hj]; rfl
      have htm : (P : Int).tmod (nx : Int) = (j : Int) := by rw [hj]; rfl
      have HJ := Lib.hid hj
      clear hj
      go_wp2_with (at_builtin; refine wpList_app rfl _ _ 30 rfl w5.drew.heap.size Try.underlying30 info5 none 0 0 [] rfl (OwP.nil _ _) px nx cx x rfl OX.out (by omega) (by omega) ?_)
      intro p7 c7 w7 o7 g7
      have E7 : Hid (Ext w5.drew w7) := Lib.hid (Ext.own (Ext.rfl' _) (OwP.nil _ _) g7 rfl)
      have o7' : OwP w7 w5.drew.heap.size p7 nx c7 x := by simpa using o7
      obtain ⟨g, y, rfl, hg, hy, hc, hf, hst⟩ := o7'.store j hjn
      obtain ⟨z, hz⟩ : ∃ z, z = y ^^^ c := ⟨_, rfl⟩
      have hzz : bits .xor .u8 (y.toNat : Int) (c.toNat : Int) = (z.toNat : Int) := by rw [hz]; exact xor_u8s y c
      have ST := Lib.hid (hst z)
      have X8 : Hid (Below w.heap.size w (w7.setCell ⟨g, j, none⟩ (.int .u8 (z.toNat : Int)))) := Lib.hid ((Below.trans (X.out.tr E7.out) (Below.refl _ _)).setCell (show w.heap.size ≤ g by have := X.out.size; omega) _)
      have FL : Hid (diskR (x.set j z) = none) := Lib.hid (by
        refine diskR_no (fun h => ?_)
        have h1 := h.1
        have h2 : x.set j z = flip x j c := by
          unfold flip
          rw [hz, List.getD_eq_getElem?_getD, hy]
          rfl
        rw [h2, HX.out] at h1
        unfold diskL at h1
        rw [opens_flip _ j c (by have := HNX.out; rw [HX.out] at this; unfold diskL at this; omega) HC.out] at h1
        cases h1)
      have hj0 : (0 : Int) ≤ (j : Int) := by omega
      have hj1 : (j : Int) < (nx : Int) := by omega
      clear o7 o7' g7 hst hz hy
      have RD := sread_any ST.out.1.sl (by omega)
      rw [FL.out] at RD
      go_wp2_with fail
      refine RD.mono ?_
      rintro e w9 ⟨rfl, x9⟩
      have X9 : Hid (Ext w w9) := Lib.hid (Ext.tr X8.out x9)
      clear x9 RD
      go_wp2
      go_ret
      exact ⟨rfl, X9.out⟩
    · rename_i xy
      obtain ⟨b1, v1⟩ := xy
      have DB := Lib.hid (diskR_some HR.out.symm)
      rw [← HR.out] at RD
      go_wp2_with fail
      refine RD.mono ?_
      rintro e w5 ⟨g5, rfl, t5, x5⟩
      replace X := Lib.hid (X.out.tr x5)
      replace OX := Lib.hid (OX.out.ext x5)
      replace Z := Lib.hid (Z.out.ext x5)
      have T5 := Lib.hid t5
      clear x5 RD t5
      go_wp2_with fail
      have cz := fun d os => str_of (Z.out.ext ((Ext.drew w5).tr (Ext.reg _ d os)))
      refine rw_start [0, 1, 2, 3, 6, 7, 4, 5, 8, 9, 10, 11, 12, 13, 14, 15, 16, 17] (by kernel_rfl) (by kernel_rfl) (fun _ _ d _ _ h => by cases d <;> exact h) ?_
      repeat (first | (refine rw_quiet rfl (by rfl) (by rfl) (fun K hK => ?_); go_big_quiet_op; refine hK _ ?_; clear hK K) | (refine rw_skip rfl (by rfl) (fun K hK => ?_); go_big_quiet_op; refine hK _ ?_; clear hK K))
      clear cz
      refine rw_call rfl (by rfl) (by rfl) (fun K hK => ?_)
      go_simp
      refine (bytes_any (T5.out.ext (Ext.drew w5)) (mayN_J DB.out.2.1) (mayN_J DB.out.2.2)).mono ?_
      rw [DB.out.1]
      rintro e w6 ⟨p6, n6, c6, rfl, o6, x6⟩
      refine hK _ _ x6 ?_
      clear hK K
      obtain rfl : n6 = z.length := o6.sl.len.symm
      have x56 := (Ext.drew w5).tr x6
      replace X := Lib.hid (X.out.tr x56)
      replace OX := Lib.hid (OX.out.ext x56)
      have cv := fun d os => str_of (o6.sl.ext (Ext.reg w6 d os))
      clear o6 x6 x56
      repeat (first | (refine rw_quiet rfl (by rfl) (by rfl) (fun K hK => ?_); go_big_quiet_op; refine hK _ ?_; clear hK K) | (refine rw_skip rfl (by rfl) (fun K hK => ?_); go_big_quiet_op; refine hK _ ?_; clear hK K))
      clear cv
      refine rw_nil ?_
      by_cases hneg : pos < 0
      · go_wp2
        go_ret
        exact ⟨rfl, X.out⟩
      by_cases hc0 : c = 0
      · subst hc0
        go_wp2
        go_ret
        exact ⟨rfl, X.out⟩
      have HC := Lib.hid hc0
      have fc : ((c.toNat : Int) == 0) = false := beq_eq_false_iff_ne.2 (fun h => hc0 (UInt8.toNat_inj.1 (by rw [UInt8.toNat_zero]; omega)))
      clear hc0
      obtain ⟨P, rfl⟩ : ∃ P : Nat, pos = (P : Int) := ⟨pos.toNat, by omega⟩
      obtain ⟨j, hj⟩ : ∃ j, j = P % nx := ⟨_, rfl⟩
      have hjn : j < nx := by rw [hj]; exact Nat.mod_lt _ hnx0
      have hmod : (P : Int) % (nx : Int) = (j : Int) := by rw [hj]; rfl
      have htm : (P : Int).tmod (nx : Int) = (j : Int) := by rw [hj]; rfl
      have HJ := Lib.hid hj
      clear hj
      go_wp2_with (at_builtin; refine wpList_app rfl _ _ 30 rfl w6.heap.size Try.underlying30 info5 none 0 0 [] rfl (OwP.nil _ _) px nx cx x rfl OX.out (by omega) (by omega) ?_)
      intro p7 c7 w7 o7 g7
      have E7 : Hid (Ext w6 w7) := Lib.hid (Ext.own (Ext.rfl' _) (OwP.nil _ _) g7 rfl)
      have o7' : OwP w7 w6.heap.size p7 nx c7 x := by simpa using o7
      obtain ⟨g, y, rfl, hg, hy, hc, hf, hst⟩ := o7'.store j hjn
      obtain ⟨z, hz⟩ : ∃ z, z = y ^^^ c := ⟨_, rfl⟩
      have hzz : bits .xor .u8 (y.toNat : Int) (c.toNat : Int) = (z.toNat : Int) := by rw [hz]; exact xor_u8s y c
      have ST := Lib.hid (hst z)
      have X8 : Hid (Below w.heap.size w (w7.setCell ⟨g, j, none⟩ (.int .u8 (z.toNat : Int)))) := Lib.hid ((Below.trans (X.out.tr E7.out) (Below.refl _ _)).setCell (show w.heap.size ≤ g by have := X.out.size; omega) _)
      have FL : Hid (diskR (x.set j z) = none) := Lib.hid (by
        refine diskR_no (fun h => ?_)
        have h1 := h.1
        have h2 : x.set j z = flip x j c := by
          unfold flip
          rw [hz, List.getD_eq_getElem?_getD, hy]
          rfl
        rw [h2, HX.out] at h1
        unfold diskL at h1
        rw [opens_flip _ j c (by have := HNX.out; rw [HX.out] at this; unfold diskL at this; omega) HC.out] at h1
        cases h1)
      have hj0 : (0 : Int) ≤ (j : Int) := by omega
      have hj1 : (j : Int) < (nx : Int) := by omega
      clear o7 o7' g7 hst hz hy
      have RD := sread_any ST.out.1.sl (by omega)
      rw [FL.out] at RD
      go_wp2_with fail
      refine RD.mono ?_
      rintro e w9 ⟨rfl, x9⟩
      have X9 : Hid (Ext w w9) := Lib.hid (Ext.tr X8.out x9)
      clear x9 RD
      go_wp2
      go_ret
      exact ⟨rfl, X9.out⟩
  rcases hcase with ⟨hd, b1⟩ | ⟨hd, b1, b2⟩ | ⟨hd, b1, b2, b3⟩ | ⟨hd, b1, b2, b3, b4⟩
  all_goals
    subst hd
    go_enter Try.func10, Try.ntmps10
    go_wp2_with fail
    refine (begun19 w).mono ?_
    rintro e w1 ⟨rfl, x1⟩
    have X := Lib.hid x1
    clear x1
    have TW := Lib.hid (two_new w1 boot view (t := 48))
    have XA := Lib.hid (X.out.tr (Ext.alloc w1 (.cells #[.int .i64 boot, .int .i64 view] 48)))
    go_wp2_with fail
    refine (rbytes_any TW.out JB.out JV.out).mono ?_
    rw [← HX.out]
    rintro e w2 ⟨px, n2, cx, rfl, ox, x2⟩
    obtain rfl : nx = n2 := by rw [HNX.out]; exact ox.sl.len
    have OX := Lib.hid ox.sl
    replace X := Lib.hid (XA.out.tr x2)
    clear XA TW ox x2
    have RD := sread_any OX.out (by omega)
    rw [← HD.out] at RD
    go_wp2_with fail
    refine RD.mono ?_
    rintro e w3 ⟨rfl, x3⟩
    replace X := Lib.hid (X.out.tr x3)
    replace OX := Lib.hid (OX.out.ext x3)
    clear RD x3
    go_wp2_with fail
    refine (short_any (S.out.ext X.out) 30 (by omega)).mono ?_
    rw [← HK.out]
    rintro e w4 ⟨rfl, rfl⟩
    have Z := Lib.hid (HZ.out _ (S.out.ext X.out))
    have RD := sread_any Z.out (by omega)
    cases R
    · rw [← HR.out] at RD
      go_wp2_with fail
      refine RD.mono ?_
      rintro e w5 ⟨rfl, x5⟩
      replace X := Lib.hid (X.out.tr x5)
      replace OX := Lib.hid (OX.out.ext x5)
      clear x5 RD Z
      go_wp2_with fail
      refine rw_start [0, 1, 2, 3, 6, 7, 4, 5, 8, 9, 10, 11, 12, 13, 14, 15, 16, 17] (by kernel_rfl) (by kernel_rfl) (fun _ _ d _ _ h => by cases d <;> exact h) ?_
      repeat (first | (refine rw_quiet rfl (by rfl) (by rfl) (fun K hK => ?_); go_big_quiet_op; refine hK _ ?_; clear hK K) | (refine rw_skip rfl (by rfl) (fun K hK => ?_); go_big_quiet_op; refine hK _ ?_; clear hK K))
      refine rw_nil ?_
      replace X := Lib.hid (X.out.tr (Ext.drew _))
      replace OX := Lib.hid (OX.out.ext (Ext.drew _))
      by_cases hneg : pos < 0
      · go_wp2
        go_ret
        exact ⟨rfl, X.out⟩
      by_cases hc0 : c = 0
      · subst hc0
        go_wp2
        go_ret
        exact ⟨rfl, X.out⟩
      have HC := Lib.hid hc0
      have fc : ((c.toNat : Int) == 0) = false := beq_eq_false_iff_ne.2 (fun h => hc0 (UInt8.toNat_inj.1 (by rw [UInt8.toNat_zero]; omega)))
      clear hc0
      obtain ⟨P, rfl⟩ : ∃ P : Nat, pos = (P : Int) := ⟨pos.toNat, by omega⟩
      obtain ⟨j, hj⟩ : ∃ j, j = P % nx := ⟨_, rfl⟩
      have hjn : j < nx := by rw [hj]; exact Nat.mod_lt _ hnx0
      have hmod : (P : Int) % (nx : Int) = (j : Int) := by rw [hj]; rfl
      have htm : (P : Int).tmod (nx : Int) = (j : Int) := by rw [hj]; rfl
      have HJ := Lib.hid hj
      clear hj
      go_wp2_with (at_builtin; refine wpList_app rfl _ _ 30 rfl w5.drew.heap.size Try.underlying30 info5 none 0 0 [] rfl (OwP.nil _ _) px nx cx x rfl OX.out (by omega) (by omega) ?_)
      intro p7 c7 w7 o7 g7
      have E7 : Hid (Ext w5.drew w7) := Lib.hid (Ext.own (Ext.rfl' _) (OwP.nil _ _) g7 rfl)
      have o7' : OwP w7 w5.drew.heap.size p7 nx c7 x := by simpa using o7
      obtain ⟨g, y, rfl, hg, hy, hc, hf, hst⟩ := o7'.store j hjn
      obtain ⟨z, hz⟩ : ∃ z, z = y ^^^ c := ⟨_, rfl⟩
      have hzz : bits .xor .u8 (y.toNat : Int) (c.toNat : Int) = (z.toNat : Int) := by rw [hz]; exact xor_u8s y c
      have ST := Lib.hid (hst z)
      have X8 : Hid (Below w.heap.size w (w7.setCell ⟨g, j, none⟩ (.int .u8 (z.toNat : Int)))) := Lib.hid ((Below.trans (X.out.tr E7.out) (Below.refl _ _)).setCell (show w.heap.size ≤ g by have := X.out.size; omega) _)
      have FL : Hid (diskR (x.set j z) = none) := Lib.hid (by
        refine diskR_no (fun h => ?_)
        have h1 := h.1
        have h2 : x.set j z = flip x j c := by
          unfold flip
          rw [hz, List.getD_eq_getElem?_getD, hy]
          rfl
        rw [h2, HX.out] at h1
        unfold diskL at h1
        rw [opens_flip _ j c (by have := HNX.out; rw [HX.out] at this; unfold diskL at this; omega) HC.out] at h1
        cases h1)
      have hj0 : (0 : Int) ≤ (j : Int) := by omega
      have hj1 : (j : Int) < (nx : Int) := by omega
      clear o7 o7' g7 hst hz hy
      have RD := sread_any ST.out.1.sl (by omega)
      rw [FL.out] at RD
      go_wp2_with fail
      refine RD.mono ?_
      rintro e w9 ⟨rfl, x9⟩
      have X9 : Hid (Ext w w9) := Lib.hid (Ext.tr X8.out x9)
      clear x9 RD
      go_wp2
      go_ret
      exact ⟨rfl, X9.out⟩
    · rename_i xy
      obtain ⟨b1, v1⟩ := xy
      have DB := Lib.hid (diskR_some HR.out.symm)
      rw [← HR.out] at RD
      go_wp2_with fail
      refine RD.mono ?_
      rintro e w5 ⟨g5, rfl, t5, x5⟩
      replace X := Lib.hid (X.out.tr x5)
      replace OX := Lib.hid (OX.out.ext x5)
      replace Z := Lib.hid (Z.out.ext x5)
      have T5 := Lib.hid t5
      clear x5 RD t5
      go_wp2_with fail
      have cz := fun d os => str_of (Z.out.ext ((Ext.drew w5).tr (Ext.reg _ d os)))
      refine rw_start [0, 1, 2, 3, 6, 7, 4, 5, 8, 9, 10, 11, 12, 13, 14, 15, 16, 17] (by kernel_rfl) (by kernel_rfl) (fun _ _ d _ _ h => by cases d <;> exact h) ?_
      repeat (first | (refine rw_quiet rfl (by rfl) (by rfl) (fun K hK => ?_); go_big_quiet_op; refine hK _ ?_; clear hK K) | (refine rw_skip rfl (by rfl) (fun K hK => ?_); go_big_quiet_op; refine hK _ ?_; clear hK K))
      clear cz
      refine rw_call rfl (by rfl) (by rfl) (fun K hK => ?_)
      go_simp
      refine (bytes_any (T5.out.ext (Ext.drew w5)) (mayN_J DB.out.2.1) (mayN_J DB.out.2.2)).mono ?_
      rw [DB.out.1]
      rintro e w6 ⟨p6, n6, c6, rfl, o6, x6⟩
      refine hK _ _ x6 ?_
      clear hK K
      obtain rfl : n6 = z.length := o6.sl.len.symm
      have x56 := (Ext.drew w5).tr x6
      replace X := Lib.hid (X.out.tr x56)
      replace OX := Lib.hid (OX.out.ext x56)
      have cv := fun d os => str_of (o6.sl.ext (Ext.reg w6 d os))
      clear o6 x6 x56
      repeat (first | (refine rw_quiet rfl (by rfl) (by rfl) (fun K hK => ?_); go_big_quiet_op; refine hK _ ?_; clear hK K) | (refine rw_skip rfl (by rfl) (fun K hK => ?_); go_big_quiet_op; refine hK _ ?_; clear hK K))
      clear cv
      refine rw_nil ?_
      by_cases hneg : pos < 0
      · go_wp2
        go_ret
        exact ⟨rfl, X.out⟩
      by_cases hc0 : c = 0
      · subst hc0
        go_wp2
        go_ret
        exact ⟨rfl, X.out⟩
      have HC := Lib.hid hc0
      have fc : ((c.toNat : Int) == 0) = false := beq_eq_false_iff_ne.2 (fun h => hc0 (UInt8.toNat_inj.1 (by rw [UInt8.toNat_zero]; omega)))
      clear hc0
      obtain ⟨P, rfl⟩ : ∃ P : Nat, pos = (P : Int) := ⟨pos.toNat, by omega⟩
      obtain ⟨j, hj⟩ : ∃ j, j = P % nx := ⟨_, rfl⟩
      have hjn : j < nx := by rw [hj]; exact Nat.mod_lt _ hnx0
      have hmod : (P : Int) % (nx : Int) = (j : Int) := by rw [hj]; rfl
      have htm : (P : Int).tmod (nx : Int) = (j : Int) := by rw [hj]; rfl
      have HJ := Lib.hid hj
      clear hj
      go_wp2_with (at_builtin; refine wpList_app rfl _ _ 30 rfl w6.heap.size Try.underlying30 info5 none 0 0 [] rfl (OwP.nil _ _) px nx cx x rfl OX.out (by omega) (by omega) ?_)
      intro p7 c7 w7 o7 g7
      have E7 : Hid (Ext w6 w7) := Lib.hid (Ext.own (Ext.rfl' _) (OwP.nil _ _) g7 rfl)
      have o7' : OwP w7 w6.heap.size p7 nx c7 x := by simpa using o7
      obtain ⟨g, y, rfl, hg, hy, hc, hf, hst⟩ := o7'.store j hjn
      obtain ⟨z, hz⟩ : ∃ z, z = y ^^^ c := ⟨_, rfl⟩
      have hzz : bits .xor .u8 (y.toNat : Int) (c.toNat : Int) = (z.toNat : Int) := by rw [hz]; exact xor_u8s y c
      have ST := Lib.hid (hst z)
      have X8 : Hid (Below w.heap.size w (w7.setCell ⟨g, j, none⟩ (.int .u8 (z.toNat : Int)))) := Lib.hid ((Below.trans (X.out.tr E7.out) (Below.refl _ _)).setCell (show w.heap.size ≤ g by have := X.out.size; omega) _)
      have FL : Hid (diskR (x.set j z) = none) := Lib.hid (by
        refine diskR_no (fun h => ?_)
        have h1 := h.1
        have h2 : x.set j z = flip x j c := by
          unfold flip
          rw [hz, List.getD_eq_getElem?_getD, hy]
          rfl
        rw [h2, HX.out] at h1
        unfold diskL at h1
        rw [opens_flip _ j c (by have := HNX.out; rw [HX.out] at this; unfold diskL at this; omega) HC.out] at h1
        cases h1)
      have hj0 : (0 : Int) ≤ (j : Int) := by omega
      have hj1 : (j : Int) < (nx : Int) := by omega
      clear o7 o7' g7 hst hz hy
      have RD := sread_any ST.out.1.sl (by omega)
      rw [FL.out] at RD
      go_wp2_with fail
      refine RD.mono ?_
      rintro e w9 ⟨rfl, x9⟩
      have X9 : Hid (Ext w w9) := Lib.hid (Ext.tr X8.out x9)
      clear x9 RD
      go_wp2
      go_ret
      exact ⟨rfl, X9.out⟩
end Go.Proofs.Ytkgcmobijbakmaa
