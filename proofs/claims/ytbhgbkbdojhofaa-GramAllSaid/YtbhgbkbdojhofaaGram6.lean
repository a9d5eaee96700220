/-
  The walk of GramBoots: whatever the starts, the law returns true.
-/
import Derived.Test.YtbhgbkbdojhofaaGram4
import Derived.Laws.BitsLemmas
namespace Go.Proofs.Ytbhgbkbdojhofaa
open Go Go.Sort Go.RowKit
set_option linter.unusedVariables false

theorem i64_and15 (n : Int) : bits .and .i64 n 15 = n % 16 := by
  have h15 : (BitVec.ofInt 64 15).toNat = 2 ^ 4 - 1 := by decide
  have key : (BitVec.ofInt 64 n &&& BitVec.ofInt 64 15).toNat = (n % ((2 ^ 64 : Nat) : Int)).toNat % 2 ^ 4 := by
    rw [BitVec.toNat_and, BitVec.toNat_ofInt, h15, Nat.and_two_pow_sub_one_eq_mod]
  show IntKind.i64.wrap ((BitVec.ofInt 64 n &&& BitVec.ofInt 64 15).toNat : Nat) = n % 16
  rw [key, IntKind.wrap_i64]
  omega
abbrev tpL (bs : Nat → Int) : List Value := [.int .i64 (bs 0), .int .i64 (bs 1), .int .i64 (bs 2), .int .i64 (bs 3), .int .i64 (bs 4), .int .i64 (bs 5), .int .i64 (bs 6), .int .i64 (bs 7)]
abbrev tpA (bs : Nat → Int) : Array Value := #[.int .i64 (bs 0), .int .i64 (bs 1), .int .i64 (bs 2), .int .i64 (bs 3), .int .i64 (bs 4), .int .i64 (bs 5), .int .i64 (bs 6), .int .i64 (bs 7)]
theorem tpL_at {bs : Nat → Int} {F : Nat} (h : F < 8) : (tpL bs)[F]? = some (.int .i64 (bs F)) := by rcases lt8 h with rfl | rfl | rfl | rfl | rfl | rfl | rfl | rfl <;> rfl
theorem tpL_set {bs : Nat → Int} {F : Nat} {v : Int} (h : F < 8) : (tpL bs).set F (.int .i64 v) = tpL (updF bs F v) := by rcases lt8 h with rfl | rfl | rfl | rfl | rfl | rfl | rfl | rfl <;> rfl
theorem may12 {F : Nat} {b : Int} (h1 : 2 ≤ F) (h2 : F ≤ 4) (h3 : 1 ≤ b) (h4 : b ≤ 16) : mayM ⟨12, F, 1, b, 0, 0, 0, 0, 0, 0, 0, false⟩ [] = true := by
  rw [mayM_iff, who_iff, what_iff]
  refine ⟨⟨?_, ?_, ?_, ?_, ?_, ?_, ?_, ?_, ?_⟩, by simp, by simp, by simp⟩ <;> simp only <;> omega
theorem ok12m {F : Nat} {b : Int} (h2 : F ≤ 4) (h3 : 1 ≤ b) (h4 : b ≤ 16) : MsOk ⟨12, F, 1, b, 0, 0, 0, 0, 0, 0, 0, false⟩ := by
  have z : I64 0 := ⟨by decide, by decide⟩
  exact ⟨(show I64 12 from ⟨by decide, by decide⟩), (show I64 (F : Int) from ⟨by omega, by omega⟩), (show I64 1 from ⟨by decide, by decide⟩), (show I64 b from ⟨by omega, by omega⟩), z, z, z, z, z, z, z⟩
theorem hear12 {F : Nat} {b : Int} {bs : Nat → Int} (h1 : 2 ≤ F) (h2 : F ≤ 4) (h3 : 1 ≤ b) (h4 : b ≤ 16) : hearR 1 bs (encM ⟨12, F, 1, b, 0, 0, 0, 0, 0, 0, 0, false⟩ []) = if b < bs F then .inr 7 else .inl (⟨12, F, 1, b, 0, 0, 0, 0, 0, 0, 0, false⟩, []) := by
  unfold hearR
  rw [decM_enc (ok12m h2 h3 h4) (by simp) (may12 h1 h2 h3 h4)]
  rfl
theorem updF_max {bs : Nat → Int} {F : Nat} {b : Int} (h : b < bs F) : updF bs F (max (bs F) b) = bs := by
  funext i
  by_cases hi : i = F
  · subst hi; rw [updF_same]; omega
  · exact if_neg hi

set_option maxRecDepth 8000 in
set_option maxHeartbeats 8000000 in
theorem walk_GramBoots {p : Option Addr} {n cap : Nat} {zs : List Int} {w : World} (h : SlI .i64 w p n cap zs) :
    Calls Try.prog 4 #[.slice p n cap] w fun e w' => e = .returned (.bool true) ∧ Below w.heap.size w w' := by
  have hn : n ≤ 9223372036854775807 := Nat.le_trans h.le h.max
  have S := Lib.hid h
  clear h
  go_enter Try.func4, Try.ntmps4
  go_wp2_with fail
  refine (begun17 w).mono ?_
  rintro e w1 ⟨rfl, x1⟩
  have X := Lib.hid x1
  clear x1
  go_wp2_with fail
  refine (gnew_any 1 w1).mono ?_
  rintro e w2 ⟨hy, -, x2⟩
  obtain ⟨rfl, d2⟩ := hy (by decide)
  have D := Lib.hid d2
  have SZ := Lib.hid X.out.size
  replace X := Lib.hid (X.out.tr x2)
  clear hy d2 x2
  generalize w1.heap.size = g at *
  go_wp2
  have T0 := Lib.hid (BoxV.new w2 g (tpA zB) (tpL zB) 26 w2.heap.size rfl (Nat.le_of_lt D.out.hi) rfl)
  have A2 := Lib.hid (Ext.alloc w2 (.cells (tpA zB) 26))
  have HN : Hid ((some g : Option Nat) ≠ some w2.heap.size) := Lib.hid (by intro hh; injection hh with hh; have := D.out.hi; omega)
  replace D := Lib.hid (D.out.ext A2.out)
  replace X := Lib.hid (X.out.tr A2.out)
  obtain ⟨w3, hw3⟩ : ∃ w3, w3 = w2.alloc (.cells (tpA zB) 26) := ⟨_, rfl⟩
  rw [show w2.alloc (.cells #[.int .i64 0, .int .i64 0, .int .i64 0, .int .i64 0, .int .i64 0, .int .i64 0, .int .i64 0, .int .i64 0] 26) = w3 from hw3.symm]
  rw [← hw3] at T0 D X
  clear hw3 A2
  generalize w2.heap.size = gt at *
  go_loopw [6] (fun i wr => ∃ (k : Nat) (bs : Nat → Int), k ≤ n ∧ k ≤ 30 ∧ i = .int .i64 (k : Int) ∧ BoxV wr g g (grL 1 bs zP) ∧ BoxV wr g gt (tpL bs) ∧ Ext w wr) (fun i _ => 30 - (intOf i).toNat)
  case atStart => exact ⟨0, zB, by omega, by omega, rfl, D.out, T0.out, X.out⟩
  case round =>
    obtain ⟨k, bs, hk, hk30, rfl, hd, ht, x1⟩ := hrel
    have DR := Lib.hid hd
    have TR := Lib.hid ht
    have XR := Lib.hid x1
    clear hd ht x1
    have hcase : (k < n ∧ (k : Int) < 30) ∨ (k < n ∧ ¬ (k : Int) < 30) ∨ ¬ k < n := by omega
    rcases hcase with ⟨hlt, hlz⟩ | hout
    · obtain ⟨bb, o, x, hp, hx, hcell, hwf⟩ := (S.out.ext XR.out).at k hlt
      subst hp
      clear hx hwf
      obtain ⟨y, hy⟩ : ∃ y, y = x % 16 := ⟨_, rfl⟩
      have hand : bits .and .i64 x 15 = y := by rw [hy]; exact i64_and15 x
      obtain ⟨b, hb⟩ : ∃ b, b = 1 + y := ⟨_, rfl⟩
      have hb1 : 1 ≤ b := by omega
      have hb2 : b ≤ 16 := by omega
      have hbw : wrap64 (1 + y) = b := by unfold wrap64; omega
      obtain ⟨r, hr⟩ : ∃ r, r = k % 3 := ⟨_, rfl⟩
      have htm : (k : Int).tmod 3 = (r : Int) := by rw [hr]; rfl
      obtain ⟨F, hF⟩ : ∃ F, F = 2 + r := ⟨_, rfl⟩
      have hF2 : 2 ≤ F := by omega
      have hF4 : F ≤ 4 := by omega
      have hF8 : F < 8 := by omega
      have hFw : wrap64 (2 + (r : Int)) = (F : Int) := by unfold wrap64; omega
      have HB := Lib.hid (And.intro hb1 hb2)
      have HF := Lib.hid (And.intro hF2 hF4)
      clear hy hb hr hF hb1 hb2 hF2 hF4
      go_wp2_with fail
      simp only [hFw, hbw]
      refine (rbytesm_any (m := ⟨12, F, 1, b, 0, 0, 0, 0, 0, 0, 0, false⟩) (ok12m HF.out.2 HB.out.1 HB.out.2) (SlS.empty 7 wr) (L := []) (by simp)).mono ?_
      have HH := hear12 (bs := bs) HF.out.1 HF.out.2 HB.out.1 HB.out.2
      have HL := Lib.hid (encM_len (L := []) (ok12m (F := F) (b := b) HF.out.2 HB.out.1 HB.out.2) (by simp))
      generalize encM ⟨12, F, 1, b, 0, 0, 0, 0, 0, 0, 0, false⟩ [] = B at *
      have HH := Lib.hid HH
      rintro e w4 ⟨p4, k4, rfl, o4, x4⟩
      replace DR := Lib.hid (DR.out.ext x4)
      replace TR := Lib.hid (TR.out.ext x4)
      replace XR := Lib.hid (XR.out.tr x4)
      have O4 := Lib.hid o4.sl
      clear o4 x4 hand hbw htm hFw hcell
      go_wp2_with fail
      have H := hear_any DR.out O4.out (by have := HL.out; omega)
      rw [HH.out] at H
      obtain ⟨v, hv⟩ : ∃ v, v = max (bs F) b := ⟨_, rfl⟩
      have HV := Lib.hid hv
      by_cases hbl : b < bs F
      · rw [if_pos hbl] at H
        refine H.mono ?_
        rintro e w5 ⟨rfl, d5, g5⟩
        have A5 := Lib.hid (Ext.alloc w5 (.cells (msA zeroM none 0 0) 30))
        replace DR : Hid (BoxV (w5.alloc (.cells (msA zeroM none 0 0) 30)) g g (grL 1 (updF bs F v) zP)) := Lib.hid (by rw [HV.out, updF_max hbl]; exact d5.ext A5.out)
        replace TR := Lib.hid ((TR.out.other g5 HN.out).ext A5.out)
        replace XR : Hid (Ext w w5) := Lib.hid (Below.trans XR.out (grown_below g5 SZ.out XR.out.size))
        replace XR := Lib.hid (XR.out.tr A5.out)
        clear H d5 g5 O4 HH
        simp only [zeroM]
        have hge : ¬ bs F ≤ b := by omega
        clear hv
        obtain rfl : v = bs F := by rw [HV.out]; omega
        clear HV
        obtain ⟨w6, hw6⟩ : ∃ w6, w6 = w5.alloc (.cells (msA zeroM none 0 0) 30) := ⟨_, rfl⟩
        rw [← hw6] at DR TR XR
        have cb := TR.out.c _ _ (tpL_at (bs := bs) hF8)
        have cf := TR.out.f
        go_upto_region 12 with fail
        change Code.wp _ _ _ _ (w5.alloc (.cells (msA zeroM none 0 0) 30))
        rw [← hw6]
        clear hw6 A5
        go_upto_region 15 with fail
        clear cb cf
        try simp only [show (if bs F < b then b else bs F) = b by split <;> omega]
        try clear hmx
        have G6 := Lib.hid (grown_put (grown_refl w6 (some gt)) F (.int .i64 (bs F)))
        have T7 : Hid (BoxV (w6.setCell ⟨gt, F, none⟩ (.int .i64 (bs F))) g gt (tpL (updF bs F (bs F)))) := Lib.hid (by rw [← tpL_set hF8]; exact TR.out.put _ _)
        have D7 := Lib.hid (DR.out.other G6.out (Ne.symm HN.out))
        have X7 : Hid (Ext w (w6.setCell ⟨gt, F, none⟩ (.int .i64 (bs F)))) := Lib.hid (XR.out.setCell (Nat.le_trans SZ.out TR.out.lo) _)
        change Code.wp _ _ _ _ (w6.setCell ⟨gt, F, none⟩ (.int .i64 (bs F)))
        generalize w6.setCell ⟨gt, F, none⟩ (.int .i64 (bs F)) = w7 at *
        clear G6 DR TR XR
        have KT := Lib.hid (T7.out.ext (Ext.drew w7))
        have r0 := fun d os => Ext.cell (Ext.reg w7.drew d os) (KT.out.c _ _ (tpL_at (bs := updF bs F (bs F)) hF8))
        have hvf : updF bs F (bs F) F = bs F := updF_same bs F (bs F)
        simp only [hvf] at r0
        clear hvf
        refine rw_start [0, 1, 3, 4, 5, 2, 6] (by kernel_rfl) (by kernel_rfl) (fun _ _ d _ _ h => by cases d <;> exact h) ?_
        repeat (first | (refine rw_quiet rfl (by rfl) (by rfl) (fun K hK => ?_); go_big_quiet_op; refine hK _ ?_; clear hK K) | (refine rw_skip rfl (by rfl) (fun K hK => ?_); go_big_quiet_op; refine hK _ ?_; clear hK K))
        clear r0
        refine rw_call rfl (by rfl) (by rfl) (fun K hK => ?_)
        go_simp
        refine (boot_any (D7.out.ext (Ext.drew w7)) (F : Int)).mono ?_
        rw [show (if isI (F : Int) = true then updF bs F (bs F) (F : Int).toNat else 0) = bs F by
          rw [if_pos (by have := HF.out; unfold isI; simp; omega), show (F : Int).toNat = F by omega, updF_same]]
        rintro e w8 ⟨rfl, rfl⟩
        refine hK _ _ (Ext.rfl' _) ?_; clear hK K
        repeat (first | (refine rw_quiet rfl (by rfl) (by rfl) (fun K hK => ?_); go_big_quiet_op; refine hK _ ?_; clear hK K) | (refine rw_skip rfl (by rfl) (fun K hK => ?_); go_big_quiet_op; refine hK _ ?_; clear hK K))
        refine rw_nil ?_
        go_wp2
        go_roundw
        case rel => exact ⟨k + 1, updF bs F (bs F), by omega, by omega, by go_num, D7.out.ext (Ext.drew w7), T7.out.ext (Ext.drew w7), X7.out.tr (Ext.drew w7)⟩
        case measure => simp [intOf]; omega
      · rw [if_neg hbl] at H
        refine H.mono ?_
        rintro e w5 ⟨p5, k5, rfl, -, -, -, d5, g5⟩
        have A5 := Lib.hid (Ext.alloc w5 (.cells (msA ⟨12, F, 1, b, 0, 0, 0, 0, 0, 0, 0, false⟩ p5 0 k5) 30))
        replace DR : Hid (BoxV (w5.alloc (.cells (msA ⟨12, F, 1, b, 0, 0, 0, 0, 0, 0, 0, false⟩ p5 0 k5) 30)) g g (grL 1 (updF bs F v) zP)) := Lib.hid (by rw [HV.out, show max (bs F) b = b by omega]; exact d5.ext A5.out)
        replace TR := Lib.hid ((TR.out.other g5 HN.out).ext A5.out)
        replace XR : Hid (Ext w w5) := Lib.hid (Below.trans XR.out (grown_below g5 SZ.out XR.out.size))
        replace XR := Lib.hid (XR.out.tr A5.out)
        clear H d5 g5 O4 HH
        simp only [List.length_nil]
        have hge : bs F ≤ b := by omega
        have hmx : max (bs F) b = b := by omega
        clear hv
        obtain rfl : b = v := by rw [HV.out]; omega
        clear HV
        obtain ⟨w6, hw6⟩ : ∃ w6, w6 = w5.alloc (.cells (msA ⟨12, F, 1, b, 0, 0, 0, 0, 0, 0, 0, false⟩ p5 0 k5) 30) := ⟨_, rfl⟩
        rw [← hw6] at DR TR XR
        have cb := TR.out.c _ _ (tpL_at (bs := bs) hF8)
        have cf := TR.out.f
        go_upto_region 12 with fail
        change Code.wp _ _ _ _ (w5.alloc (.cells (msA ⟨12, F, 1, b, 0, 0, 0, 0, 0, 0, 0, false⟩ p5 0 k5) 30))
        rw [← hw6]
        clear hw6 A5
        go_upto_region 15 with fail
        clear cb cf
        try simp only [show (if bs F < b then b else bs F) = b by split <;> omega]
        try clear hmx
        have G6 := Lib.hid (grown_put (grown_refl w6 (some gt)) F (.int .i64 (b)))
        have T7 : Hid (BoxV (w6.setCell ⟨gt, F, none⟩ (.int .i64 (b))) g gt (tpL (updF bs F (b)))) := Lib.hid (by rw [← tpL_set hF8]; exact TR.out.put _ _)
        have D7 := Lib.hid (DR.out.other G6.out (Ne.symm HN.out))
        have X7 : Hid (Ext w (w6.setCell ⟨gt, F, none⟩ (.int .i64 (b)))) := Lib.hid (XR.out.setCell (Nat.le_trans SZ.out TR.out.lo) _)
        change Code.wp _ _ _ _ (w6.setCell ⟨gt, F, none⟩ (.int .i64 (b)))
        generalize w6.setCell ⟨gt, F, none⟩ (.int .i64 (b)) = w7 at *
        clear G6 DR TR XR
        have KT := Lib.hid (T7.out.ext (Ext.drew w7))
        have r0 := fun d os => Ext.cell (Ext.reg w7.drew d os) (KT.out.c _ _ (tpL_at (bs := updF bs F (b)) hF8))
        have hvf : updF bs F (b) F = b := updF_same bs F (b)
        simp only [hvf] at r0
        clear hvf
        refine rw_start [0, 1, 3, 4, 5, 2, 6] (by kernel_rfl) (by kernel_rfl) (fun _ _ d _ _ h => by cases d <;> exact h) ?_
        repeat (first | (refine rw_quiet rfl (by rfl) (by rfl) (fun K hK => ?_); go_big_quiet_op; refine hK _ ?_; clear hK K) | (refine rw_skip rfl (by rfl) (fun K hK => ?_); go_big_quiet_op; refine hK _ ?_; clear hK K))
        clear r0
        refine rw_call rfl (by rfl) (by rfl) (fun K hK => ?_)
        go_simp
        refine (boot_any (D7.out.ext (Ext.drew w7)) (F : Int)).mono ?_
        rw [show (if isI (F : Int) = true then updF bs F (b) (F : Int).toNat else 0) = b by
          rw [if_pos (by have := HF.out; unfold isI; simp; omega), show (F : Int).toNat = F by omega, updF_same]]
        rintro e w8 ⟨rfl, rfl⟩
        refine hK _ _ (Ext.rfl' _) ?_; clear hK K
        repeat (first | (refine rw_quiet rfl (by rfl) (by rfl) (fun K hK => ?_); go_big_quiet_op; refine hK _ ?_; clear hK K) | (refine rw_skip rfl (by rfl) (fun K hK => ?_); go_big_quiet_op; refine hK _ ?_; clear hK K))
        refine rw_nil ?_
        go_wp2
        go_roundw
        case rel => exact ⟨k + 1, updF bs F (b), by omega, by omega, by go_num, D7.out.ext (Ext.drew w7), T7.out.ext (Ext.drew w7), X7.out.tr (Ext.drew w7)⟩
        case measure => simp [intOf]; omega
    · rcases hout with ⟨hlt, hlz⟩ | hlt
      all_goals
        go_wp2
        go_ret
        exact ⟨rfl, XR.out⟩
end Go.Proofs.Ytbhgbkbdojhofaa
