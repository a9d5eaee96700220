/-
  The contract of the reference's Fault: at any readings of 64 bits.
-/
import Derived.Test.YtjghjnnmndibcaaDrift2
namespace Go.Proofs.Ytjghjnnmndibcaa
open Go Go.Sort Go.RowKit
set_option linter.unusedVariables false

set_option maxRecDepth 8000 in
set_option maxHeartbeats 8000000 in
theorem rfault_any {w : World} {p : Option Addr} {n cap : Nat} {l : List RdD} {q : Int} (h : SlS 2 w p n cap (l.map rdE)) :
    Calls Try.prog 21 #[.slice p n cap, .int .i64 q] w fun e w' => e = .returned (.int .i64 (fault l q)) ∧ Ext w w' := by
  have hn : n ≤ 9223372036854775807 := Nat.le_trans h.le h.max
  have hcap := h.le
  have S := Lib.hid h
  have N := Lib.hid (rds_len h)
  clear h
  obtain ⟨F, hF⟩ : ∃ F, F = fault l q := ⟨_, rfl⟩
  rw [← hF]
  cases hq : okP q
  · rw [fault_p hq] at hF
    subst hF
    have Q := okP_no hq
    clear hq
    by_cases hq0 : q < 0
    all_goals
      go_enter Try.func21, Try.ntmps21
      go_wp2
      go_ret
      exact ⟨rfl, Ext.rfl' _⟩
  · have Q := Lib.hid hq
    have HF := Lib.hid hF
    obtain ⟨hq1, hq2⟩ := okP_yes hq
    clear hq hF
    go_enter Try.func21, Try.ntmps21
    go_wp2
    go_loopw [5] (fun i wr => ∃ k : Nat, k ≤ n ∧ i = .int .i64 (k : Int) ∧ Ext w wr ∧ ∀ j, j < k → okAt l j = true) (fun i _ => n - (intOf i).toNat)
    case atStart => exact ⟨0, by omega, rfl, Ext.rfl' _, fun j hj => by omega⟩
    case round =>
      obtain ⟨k, hk, rfl, x1, ok1⟩ := hrel
      have X := Lib.hid x1
      have OK := Lib.hid ok1
      clear x1 ok1
      by_cases hlt : k < n
      · obtain ⟨b, o, hp, c0, c1⟩ := rd_at (S.out.ext X.out) k hlt
        obtain ⟨x, hx⟩ : ∃ x, x = (gd l k).1 := ⟨_, rfl⟩
        obtain ⟨y, hy⟩ : ∃ y, y = (gd l k).2 := ⟨_, rfl⟩
        rw [← hx] at c0
        rw [← hy] at c1
        have HX := Lib.hid hx
        have HY := Lib.hid hy
        clear hx hy
        cases ht : isT x
        · have hbad : F = 0 := by
            rw [HF.out]
            refine fault_bad (k := k) (by rw [N.out]; exact hlt) ?_
            unfold okAt
            rw [← HX.out, ht]
            rfl
          subst hbad hp
          have HT := Lib.hid ht
          clear ht
          go_wp2_with fail
          have r0 := fun d os => Ext.cell (Ext.reg wr.drew d os) (Ext.cell (Ext.drew wr) c0)
          have r1 := fun d os => Ext.cell (Ext.reg wr.drew d os) (Ext.cell (Ext.drew wr) c1)
          refine rw_start [0, 1, 2, 3, 4, 5, 6, 7, 8, 9, 10, 11, 12, 13, 14, 15, 16, 17, 18, 19, 20, 21, 22, 23, 24, 25, 26, 27, 28, 29, 30, 31, 32, 33] (by kernel_rfl) (by kernel_rfl) (fun _ _ d _ _ h => by cases d <;> exact h) ?_
          repeat (first | (refine rw_quiet rfl (by rfl) (by rfl) (fun K hK => ?_); go_big_quiet_op; refine hK _ ?_; clear hK K) | (refine rw_skip rfl (by rfl) (fun K hK => ?_); go_big_quiet_op; refine hK _ ?_; clear hK K))
          refine rw_call rfl (by rfl) (by rfl) (fun K hK => ?_)
          go_simp
          refine (rtime_any x _).mono ?_
          rw [HT.out]
          rintro e w3 ⟨rfl, rfl⟩
          refine hK _ _ (Ext.rfl' _) ?_; clear hK K
          repeat (first | (refine rw_quiet rfl (by rfl) (by rfl) (fun K hK => ?_); go_big_quiet_op; refine hK _ ?_; clear hK K) | (refine rw_skip rfl (by rfl) (fun K hK => ?_); go_big_quiet_op; refine hK _ ?_; clear hK K))
          clear r0 r1
          refine rw_nil ?_
          go_wp2
          go_ret
          exact ⟨rfl, X.out.tr (Ext.drew wr)⟩
        have HT := Lib.hid ht
        clear ht
        cases ht : isT y
        · have hbad : F = 0 := by
            rw [HF.out]
            refine fault_bad (k := k) (by rw [N.out]; exact hlt) ?_
            unfold okAt
            rw [← HX.out, ← HY.out, HT.out, ht]
            rfl
          subst hbad hp
          have HT2 := Lib.hid ht
          clear ht
          go_wp2_with fail
          have r0 := fun d os => Ext.cell (Ext.reg wr.drew d os) (Ext.cell (Ext.drew wr) c0)
          have r1 := fun d os => Ext.cell (Ext.reg wr.drew d os) (Ext.cell (Ext.drew wr) c1)
          refine rw_start [0, 1, 2, 3, 4, 5, 6, 7, 8, 9, 10, 11, 12, 13, 14, 15, 16, 17, 18, 19, 20, 21, 22, 23, 24, 25, 26, 27, 28, 29, 30, 31, 32, 33] (by kernel_rfl) (by kernel_rfl) (fun _ _ d _ _ h => by cases d <;> exact h) ?_
          repeat (first | (refine rw_quiet rfl (by rfl) (by rfl) (fun K hK => ?_); go_big_quiet_op; refine hK _ ?_; clear hK K) | (refine rw_skip rfl (by rfl) (fun K hK => ?_); go_big_quiet_op; refine hK _ ?_; clear hK K))
          refine rw_call rfl (by rfl) (by rfl) (fun K hK => ?_)
          go_simp
          refine (rtime_any x _).mono ?_
          rw [HT.out]
          rintro e w3 ⟨rfl, rfl⟩
          refine hK _ _ (Ext.rfl' _) ?_; clear hK K
          repeat (first | (refine rw_quiet rfl (by rfl) (by rfl) (fun K hK => ?_); go_big_quiet_op; refine hK _ ?_; clear hK K) | (refine rw_skip rfl (by rfl) (fun K hK => ?_); go_big_quiet_op; refine hK _ ?_; clear hK K))
          refine rw_call rfl (by rfl) (by rfl) (fun K hK => ?_)
          go_simp
          refine (rtime_any y _).mono ?_
          rw [HT2.out]
          rintro e w3 ⟨rfl, rfl⟩
          refine hK _ _ (Ext.rfl' _) ?_; clear hK K
          repeat (first | (refine rw_quiet rfl (by rfl) (by rfl) (fun K hK => ?_); go_big_quiet_op; refine hK _ ?_; clear hK K) | (refine rw_skip rfl (by rfl) (fun K hK => ?_); go_big_quiet_op; refine hK _ ?_; clear hK K))
          clear r0 r1
          refine rw_nil ?_
          go_wp2
          go_ret
          exact ⟨rfl, X.out.tr (Ext.drew wr)⟩
        · have HT2 := Lib.hid ht
          clear ht
          by_cases h0 : k = 0
          · have hg0 : decide (0 < k) = false := decide_eq_false (by omega)
            have H0 := Lib.hid h0
            clear h0
            subst hp
            go_wp2_with fail
            have r0 := fun d os => Ext.cell (Ext.reg wr.drew d os) (Ext.cell (Ext.drew wr) c0)
            have r1 := fun d os => Ext.cell (Ext.reg wr.drew d os) (Ext.cell (Ext.drew wr) c1)
            refine rw_start [0, 1, 2, 3, 4, 5, 6, 7, 8, 9, 10, 11, 12, 13, 14, 15, 16, 17, 18, 19, 20, 21, 22, 23, 24, 25, 26, 27, 28, 29, 30, 31, 32, 33] (by kernel_rfl) (by kernel_rfl) (fun _ _ d _ _ h => by cases d <;> exact h) ?_
            repeat (first | (refine rw_quiet rfl (by rfl) (by rfl) (fun K hK => ?_); go_big_quiet_op; refine hK _ ?_; clear hK K) | (refine rw_skip rfl (by rfl) (fun K hK => ?_); go_big_quiet_op; refine hK _ ?_; clear hK K))
            refine rw_call rfl (by rfl) (by rfl) (fun K hK => ?_)
            go_simp
            refine (rtime_any x _).mono ?_
            rw [HT.out]
            rintro e w3 ⟨rfl, rfl⟩
            refine hK _ _ (Ext.rfl' _) ?_; clear hK K
            repeat (first | (refine rw_quiet rfl (by rfl) (by rfl) (fun K hK => ?_); go_big_quiet_op; refine hK _ ?_; clear hK K) | (refine rw_skip rfl (by rfl) (fun K hK => ?_); go_big_quiet_op; refine hK _ ?_; clear hK K))
            refine rw_call rfl (by rfl) (by rfl) (fun K hK => ?_)
            go_simp
            refine (rtime_any y _).mono ?_
            rw [HT2.out]
            rintro e w3 ⟨rfl, rfl⟩
            refine hK _ _ (Ext.rfl' _) ?_; clear hK K
            repeat (first | (refine rw_quiet rfl (by rfl) (by rfl) (fun K hK => ?_); go_big_quiet_op; refine hK _ ?_; clear hK K) | (refine rw_skip rfl (by rfl) (fun K hK => ?_); go_big_quiet_op; refine hK _ ?_; clear hK K))
            clear r0 r1
            refine rw_nil ?_
            go_wp2
            go_roundw
            case rel => exact ⟨k + 1, by omega, by go_num, X.out.tr (Ext.drew wr), fun j hj => by
              rcases Nat.lt_or_ge j k with h | h
              · exact OK.out j h
              · obtain rfl : j = k := by omega
                unfold okAt
                rw [← HX.out, ← HY.out, HT.out, HT2.out, H0.out]
                rfl⟩
            case measure => simp [intOf]; omega
          · have hg0 : 0 < k := by omega
            have hg1 : decide (0 < k) = true := decide_eq_true hg0
            obtain ⟨b', o', hp', c2, -⟩ := rd_at (S.out.ext X.out) (k - 1) (by omega)
            obtain ⟨z, hz⟩ : ∃ z, z = (gd l (k - 1)).1 := ⟨_, rfl⟩
            rw [← hz] at c2
            have hbb : b' = b ∧ o' = o := by rw [hp'] at hp; simpa using hp
            obtain ⟨rfl, rfl⟩ := hbb
            subst hp'
            clear hp
            have HZ := Lib.hid hz
            clear hz
            have kk : ((k : Int) - 1).toNat = k - 1 := by omega
            by_cases hzx : x < z
            · have hbad : F = 0 := by
                rw [HF.out]
                refine fault_bad (k := k) (by rw [N.out]; exact hlt) ?_
                unfold okAt
                rw [← HX.out, ← HY.out, HT.out, HT2.out, ← HZ.out, decide_eq_false h0, decide_eq_false (by omega)]
                rfl
              subst hbad
              go_wp2_with fail
              have r0 := fun d os => Ext.cell (Ext.reg wr.drew d os) (Ext.cell (Ext.drew wr) c0)
              have r1 := fun d os => Ext.cell (Ext.reg wr.drew d os) (Ext.cell (Ext.drew wr) c1)
              have r2 := fun d os => Ext.cell (Ext.reg wr.drew d os) (Ext.cell (Ext.drew wr) c2)
              refine rw_start [0, 1, 2, 3, 4, 5, 6, 7, 8, 9, 10, 11, 12, 13, 14, 15, 16, 17, 18, 19, 20, 21, 22, 23, 24, 25, 26, 27, 28, 29, 30, 31, 32, 33] (by kernel_rfl) (by kernel_rfl) (fun _ _ d _ _ h => by cases d <;> exact h) ?_
              repeat (first | (refine rw_quiet rfl (by rfl) (by rfl) (fun K hK => ?_); go_big_quiet_op; refine hK _ ?_; clear hK K) | (refine rw_skip rfl (by rfl) (fun K hK => ?_); go_big_quiet_op; refine hK _ ?_; clear hK K))
              refine rw_call rfl (by rfl) (by rfl) (fun K hK => ?_)
              go_simp
              refine (rtime_any x _).mono ?_
              rw [HT.out]
              rintro e w3 ⟨rfl, rfl⟩
              refine hK _ _ (Ext.rfl' _) ?_; clear hK K
              repeat (first | (refine rw_quiet rfl (by rfl) (by rfl) (fun K hK => ?_); go_big_quiet_op; refine hK _ ?_; clear hK K) | (refine rw_skip rfl (by rfl) (fun K hK => ?_); go_big_quiet_op; refine hK _ ?_; clear hK K))
              refine rw_call rfl (by rfl) (by rfl) (fun K hK => ?_)
              go_simp
              refine (rtime_any y _).mono ?_
              rw [HT2.out]
              rintro e w3 ⟨rfl, rfl⟩
              refine hK _ _ (Ext.rfl' _) ?_; clear hK K
              repeat (first | (refine rw_quiet rfl (by rfl) (by rfl) (fun K hK => ?_); go_big_quiet_op; refine hK _ ?_; clear hK K) | (refine rw_skip rfl (by rfl) (fun K hK => ?_); go_big_quiet_op; refine hK _ ?_; clear hK K))
              clear r0 r1 r2
              refine rw_nil ?_
              go_wp2
              go_ret
              exact ⟨rfl, X.out.tr (Ext.drew wr)⟩
            · have hzx2 : decide (x < z) = false := decide_eq_false hzx
              go_wp2_with fail
              have r0 := fun d os => Ext.cell (Ext.reg wr.drew d os) (Ext.cell (Ext.drew wr) c0)
              have r1 := fun d os => Ext.cell (Ext.reg wr.drew d os) (Ext.cell (Ext.drew wr) c1)
              have r2 := fun d os => Ext.cell (Ext.reg wr.drew d os) (Ext.cell (Ext.drew wr) c2)
              refine rw_start [0, 1, 2, 3, 4, 5, 6, 7, 8, 9, 10, 11, 12, 13, 14, 15, 16, 17, 18, 19, 20, 21, 22, 23, 24, 25, 26, 27, 28, 29, 30, 31, 32, 33] (by kernel_rfl) (by kernel_rfl) (fun _ _ d _ _ h => by cases d <;> exact h) ?_
              repeat (first | (refine rw_quiet rfl (by rfl) (by rfl) (fun K hK => ?_); go_big_quiet_op; refine hK _ ?_; clear hK K) | (refine rw_skip rfl (by rfl) (fun K hK => ?_); go_big_quiet_op; refine hK _ ?_; clear hK K))
              refine rw_call rfl (by rfl) (by rfl) (fun K hK => ?_)
              go_simp
              refine (rtime_any x _).mono ?_
              rw [HT.out]
              rintro e w3 ⟨rfl, rfl⟩
              refine hK _ _ (Ext.rfl' _) ?_; clear hK K
              repeat (first | (refine rw_quiet rfl (by rfl) (by rfl) (fun K hK => ?_); go_big_quiet_op; refine hK _ ?_; clear hK K) | (refine rw_skip rfl (by rfl) (fun K hK => ?_); go_big_quiet_op; refine hK _ ?_; clear hK K))
              refine rw_call rfl (by rfl) (by rfl) (fun K hK => ?_)
              go_simp
              refine (rtime_any y _).mono ?_
              rw [HT2.out]
              rintro e w3 ⟨rfl, rfl⟩
              refine hK _ _ (Ext.rfl' _) ?_; clear hK K
              repeat (first | (refine rw_quiet rfl (by rfl) (by rfl) (fun K hK => ?_); go_big_quiet_op; refine hK _ ?_; clear hK K) | (refine rw_skip rfl (by rfl) (fun K hK => ?_); go_big_quiet_op; refine hK _ ?_; clear hK K))
              clear r0 r1 r2
              refine rw_nil ?_
              go_wp2
              go_roundw
              case rel => exact ⟨k + 1, by omega, by go_num, X.out.tr (Ext.drew wr), fun j hj => by
                rcases Nat.lt_or_ge j k with h | h
                · exact OK.out j h
                · obtain rfl : j = k := by omega
                  unfold okAt
                  rw [← HX.out, ← HY.out, HT.out, HT2.out, ← HZ.out, decide_eq_true (show z ≤ x by omega), Bool.or_true]
                  rfl⟩
              case measure => simp [intOf]; omega
      · have hkn : k = n := by omega
        have OKN : Hid (∀ j, j < l.length → okAt l j = true) := Lib.hid (by have h1 := N.out; have h2 := OK.out; intro j hj; exact h2 j (by omega))
        have hge : ¬ k < n := hlt
        obtain ⟨wa, rfl⟩ : ∃ wa : World, wa = wr := ⟨_, rfl⟩
        clear OK hkn
        go_wp2
        go_loopw [6] (fun i wv => ∃ m : Nat, m ≤ n ∧ i = .int .i64 (m : Int) ∧ Ext w wv ∧ ∀ j, j < m → rowOk l q j = true) (fun i _ => n - (intOf i).toNat)
        case atStart => exact ⟨0, by omega, rfl, X.out, fun j hj => by omega⟩
        case round =>
          obtain ⟨wv, rfl⟩ : ∃ wv : World, wv = wr := ⟨_, rfl⟩
          obtain ⟨m, hm, rfl, x1, ok1⟩ := hrel
          have XV := Lib.hid x1
          have RK := Lib.hid ok1
          clear x1 ok1 X
          by_cases hlt2 : m < n
          · obtain ⟨b, o, hp, c0, c1⟩ := rd_at (S.out.ext XV.out) m hlt2
            have om := okAt_T (OKN.out m (by rw [N.out]; exact hlt2))
            obtain ⟨x, hx⟩ : ∃ x, x = (gd l m).1 := ⟨_, rfl⟩
            obtain ⟨y, hy⟩ : ∃ y, y = (gd l m).2 := ⟨_, rfl⟩
            rw [← hx] at c0 om
            rw [← hy] at c1 om
            have BX := isT_yes om.1
            have BY := isT_yes om.2.1
            obtain ⟨bx1, bx2⟩ := BX
            obtain ⟨by1, by2⟩ := BY
            have HX := Lib.hid hx
            have HY := Lib.hid hy
            clear hx hy om
            subst hp
            have D0 := Lib.hid c0
            have D1 := Lib.hid c1
            clear c0 c1
            go_wp2
            go_loopw [7] (fun i wu => ∃ j : Nat, j ≤ m ∧ i = .int .i64 (j : Int) ∧ Ext wv wu ∧ ∀ a, a < j → keepB (gd l a) (x, y) q = true) (fun i _ => m - (intOf i).toNat)
            case atStart => exact ⟨0, by omega, rfl, Ext.rfl' _, fun j hj => by omega⟩
            case round =>
              obtain ⟨wu, rfl⟩ : ∃ wu : World, wu = wr := ⟨_, rfl⟩
              obtain ⟨j, hj, rfl, x1, ok1⟩ := hrel
              have XU := Lib.hid x1
              have KK := Lib.hid ok1
              clear x1 ok1
              by_cases hlt3 : j < m
              · have hltn : j < n := by omega
                obtain ⟨b', o', hp, c0, c1⟩ := rd_at (S.out.ext (XV.out.tr XU.out)) j hltn
                have oj := okAt_T (OKN.out j (by rw [N.out]; omega))
                have hup := okAt_up OKN.out m j (by omega) (by rw [N.out]; exact hlt2)
                obtain ⟨rfl, rfl⟩ : b = b' ∧ o = o' := by simpa using hp
                obtain ⟨x', hx⟩ : ∃ x, x = (gd l j).1 := ⟨_, rfl⟩
                obtain ⟨y', hy⟩ : ∃ y, y = (gd l j).2 := ⟨_, rfl⟩
                rw [← hx] at c0 oj hup
                rw [← HX.out] at hup
                rw [← hy] at c1 oj
                have BX := isT_yes oj.1
                have BY := isT_yes oj.2.1
                obtain ⟨cx1, cx2⟩ := BX
                obtain ⟨cy1, cy2⟩ := BY
                have HG : Hid (gd l j = (x', y')) := Lib.hid (by rw [hx, hy])
                clear hx hy oj hp
                have r0 := fun d os => Ext.cell (Ext.reg wu.drew d os) (Ext.cell (Ext.drew wu) c0)
                have r1 := fun d os => Ext.cell (Ext.reg wu.drew d os) (Ext.cell (Ext.drew wu) c1)
                have r2 := fun d os => Ext.cell (Ext.reg wu.drew d os) (Ext.cell (XU.out.tr (Ext.drew wu)) D0.out)
                have r3 := fun d os => Ext.cell (Ext.reg wu.drew d os) (Ext.cell (XU.out.tr (Ext.drew wu)) D1.out)
                clear c0 c1
                have kp := rkeeps_any (x', y') (x, y) q ⟨cx1, cx2, cy1, cy2⟩ ⟨bx1, bx2, by1, by2⟩ hup hq1 hq2
                have KP := Lib.hid kp
                clear kp
                cases hk : keepB (x', y') (x, y) q
                · have hF3 : F = (m : Int) + 1 := by
                    rw [HF.out]
                    refine fault_at Q.out OKN.out (by rw [N.out]; exact hlt2) RK.out (row_not hlt3 ?_)
                    rw [HG.out, show gd l m = (x, y) by rw [HX.out, HY.out], hk]
                  subst hF3
                  rw [hk] at KP
                  clear hk
                  go_wp2_with fail
                  refine rw_start [0, 1, 2, 3, 4, 5, 6, 7, 8, 9, 10] (by kernel_rfl) (by kernel_rfl) (fun _ _ d _ _ h => by cases d <;> exact h) ?_
                  repeat (first | (refine rw_quiet rfl (by rfl) (by rfl) (fun K hK => ?_); go_big_quiet_op; refine hK _ ?_; clear hK K) | (refine rw_skip rfl (by rfl) (fun K hK => ?_); go_big_quiet_op; refine hK _ ?_; clear hK K))
                  refine rw_call rfl (by rfl) (by rfl) (fun K hK => ?_)
                  go_simp
                  refine (KP.out _).mono ?_
                  rintro e w4 ⟨rfl, x4⟩
                  refine hK _ _ x4 ?_
                  clear hK K r0 r1 r2 r3
                  have X4 := Lib.hid x4
                  clear x4
                  repeat (first | (refine rw_quiet rfl (by rfl) (by rfl) (fun K hK => ?_); go_big_quiet_op; refine hK _ ?_; clear hK K) | (refine rw_skip rfl (by rfl) (fun K hK => ?_); go_big_quiet_op; refine hK _ ?_; clear hK K))
                  refine rw_nil ?_
                  go_wp2
                  go_ret
                  exact ⟨rfl, XV.out.tr (XU.out.tr ((Ext.drew wu).tr X4.out))⟩
                · have HK := Lib.hid hk
                  rw [hk] at KP
                  clear hk
                  go_wp2_with fail
                  refine rw_start [0, 1, 2, 3, 4, 5, 6, 7, 8, 9, 10] (by kernel_rfl) (by kernel_rfl) (fun _ _ d _ _ h => by cases d <;> exact h) ?_
                  repeat (first | (refine rw_quiet rfl (by rfl) (by rfl) (fun K hK => ?_); go_big_quiet_op; refine hK _ ?_; clear hK K) | (refine rw_skip rfl (by rfl) (fun K hK => ?_); go_big_quiet_op; refine hK _ ?_; clear hK K))
                  refine rw_call rfl (by rfl) (by rfl) (fun K hK => ?_)
                  go_simp
                  refine (KP.out _).mono ?_
                  rintro e w4 ⟨rfl, x4⟩
                  refine hK _ _ x4 ?_
                  clear hK K r0 r1 r2 r3
                  have X4 := Lib.hid x4
                  clear x4
                  repeat (first | (refine rw_quiet rfl (by rfl) (by rfl) (fun K hK => ?_); go_big_quiet_op; refine hK _ ?_; clear hK K) | (refine rw_skip rfl (by rfl) (fun K hK => ?_); go_big_quiet_op; refine hK _ ?_; clear hK K))
                  refine rw_nil ?_
                  go_wp2
                  go_roundw
                  case rel => exact ⟨j + 1, by omega, by go_num, XU.out.tr ((Ext.drew wu).tr X4.out), fun a ha => by
                    rcases Nat.lt_or_ge a j with h | h
                    · exact KK.out a h
                    · obtain rfl : a = j := by omega
                      rw [HG.out]
                      exact HK.out⟩
                  case measure => simp [intOf]; omega
              · have hjm : j = m := by omega
                have RK2 : Hid (∀ a, a < m + 1 → rowOk l q a = true) := Lib.hid (by
                  intro a ha
                  rcases Nat.lt_or_ge a m with h | h
                  · exact RK.out a h
                  · obtain rfl : a = m := by omega
                    refine row_all fun c hc => ?_
                    rw [show gd l a = (x, y) by rw [HX.out, HY.out]]
                    exact KK.out c (by omega))
                have X5 := Lib.hid (XV.out.tr XU.out)
                clear hjm
                go_wp2
                go_roundw
                case rel => exact ⟨m + 1, by omega, by go_num, X5.out, RK2.out⟩
                case measure => simp [intOf]; omega
          · have hmn : m = n := by omega
            have hF2 : F = -1 := by
              rw [HF.out]
              exact fault_none Q.out OKN.out (by have h1 := N.out; have h2 := RK.out; intro j hj; exact h2 j (by omega))
            subst hF2
            go_wp2
            go_ret
            exact ⟨rfl, XV.out⟩
end Go.Proofs.Ytjghjnnmndibcaa
