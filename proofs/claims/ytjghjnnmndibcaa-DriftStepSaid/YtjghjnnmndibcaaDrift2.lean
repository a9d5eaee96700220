/-
  Contracts of drift.Fault and drift.May: at any readings of 64 bits.
-/
import Derived.Test.YtjghjnnmndibcaaDrift
namespace Go.Proofs.Ytjghjnnmndibcaa
open Go Go.Sort Go.RowKit
set_option linter.unusedVariables false

def rdE (r : RdD) : List Value := [.int .i64 r.1, .int .i64 r.2]
theorem rd_at {w : World} {p : Option Addr} {n cap : Nat} {l : List RdD} (h : SlS 2 w p n cap (l.map rdE)) (k : Nat) (hk : k < n) :
    ∃ b o, p = some ⟨b, o, none⟩ ∧ w.cell? ⟨b, o + k * 2, none⟩ = some (.int .i64 (gd l k).1) ∧ w.cell? ⟨b, o + k * 2 + 1, none⟩ = some (.int .i64 (gd l k).2) := by
  obtain ⟨b, o, x, hp, hx, -, hc⟩ := h.at k hk
  rw [List.getElem?_map] at hx
  obtain ⟨r, hr, rfl⟩ := Option.map_eq_some_iff.1 hx
  have e : gd l k = r := by unfold gd; rw [List.getD_eq_getElem?_getD, hr]; rfl
  rw [e]
  exact ⟨b, o, hp, hc 0 _ rfl, hc 1 _ rfl⟩
theorem gd_of {l : List RdD} {q : RdD → Prop} (h : ∀ r ∈ l, q r) {k : Nat} (hk : k < l.length) : q (gd l k) := by
  unfold gd
  rw [List.getD_eq_getElem?_getD, List.getElem?_eq_getElem hk]
  exact h _ (List.getElem_mem hk)
theorem rds_len {w : World} {p : Option Addr} {n cap : Nat} {l : List RdD} (h : SlS 2 w p n cap (l.map rdE)) : l.length = n := by have := h.len; simpa using this

set_option maxRecDepth 8000 in
set_option maxHeartbeats 8000000 in
theorem fault_any {w : World} {p : Option Addr} {n cap : Nat} {l : List RdD} {q : Int} (h : SlS 2 w p n cap (l.map rdE)) (hl : ∀ r ∈ l, I64 r.1 ∧ I64 r.2) :
    Calls Try.prog 23 #[.slice p n cap, .int .i64 q] w fun e w' => e = .returned (.int .i64 (fault l q)) ∧ Ext w w' := by
  have hn : n ≤ 9223372036854775807 := Nat.le_trans h.le h.max
  have hcap := h.le
  have S := Lib.hid h
  have L := Lib.hid hl
  have N := Lib.hid (rds_len h)
  clear h hl
  obtain ⟨F, hF⟩ : ∃ F, F = fault l q := ⟨_, rfl⟩
  rw [← hF]
  cases hq : okP q
  · rw [fault_p hq] at hF
    subst hF
    have Q := Lib.hid hq
    clear hq
    go_enter Try.func23, Try.ntmps23
    go_wp2_with fail
    refine (drift_any q _).mono ?_
    rw [Q.out]
    rintro e w1 ⟨rfl, rfl⟩
    go_wp2
    go_ret
    exact ⟨rfl, Ext.rfl' _⟩
  · have Q := Lib.hid hq
    have HF := Lib.hid hF
    obtain ⟨hq1, hq2⟩ := okP_yes hq
    clear hq hF
    go_enter Try.func23, Try.ntmps23
    go_wp2_with fail
    refine (drift_any q _).mono ?_
    rw [Q.out]
    rintro e w1 ⟨rfl, rfl⟩
    go_wp2
    go_loopw [16] (fun i wr => ∃ k : Nat, k ≤ n ∧ i = .int .i64 (k : Int) ∧ Ext w wr ∧ ∀ j, j < k → okAt l j = true) (fun i _ => n - (intOf i).toNat)
    case atStart => exact ⟨0, by omega, rfl, Ext.rfl' _, fun j hj => by omega⟩
    case round =>
      obtain ⟨k, hk, rfl, x1, ok1⟩ := hrel
      have X := Lib.hid x1
      have OK := Lib.hid ok1
      clear x1 ok1
      by_cases hlt : k < n
      · obtain ⟨b, o, hp, c0, c1⟩ := rd_at (S.out.ext X.out) k hlt
        obtain ⟨i1, i2⟩ := gd_of L.out (k := k) (by rw [N.out]; exact hlt)
        obtain ⟨x, hx⟩ : ∃ x, x = (gd l k).1 := ⟨_, rfl⟩
        obtain ⟨y, hy⟩ : ∃ y, y = (gd l k).2 := ⟨_, rfl⟩
        rw [← hx] at c0 i1
        rw [← hy] at c1 i2
        have HX := Lib.hid hx
        have HY := Lib.hid hy
        have I1 := Lib.hid i1
        have I2 := Lib.hid i2
        clear hx hy i1 i2
        cases ht : (isT x && isT y)
        · have hbad : F = 0 := by
            rw [HF.out]
            refine fault_bad (k := k) (by rw [N.out]; exact hlt) ?_
            unfold okAt
            rw [← HX.out, ← HY.out, ht]
            rfl
          subst hbad hp
          have HT := Lib.hid ht
          clear ht
          go_wp2_with fail
          have d0 : (wr.alloc (.cells #[.int .i64 x, .int .i64 y] 51)).cell? ⟨wr.heap.size, 0, none⟩ = some (.int .i64 x) := World.cell?_alloc_mark ..
          have d1 : (wr.alloc (.cells #[.int .i64 x, .int .i64 y] 51)).cell? ⟨wr.heap.size, 1, none⟩ = some (.int .i64 y) := World.cell?_alloc_mark ..
          have X1 := Lib.hid (Ext.alloc wr (.cells #[.int .i64 x, .int .i64 y] 51))
          generalize wr.alloc (.cells #[.int .i64 x, .int .i64 y] 51) = w1 at *
          have r0 := fun d os => Ext.cell (Ext.reg w1.drew d os) (Ext.cell (Ext.drew w1) d0)
          have r1 := fun d os => Ext.cell (Ext.reg w1.drew d os) (Ext.cell (Ext.drew w1) d1)
          refine rw_start [0, 1, 2, 3, 4, 5, 6, 7, 8, 9, 10, 11, 12, 13, 14, 15, 16, 17, 18, 19, 20, 21] (by kernel_rfl) (by kernel_rfl) (fun _ _ d _ _ h => by cases d <;> exact h) ?_
          repeat (first | (refine rw_quiet rfl (by rfl) (by rfl) (fun K hK => ?_); go_big_quiet_op; refine hK _ ?_; clear hK K) | (refine rw_skip rfl (by rfl) (fun K hK => ?_); go_big_quiet_op; refine hK _ ?_; clear hK K))
          refine rw_call rfl (by rfl) (by rfl) (fun K hK => ?_)
          go_simp
          refine hK _ _ (show Ext w1.drew _ from Ext.alloc w1.drew _) ?_
          clear hK K r0 r1
          have s2 : SlI .i64 (w1.alloc (.cells #[.int .i64 x, .int .i64 y] 2)).drew (some ⟨w1.heap.size, 0, none⟩) 2 2 [x, y] := SlI.lit .i64 2 w1.drew 2 #[.int .i64 x, .int .i64 y] (0, 0) [x, y] rfl rfl (by omega) (two_wf I1.out I2.out)
          have x2 : Ext w1 (w1.alloc (.cells #[.int .i64 x, .int .i64 y] 2)).drew := (Ext.alloc w1 _).tr (Ext.drew _)
          generalize (w1.alloc (.cells #[.int .i64 x, .int .i64 y] 2)).drew = w2 at *
          have S2 := Lib.hid s2
          have X2 := Lib.hid x2
          clear s2 x2
          have r0 := fun d os => Ext.cell (Ext.reg w2 d os) (Ext.cell X2.out d0)
          repeat (first | (refine rw_quiet rfl (by rfl) (by rfl) (fun K hK => ?_); go_big_quiet_op; refine hK _ ?_; clear hK K) | (refine rw_skip rfl (by rfl) (fun K hK => ?_); go_big_quiet_op; refine hK _ ?_; clear hK K))
          refine rw_call rfl (by rfl) (by rfl) (fun K hK => ?_)
          go_simp
          refine (time_any S2.out).mono ?_
          rw [show [x, y].all isT = false by simpa using HT.out]
          rintro e w3 ⟨rfl, rfl⟩
          refine hK _ _ (Ext.rfl' _) ?_; clear hK K
          repeat (first | (refine rw_quiet rfl (by rfl) (by rfl) (fun K hK => ?_); go_big_quiet_op; refine hK _ ?_; clear hK K) | (refine rw_skip rfl (by rfl) (fun K hK => ?_); go_big_quiet_op; refine hK _ ?_; clear hK K))
          clear r0
          refine rw_nil ?_
          go_wp2
          go_ret
          exact ⟨rfl, X.out.tr (X1.out.tr X2.out)⟩
        · have HT := Lib.hid ht
          clear ht
          by_cases h0 : k = 0
          · have hg0 : decide (0 < k) = false := decide_eq_false (by omega)
            have H0 := Lib.hid h0
            clear h0
            subst hp
            go_wp2_with fail
            have d0 : (wr.alloc (.cells #[.int .i64 x, .int .i64 y] 51)).cell? ⟨wr.heap.size, 0, none⟩ = some (.int .i64 x) := World.cell?_alloc_mark ..
            have d1 : (wr.alloc (.cells #[.int .i64 x, .int .i64 y] 51)).cell? ⟨wr.heap.size, 1, none⟩ = some (.int .i64 y) := World.cell?_alloc_mark ..
            have X1 := Lib.hid (Ext.alloc wr (.cells #[.int .i64 x, .int .i64 y] 51))
            generalize wr.alloc (.cells #[.int .i64 x, .int .i64 y] 51) = w1 at *
            have r0 := fun d os => Ext.cell (Ext.reg w1.drew d os) (Ext.cell (Ext.drew w1) d0)
            have r1 := fun d os => Ext.cell (Ext.reg w1.drew d os) (Ext.cell (Ext.drew w1) d1)
            refine rw_start [0, 1, 2, 3, 4, 5, 6, 7, 8, 9, 10, 11, 12, 13, 14, 15, 16, 17, 18, 19, 20, 21] (by kernel_rfl) (by kernel_rfl) (fun _ _ d _ _ h => by cases d <;> exact h) ?_
            repeat (first | (refine rw_quiet rfl (by rfl) (by rfl) (fun K hK => ?_); go_big_quiet_op; refine hK _ ?_; clear hK K) | (refine rw_skip rfl (by rfl) (fun K hK => ?_); go_big_quiet_op; refine hK _ ?_; clear hK K))
            refine rw_call rfl (by rfl) (by rfl) (fun K hK => ?_)
            go_simp
            refine hK _ _ (show Ext w1.drew _ from Ext.alloc w1.drew _) ?_
            clear hK K r0 r1
            have s2 : SlI .i64 (w1.alloc (.cells #[.int .i64 x, .int .i64 y] 2)).drew (some ⟨w1.heap.size, 0, none⟩) 2 2 [x, y] := SlI.lit .i64 2 w1.drew 2 #[.int .i64 x, .int .i64 y] (0, 0) [x, y] rfl rfl (by omega) (two_wf I1.out I2.out)
            have x2 : Ext w1 (w1.alloc (.cells #[.int .i64 x, .int .i64 y] 2)).drew := (Ext.alloc w1 _).tr (Ext.drew _)
            generalize (w1.alloc (.cells #[.int .i64 x, .int .i64 y] 2)).drew = w2 at *
            have S2 := Lib.hid s2
            have X2 := Lib.hid x2
            clear s2 x2
            have r0 := fun d os => Ext.cell (Ext.reg w2 d os) (Ext.cell X2.out d0)
            repeat (first | (refine rw_quiet rfl (by rfl) (by rfl) (fun K hK => ?_); go_big_quiet_op; refine hK _ ?_; clear hK K) | (refine rw_skip rfl (by rfl) (fun K hK => ?_); go_big_quiet_op; refine hK _ ?_; clear hK K))
            refine rw_call rfl (by rfl) (by rfl) (fun K hK => ?_)
            go_simp
            refine (time_any S2.out).mono ?_
            rw [show [x, y].all isT = true by simpa using HT.out]
            rintro e w3 ⟨rfl, rfl⟩
            refine hK _ _ (Ext.rfl' _) ?_; clear hK K
            repeat (first | (refine rw_quiet rfl (by rfl) (by rfl) (fun K hK => ?_); go_big_quiet_op; refine hK _ ?_; clear hK K) | (refine rw_skip rfl (by rfl) (fun K hK => ?_); go_big_quiet_op; refine hK _ ?_; clear hK K))
            clear r0
            refine rw_nil ?_
            go_wp2
            go_roundw
            case rel => exact ⟨k + 1, by omega, by go_num, X.out.tr (X1.out.tr X2.out), fun j hj => by
              rcases Nat.lt_or_ge j k with h | h
              · exact OK.out j h
              · obtain rfl : j = k := by omega
                unfold okAt
                rw [← HX.out, ← HY.out, HT.out, H0.out]
                rfl⟩
            case measure => simp [intOf]; omega
          · have hg0 : 0 < k := by omega
            have hg1 : decide (0 < k) = true := decide_eq_true hg0
            obtain ⟨b', o', hp', c2, -⟩ := rd_at (S.out.ext X.out) (k - 1) (by omega)
            obtain ⟨z, hz⟩ : ∃ z, z = (gd l (k - 1)).1 := ⟨_, rfl⟩
            rw [← hz] at c2
            have hbb : b' = b ∧ o' = o := by rw [hp'] at hp; simpa using hp
            obtain ⟨rfl, rfl⟩ := hbb
            subst hp'
            clear hp
            have HZ := Lib.hid hz
            clear hz
            have kk : ((k : Int) - 1).toNat = k - 1 := by omega
            by_cases hzx : x < z
            · have hbad : F = 0 := by
                rw [HF.out]
                refine fault_bad (k := k) (by rw [N.out]; exact hlt) ?_
                unfold okAt
                rw [← HX.out, ← HY.out, HT.out, ← HZ.out, decide_eq_false h0, decide_eq_false (by omega)]
                rfl
              subst hbad
              go_wp2_with fail
              have d0 : (wr.alloc (.cells #[.int .i64 x, .int .i64 y] 51)).cell? ⟨wr.heap.size, 0, none⟩ = some (.int .i64 x) := World.cell?_alloc_mark ..
              have d1 : (wr.alloc (.cells #[.int .i64 x, .int .i64 y] 51)).cell? ⟨wr.heap.size, 1, none⟩ = some (.int .i64 y) := World.cell?_alloc_mark ..
              have X1 := Lib.hid (Ext.alloc wr (.cells #[.int .i64 x, .int .i64 y] 51))
              generalize wr.alloc (.cells #[.int .i64 x, .int .i64 y] 51) = w1 at *
              have r0 := fun d os => Ext.cell (Ext.reg w1.drew d os) (Ext.cell (Ext.drew w1) d0)
              have r1 := fun d os => Ext.cell (Ext.reg w1.drew d os) (Ext.cell (Ext.drew w1) d1)
              refine rw_start [0, 1, 2, 3, 4, 5, 6, 7, 8, 9, 10, 11, 12, 13, 14, 15, 16, 17, 18, 19, 20, 21] (by kernel_rfl) (by kernel_rfl) (fun _ _ d _ _ h => by cases d <;> exact h) ?_
              repeat (first | (refine rw_quiet rfl (by rfl) (by rfl) (fun K hK => ?_); go_big_quiet_op; refine hK _ ?_; clear hK K) | (refine rw_skip rfl (by rfl) (fun K hK => ?_); go_big_quiet_op; refine hK _ ?_; clear hK K))
              refine rw_call rfl (by rfl) (by rfl) (fun K hK => ?_)
              go_simp
              refine hK _ _ (show Ext w1.drew _ from Ext.alloc w1.drew _) ?_
              clear hK K r0 r1
              have s2 : SlI .i64 (w1.alloc (.cells #[.int .i64 x, .int .i64 y] 2)).drew (some ⟨w1.heap.size, 0, none⟩) 2 2 [x, y] := SlI.lit .i64 2 w1.drew 2 #[.int .i64 x, .int .i64 y] (0, 0) [x, y] rfl rfl (by omega) (two_wf I1.out I2.out)
              have x2 : Ext w1 (w1.alloc (.cells #[.int .i64 x, .int .i64 y] 2)).drew := (Ext.alloc w1 _).tr (Ext.drew _)
              generalize (w1.alloc (.cells #[.int .i64 x, .int .i64 y] 2)).drew = w2 at *
              have S2 := Lib.hid s2
              have X2 := Lib.hid x2
              clear s2 x2
              have r0 := fun d os => Ext.cell (Ext.reg w2 d os) (Ext.cell X2.out d0)
              have r2 := fun d os => Ext.cell (Ext.reg w2 d os) (Ext.cell X2.out (Ext.cell X1.out c2))
              repeat (first | (refine rw_quiet rfl (by rfl) (by rfl) (fun K hK => ?_); go_big_quiet_op; refine hK _ ?_; clear hK K) | (refine rw_skip rfl (by rfl) (fun K hK => ?_); go_big_quiet_op; refine hK _ ?_; clear hK K))
              refine rw_call rfl (by rfl) (by rfl) (fun K hK => ?_)
              go_simp
              refine (time_any S2.out).mono ?_
              rw [show [x, y].all isT = true by simpa using HT.out]
              rintro e w3 ⟨rfl, rfl⟩
              refine hK _ _ (Ext.rfl' _) ?_; clear hK K
              repeat (first | (refine rw_quiet rfl (by rfl) (by rfl) (fun K hK => ?_); go_big_quiet_op; refine hK _ ?_; clear hK K) | (refine rw_skip rfl (by rfl) (fun K hK => ?_); go_big_quiet_op; refine hK _ ?_; clear hK K))
              clear r0 r2
              refine rw_nil ?_
              go_wp2
              go_ret
              exact ⟨rfl, X.out.tr (X1.out.tr X2.out)⟩
            · have hzx2 : decide (x < z) = false := decide_eq_false hzx
              go_wp2_with fail
              have d0 : (wr.alloc (.cells #[.int .i64 x, .int .i64 y] 51)).cell? ⟨wr.heap.size, 0, none⟩ = some (.int .i64 x) := World.cell?_alloc_mark ..
              have d1 : (wr.alloc (.cells #[.int .i64 x, .int .i64 y] 51)).cell? ⟨wr.heap.size, 1, none⟩ = some (.int .i64 y) := World.cell?_alloc_mark ..
              have X1 := Lib.hid (Ext.alloc wr (.cells #[.int .i64 x, .int .i64 y] 51))
              generalize wr.alloc (.cells #[.int .i64 x, .int .i64 y] 51) = w1 at *
              have r0 := fun d os => Ext.cell (Ext.reg w1.drew d os) (Ext.cell (Ext.drew w1) d0)
              have r1 := fun d os => Ext.cell (Ext.reg w1.drew d os) (Ext.cell (Ext.drew w1) d1)
              refine rw_start [0, 1, 2, 3, 4, 5, 6, 7, 8, 9, 10, 11, 12, 13, 14, 15, 16, 17, 18, 19, 20, 21] (by kernel_rfl) (by kernel_rfl) (fun _ _ d _ _ h => by cases d <;> exact h) ?_
              repeat (first | (refine rw_quiet rfl (by rfl) (by rfl) (fun K hK => ?_); go_big_quiet_op; refine hK _ ?_; clear hK K) | (refine rw_skip rfl (by rfl) (fun K hK => ?_); go_big_quiet_op; refine hK _ ?_; clear hK K))
              refine rw_call rfl (by rfl) (by rfl) (fun K hK => ?_)
              go_simp
              refine hK _ _ (show Ext w1.drew _ from Ext.alloc w1.drew _) ?_
              clear hK K r0 r1
              have s2 : SlI .i64 (w1.alloc (.cells #[.int .i64 x, .int .i64 y] 2)).drew (some ⟨w1.heap.size, 0, none⟩) 2 2 [x, y] := SlI.lit .i64 2 w1.drew 2 #[.int .i64 x, .int .i64 y] (0, 0) [x, y] rfl rfl (by omega) (two_wf I1.out I2.out)
              have x2 : Ext w1 (w1.alloc (.cells #[.int .i64 x, .int .i64 y] 2)).drew := (Ext.alloc w1 _).tr (Ext.drew _)
              generalize (w1.alloc (.cells #[.int .i64 x, .int .i64 y] 2)).drew = w2 at *
              have S2 := Lib.hid s2
              have X2 := Lib.hid x2
              clear s2 x2
              have r0 := fun d os => Ext.cell (Ext.reg w2 d os) (Ext.cell X2.out d0)
              have r2 := fun d os => Ext.cell (Ext.reg w2 d os) (Ext.cell X2.out (Ext.cell X1.out c2))
              repeat (first | (refine rw_quiet rfl (by rfl) (by rfl) (fun K hK => ?_); go_big_quiet_op; refine hK _ ?_; clear hK K) | (refine rw_skip rfl (by rfl) (fun K hK => ?_); go_big_quiet_op; refine hK _ ?_; clear hK K))
              refine rw_call rfl (by rfl) (by rfl) (fun K hK => ?_)
              go_simp
              refine (time_any S2.out).mono ?_
              rw [show [x, y].all isT = true by simpa using HT.out]
              rintro e w3 ⟨rfl, rfl⟩
              refine hK _ _ (Ext.rfl' _) ?_; clear hK K
              repeat (first | (refine rw_quiet rfl (by rfl) (by rfl) (fun K hK => ?_); go_big_quiet_op; refine hK _ ?_; clear hK K) | (refine rw_skip rfl (by rfl) (fun K hK => ?_); go_big_quiet_op; refine hK _ ?_; clear hK K))
              clear r0 r2
              refine rw_nil ?_
              go_wp2
              go_roundw
              case rel => exact ⟨k + 1, by omega, by go_num, X.out.tr (X1.out.tr X2.out), fun j hj => by
                rcases Nat.lt_or_ge j k with h | h
                · exact OK.out j h
                · obtain rfl : j = k := by omega
                  unfold okAt
                  rw [← HX.out, ← HY.out, HT.out, ← HZ.out, decide_eq_true (show z ≤ x by omega), Bool.or_true]
                  rfl⟩
              case measure => simp [intOf]; omega
      · have hkn : k = n := by omega
        have OKN : Hid (∀ j, j < l.length → okAt l j = true) := Lib.hid (by have h1 := N.out; have h2 := OK.out; intro j hj; exact h2 j (by omega))
        have hge : ¬ k < n := hlt
        obtain ⟨wa, rfl⟩ : ∃ wa : World, wa = wr := ⟨_, rfl⟩
        clear OK hkn
        go_wp2
        go_loopw [46] (fun i wv => ∃ m : Nat, m ≤ n ∧ i = .int .i64 (m : Int) ∧ Ext w wv ∧ ∀ j, j < m → rowOk l q j = true) (fun i _ => n - (intOf i).toNat)
        case atStart => exact ⟨0, by omega, rfl, X.out, fun j hj => by omega⟩
        case round =>
          obtain ⟨wv, rfl⟩ : ∃ wv : World, wv = wr := ⟨_, rfl⟩
          obtain ⟨m, hm, rfl, x1, ok1⟩ := hrel
          have XV := Lib.hid x1
          have RK := Lib.hid ok1
          clear x1 ok1 X
          by_cases hlt2 : m < n
          · obtain ⟨b, o, hp, c0, c1⟩ := rd_at (S.out.ext XV.out) m hlt2
            have om := okAt_T (OKN.out m (by rw [N.out]; exact hlt2))
            obtain ⟨x, hx⟩ : ∃ x, x = (gd l m).1 := ⟨_, rfl⟩
            obtain ⟨y, hy⟩ : ∃ y, y = (gd l m).2 := ⟨_, rfl⟩
            rw [← hx] at c0 om
            rw [← hy] at c1 om
            have BX := isT_yes om.1
            have BY := isT_yes om.2.1
            obtain ⟨bx1, bx2⟩ := BX
            obtain ⟨by1, by2⟩ := BY
            have HX := Lib.hid hx
            have HY := Lib.hid hy
            clear hx hy om
            subst hp
            go_wp2
            have d0 : (wv.alloc (.cells #[.int .i64 x, .int .i64 y] 51)).cell? ⟨wv.heap.size, 0, none⟩ = some (.int .i64 x) := World.cell?_alloc_mark ..
            have d1 : (wv.alloc (.cells #[.int .i64 x, .int .i64 y] 51)).cell? ⟨wv.heap.size, 1, none⟩ = some (.int .i64 y) := World.cell?_alloc_mark ..
            have X1 := Lib.hid (XV.out.tr (Ext.alloc wv (.cells #[.int .i64 x, .int .i64 y] 51)))
            have HB := Lib.hid (Ext.alloc wv (.cells #[.int .i64 x, .int .i64 y] 51)).size
            generalize wv.alloc (.cells #[.int .i64 x, .int .i64 y] 51) = w1 at *
            have D0 := Lib.hid d0
            have D1 := Lib.hid d1
            clear d0 d1 c0 c1
            have HWS : Hid (wv.heap.size < w1.heap.size) := Lib.hid (World.block_lt_of_cell? w1 _ D0.out)
            go_loopw [55] (fun i wu => ∃ j : Nat, j ≤ m ∧ i = .int .i64 (j : Int) ∧ Ext w1 wu ∧ ∀ a, a < j → keepB (gd l a) (x, y) q = true) (fun i _ => m - (intOf i).toNat)
            case atStart => exact ⟨0, by omega, rfl, Ext.rfl' _, fun j hj => by omega⟩
            case round =>
              obtain ⟨wu, rfl⟩ : ∃ wu : World, wu = wr := ⟨_, rfl⟩
              obtain ⟨j, hj, rfl, x1, ok1⟩ := hrel
              have XU := Lib.hid x1
              have KK := Lib.hid ok1
              clear x1 ok1
              by_cases hlt3 : j < m
              · obtain ⟨b', o', hp, c0, c1⟩ := rd_at (S.out.ext (X1.out.tr XU.out)) j (by omega)
                have oj := okAt_T (OKN.out j (by rw [N.out]; omega))
                have hup := okAt_up OKN.out m j (by omega) (by rw [N.out]; exact hlt2)
                obtain ⟨rfl, rfl⟩ : b = b' ∧ o = o' := by simpa using hp
                obtain ⟨x', hx⟩ : ∃ x, x = (gd l j).1 := ⟨_, rfl⟩
                obtain ⟨y', hy⟩ : ∃ y, y = (gd l j).2 := ⟨_, rfl⟩
                rw [← hx] at c0 oj hup
                rw [← HX.out] at hup
                rw [← hy] at c1 oj
                have BX := isT_yes oj.1
                have BY := isT_yes oj.2.1
                obtain ⟨cx1, cx2⟩ := BX
                obtain ⟨cy1, cy2⟩ := BY
                have HG : Hid (gd l j = (x', y')) := Lib.hid (by rw [hx, hy])
                clear hx hy oj hp
                have d2 := Ext.cell (XU.out.tr (Ext.alloc wu (.cells #[.int .i64 x', .int .i64 y'] 51))) D0.out
                have d3 := Ext.cell (XU.out.tr (Ext.alloc wu (.cells #[.int .i64 x', .int .i64 y'] 51))) D1.out
                have kp := keeps_any (x', y') (x, y) q ⟨cx1, cx2, cy1, cy2⟩ ⟨bx1, bx2, by1, by2⟩ hup hq1 hq2
                have KP := Lib.hid kp
                clear kp
                cases hk : keepB (x', y') (x, y) q
                · have hF3 : F = (m : Int) + 1 := by
                    rw [HF.out]
                    refine fault_at Q.out OKN.out (by rw [N.out]; exact hlt2) RK.out (row_not hlt3 ?_)
                    rw [HG.out, show gd l m = (x, y) by rw [HX.out, HY.out], hk]
                  subst hF3
                  rw [hk] at KP
                  clear hk
                  go_wp2_with fail
                  refine (KP.out _).mono ?_
                  rintro e w4 ⟨rfl, x4⟩
                  have X4 := Lib.hid x4
                  clear x4
                  go_wp2
                  go_ret
                  exact ⟨rfl, X1.out.tr (XU.out.tr ((Ext.alloc wu _).tr X4.out))⟩
                · have HK := Lib.hid hk
                  rw [hk] at KP
                  clear hk
                  go_wp2_with fail
                  refine (KP.out _).mono ?_
                  rintro e w4 ⟨rfl, x4⟩
                  have X4 := Lib.hid x4
                  clear x4
                  go_wp2
                  go_roundw
                  case rel => exact ⟨j + 1, by omega, by go_num, XU.out.tr ((Ext.alloc wu _).tr X4.out), fun a ha => by
                    rcases Nat.lt_or_ge a j with h | h
                    · exact KK.out a h
                    · obtain rfl : a = j := by omega
                      rw [HG.out]
                      exact HK.out⟩
                  case measure => simp [intOf]; omega
              · have hjm : j = m := by omega
                have RK2 : Hid (∀ a, a < m + 1 → rowOk l q a = true) := Lib.hid (by
                  intro a ha
                  rcases Nat.lt_or_ge a m with h | h
                  · exact RK.out a h
                  · obtain rfl : a = m := by omega
                    refine row_all fun c hc => ?_
                    rw [show gd l a = (x, y) by rw [HX.out, HY.out]]
                    exact KK.out c (by omega))
                have X5 := Lib.hid (X1.out.tr XU.out)
                clear hjm
                go_wp2
                go_roundw
                case rel => exact ⟨m + 1, by omega, by go_num, X5.out, RK2.out⟩
                case measure => simp [intOf]; omega
          · have hmn : m = n := by omega
            have hF2 : F = -1 := by
              rw [HF.out]
              exact fault_none Q.out OKN.out (by have h1 := N.out; have h2 := RK.out; intro j hj; exact h2 j (by omega))
            subst hF2
            go_wp2
            go_ret
            exact ⟨rfl, XV.out⟩

end Go.Proofs.Ytjghjnnmndibcaa
