/-
  Contracts of wire's in, May and what it calls: at any messages. Conditions stand at each.
-/
import Derived.Test.YtgplmbchlahbkaaWire
import Derived.Test.YtgplmbchlahbkaaBox
import Derived.Test.YtgplmbchlahbkaaRegion3
namespace Go.Proofs.Ytgplmbchlahbkaa
open Go Go.Sort Go.RowKit
set_option linter.unusedVariables false

set_option maxHeartbeats 400000 in
/-- wire.in -/
theorem win_any {p : Option Addr} {n cap : Nat} {zs : List Int} {w : World} (a b : Int) (h : SlI .i64 w p n cap zs) :
    Calls Try.prog 42 #[.int .i64 a, .int .i64 b, .slice p n cap] w fun e w' => e = .returned (.bool (zs.all (inB a b))) ∧ w = w' := by
  have hn : n ≤ 9223372036854775807 := Nat.le_trans h.le h.max
  have H := Lib.hid h
  clear h
  go_enter Try.func42, Try.ntmps42
  go_wp2
  go_loop [11] (fun i => ∃ k : Nat, k ≤ n ∧ (zs.take k).all (inB a b) = true ∧ i = .int .i64 k) (fun i => n - (intOf i).toNat)
  case atStart => exact ⟨0, by omega, rfl, rfl⟩
  case round =>
    obtain ⟨k, hk, ha, rfl⟩ := hrel
    have HA := Lib.hid ha
    clear ha
    by_cases hlt : k < n
    · obtain ⟨bb, o, x, rfl, hx, hcell, hwf⟩ := H.out.at k hlt
      have HX := Lib.hid hx
      clear hx hwf
      cases ht : inB a b x
      · have hall : zs.all (inB a b) = false := by
          rw [List.all_eq_false]
          exact ⟨x, List.mem_of_getElem? HX.out, by rw [ht]; decide⟩
        have HB := Lib.hid hall
        have hT : x < a ∨ b < x := by
          have : ¬ (inB a b x = true) := by rw [ht]; decide
          simp only [inB, Bool.and_eq_true, decide_eq_true_eq] at this
          omega
        clear hall ht
        by_cases hT2 : x < a
        · go_wp2
          go_ret
          exact ⟨by rw [HB.out]; rfl, rfl⟩
        · have hT3 : b < x := by omega
          go_wp2
          go_ret
          exact ⟨by rw [HB.out]; rfl, rfl⟩
      · have hall : (zs.take (k + 1)).all (inB a b) = true := by
          rw [List.take_add_one, HX.out, List.all_append, HA.out]
          simp [ht]
        have HL := Lib.hid hall
        have hT : a ≤ x ∧ x ≤ b := by simpa [inB] using ht
        obtain ⟨t1, t2⟩ := hT
        have t3 : ¬ x < a := by omega
        have t4 : ¬ b < x := by omega
        clear hall ht
        go_wp2
        go_round
        case rel => exact ⟨k + 1, by omega, HL.out, by go_num⟩
        case measure => simp [intOf]; omega
    · have e : zs.take k = zs := List.take_of_length_le (by rw [H.out.len]; omega)
      rw [e] at HA
      clear e
      go_wp2
      go_ret
      exact ⟨by rw [HA.out]; rfl, rfl⟩

theorem win_ext {p : Option Addr} {n cap : Nat} {zs : List Int} {w : World} (a b : Int) (h : SlI .i64 w p n cap zs) :
    Calls Try.prog 42 #[.int .i64 a, .int .i64 b, .slice p n cap] w fun e w' => e = .returned (.bool (zs.all (inB a b))) ∧ Ext w w' :=
  (win_any a b h).mono fun e w' ⟨h1, h2⟩ => ⟨h1, by rw [h2]; exact Ext.rfl' _⟩

set_option maxHeartbeats 1000000 in
/-- The function that wire.May hands to ContainsFunc. -/
theorem mayf_any {e : EnD} {w : World} (he : EnOk e) : Calls Try.prog 44 #[enV e] w fun x w' => x = .returned (.bool (!mayB e)) ∧ Ext w w' := by
  obtain ⟨f1, f2, f3, f4, f5, f6, dat⟩ := e
  have D1 := EnBox.new w ⟨f1, f2, f3, f4, f5, f6, dat⟩ 54
  have HE := Lib.hid he
  clear he
  obtain ⟨c0, c1, c2, c3, c4, c5, c6⟩ := D1
  simp only at c0 c1 c2 c3 c4 c5 c6
  go_enter Try.func44, Try.ntmps44
  go_wp2_with fail
  refine (may_any (e := ⟨f1, f2, f3, f4, f5, f6, dat⟩) HE.out).mono ?_
  rintro x w2 ⟨rfl, x2⟩
  have X2 := Lib.hid ((Ext.alloc w (.cells (enA ⟨f1, f2, f3, f4, f5, f6, dat⟩) 54)).tr x2)
  clear x2
  go_wp2
  go_ret
  exact ⟨rfl, X2.out⟩
set_option maxHeartbeats 2000000 in
/-- IndexFunc, asked for the first entry that may not be: below 0 if all may. -/
theorem index_any {w : World} {p : Option Addr} {n cap : Nat} {L : List EnD} (h : SlS 7 w p n cap (L.map enL)) (hL : ∀ e ∈ L, EnOk e) :
    Calls Try.prog 60 #[.slice p n cap, .func (.func 44) #[] #[]] w fun e w' => (∃ z : Int, e = .returned (.int .i64 z) ∧ (decide (0 ≤ z)) = !(L.all mayB)) ∧ Ext w w' := by
  have hn : n ≤ 9223372036854775807 := Nat.le_trans h.le h.max
  have N := Lib.hid (en_len h)
  have S := Lib.hid h
  have HL := Lib.hid hL
  clear h hL
  go_enter Try.func60, Try.ntmps60
  go_wp2
  go_loopw [8] (fun i wr => ∃ k : Nat, k ≤ n ∧ i = .int .i64 (k : Int) ∧ (L.take k).all mayB = true ∧ Ext w wr) (fun i _ => n - (intOf i).toNat)
  case atStart => exact ⟨0, by omega, rfl, rfl, Ext.rfl' _⟩
  case round =>
    obtain ⟨k, hk, rfl, ht, x1⟩ := hrel
    have T := Lib.hid ht
    have X := Lib.hid x1
    clear ht x1
    by_cases hlt : k < n
    · obtain ⟨b, o, e, hp, hx, c0, c1, c2, c3, c4, c5, c6⟩ := en_at (S.out.ext X.out) k hlt
      have HX := Lib.hid hx
      clear hx
      subst hp
      obtain ⟨f1, f2, f3, f4, f5, f6, dat⟩ := e
      simp only at c0 c1 c2 c3 c4 c5 c6
      have ME := Lib.hid (fun w => mayf_any (w := w) (HL.out _ (List.mem_of_getElem? HX.out)))
      cases he : mayB ⟨f1, f2, f3, f4, f5, f6, dat⟩
      · have hB : Hid (L.all mayB = false) := Lib.hid (by
          rw [List.all_eq_false]
          exact ⟨_, List.mem_of_getElem? HX.out, by rw [he]; decide⟩)
        rw [he] at ME
        clear he
        go_wp2_with fail
        refine (ME.out _).mono ?_
        rintro e w4 ⟨rfl, x4⟩
        have X4 := Lib.hid (X.out.tr x4)
        clear x4
        go_wp2
        go_ret
        exact ⟨⟨_, rfl, by rw [hB.out, decide_eq_true (by omega)]; rfl⟩, X4.out⟩
      · have T2 : Hid ((L.take (k + 1)).all mayB = true) := Lib.hid (by
          rw [List.take_add_one, HX.out, List.all_append, T.out]
          simp [he])
        rw [he] at ME
        clear he
        go_wp2_with fail
        refine (ME.out _).mono ?_
        rintro e w4 ⟨rfl, x4⟩
        have X4 := Lib.hid (X.out.tr x4)
        clear x4
        go_wp2
        go_roundw
        case rel => exact ⟨k + 1, by omega, by go_num, T2.out, X4.out⟩
        case measure => simp [intOf]; omega
    · have hB : Hid (L.all mayB = true) := Lib.hid (by
        have h1 := T.out
        rwa [List.take_of_length_le (by rw [N.out]; omega)] at h1)
      go_wp2
      go_ret
      exact ⟨⟨_, rfl, by rw [hB.out]; rfl⟩, X.out⟩
set_option maxHeartbeats 1000000 in
theorem contains_any {w : World} {p : Option Addr} {n cap : Nat} {L : List EnD} (h : SlS 7 w p n cap (L.map enL)) (hL : ∀ e ∈ L, EnOk e) :
    Calls Try.prog 43 #[.slice p n cap, .func (.func 44) #[] #[]] w fun e w' => e = .returned (.bool (!(L.all mayB))) ∧ Ext w w' := by
  have S := Lib.hid h
  have HL := Lib.hid hL
  clear h hL
  go_enter Try.func43, Try.ntmps43
  go_wp2_with fail
  refine (index_any S.out HL.out).mono ?_
  rintro e w2 ⟨⟨z, rfl, hz⟩, x2⟩
  have X2 := Lib.hid x2
  have HZ := Lib.hid hz
  clear x2 hz
  go_wp2
  go_ret
  exact ⟨by rw [← HZ.out]; rfl, X2.out⟩

set_option maxRecDepth 8000 in
set_option maxHeartbeats 16000000 in
/-- wire.May -/
theorem wmay_any {w : World} {m : MsD} {p : Option Addr} {n cap : Nat} {L : List EnD} (hm : MsOk m) (h : SlS 7 w p n cap (L.map enL)) (hL : ∀ e ∈ L, EnOk e) :
    Calls Try.prog 26 #[msV m p n cap] w fun e w' => e = .returned (.bool (mayM m L)) ∧ Ext w w' := by
  have hn : n ≤ 9223372036854775807 := Nat.le_trans h.le h.max
  have N := Lib.hid (en_len h)
  have HL := Lib.hid hL
  have D := Lib.hid (BoxV.new w w.heap.size (msA m p n cap) (msL m p n cap) 31 _ rfl (Nat.le_refl _) rfl)
  have X := Lib.hid (Ext.alloc w (.cells (msA m p n cap) 31))
  have S := Lib.hid (h.ext (Ext.alloc w (.cells (msA m p n cap) 31)))
  obtain ⟨kd, fr, to, bt, vw, ls, mb, po, cm, nm, ck, ye⟩ := m
  obtain ⟨B, hB⟩ : ∃ B, B = mayM ⟨kd, fr, to, bt, vw, ls, mb, po, cm, nm, ck, ye⟩ L := ⟨_, rfl⟩
  rw [← hB]
  have HB := Lib.hid hB
  have OKS : Hid (∀ x, (x = kd ∨ x = fr ∨ x = to ∨ x = bt ∨ x = vw ∨ x = ls ∨ x = mb ∨ x = po ∨ x = cm ∨ x = nm ∨ x = ck) → I64 x) := Lib.hid (by
    obtain ⟨h1, h2, h3, h4, h5, h6, h7, h8, h9, h10, h11⟩ := hm
    rintro x (rfl | rfl | rfl | rfl | rfl | rfl | rfl | rfl | rfl | rfl | rfl) <;> assumption)
  clear hm h hL hB
  have c0 := D.out.c 0 _ rfl
  have c1 := D.out.c 1 _ rfl
  have c2 := D.out.c 2 _ rfl
  have c3 := D.out.c 3 _ rfl
  have c4 := D.out.c 4 _ rfl
  have c5 := D.out.c 5 _ rfl
  have c6 := D.out.c 6 _ rfl
  have c7 := D.out.c 7 _ rfl
  have c8 := D.out.c 8 _ rfl
  have c9 := D.out.c 9 _ rfl
  have c10 := D.out.c 10 _ rfl
  have c11 := D.out.c 11 _ rfl
  have c12 := D.out.c 12 _ rfl
  simp only at c0 c1 c2 c3 c4 c5 c6 c7 c8 c9 c10 c11 c12
  go_enter Try.func26, Try.ntmps26
  go_wp2_with fail
  refine (win_ext 1 13 (SlI.lit' 2 _ _ 1 #[.int .i64 kd] [kd] (by simp) rfl rfl (by omega) (fun x hx => OKS.out x (by simp at hx ⊢; omega)))).mono ?_
  rintro e w2 ⟨rfl, x2⟩
  replace X := Lib.hid (X.out.tr ((Ext.alloc _ (.cells #[.int .i64 kd] 2)).tr x2))
  replace D := Lib.hid (D.out.ext ((Ext.alloc _ (.cells #[.int .i64 kd] 2)).tr x2))
  replace S := Lib.hid (S.out.ext ((Ext.alloc _ (.cells #[.int .i64 kd] 2)).tr x2))
  clear x2 c0 c1 c2 c3 c4 c5 c6 c7 c8 c9 c10 c11 c12
  have c0 := D.out.c 0 _ rfl
  have c1 := D.out.c 1 _ rfl
  have c2 := D.out.c 2 _ rfl
  have c3 := D.out.c 3 _ rfl
  have c4 := D.out.c 4 _ rfl
  have c5 := D.out.c 5 _ rfl
  have c6 := D.out.c 6 _ rfl
  have c7 := D.out.c 7 _ rfl
  have c8 := D.out.c 8 _ rfl
  have c9 := D.out.c 9 _ rfl
  have c10 := D.out.c 10 _ rfl
  have c11 := D.out.c 11 _ rfl
  have c12 := D.out.c 12 _ rfl
  simp only at c0 c1 c2 c3 c4 c5 c6 c7 c8 c9 c10 c11 c12
  cases g1 : [kd].all (inB 1 13)
  · have Hg1 := Lib.hid g1
    clear g1
    go_wp2_with fail
    refine (win_ext 0 1099511627776 (SlI.lit' 2 _ _ 4 #[.int .i64 vw, .int .i64 ls, .int .i64 nm, .int .i64 ck] [vw, ls, nm, ck] (by simp) rfl rfl (by omega) (fun x hx => OKS.out x (by simp at hx ⊢; omega)))).mono ?_
    rintro e w2 ⟨rfl, x2⟩
    replace X := Lib.hid (X.out.tr ((Ext.alloc _ (.cells #[.int .i64 vw, .int .i64 ls, .int .i64 nm, .int .i64 ck] 2)).tr x2))
    replace D := Lib.hid (D.out.ext ((Ext.alloc _ (.cells #[.int .i64 vw, .int .i64 ls, .int .i64 nm, .int .i64 ck] 2)).tr x2))
    replace S := Lib.hid (S.out.ext ((Ext.alloc _ (.cells #[.int .i64 vw, .int .i64 ls, .int .i64 nm, .int .i64 ck] 2)).tr x2))
    clear x2 c0 c1 c2 c3 c4 c5 c6 c7 c8 c9 c10 c11 c12
    have c0 := D.out.c 0 _ rfl
    have c1 := D.out.c 1 _ rfl
    have c2 := D.out.c 2 _ rfl
    have c3 := D.out.c 3 _ rfl
    have c4 := D.out.c 4 _ rfl
    have c5 := D.out.c 5 _ rfl
    have c6 := D.out.c 6 _ rfl
    have c7 := D.out.c 7 _ rfl
    have c8 := D.out.c 8 _ rfl
    have c9 := D.out.c 9 _ rfl
    have c10 := D.out.c 10 _ rfl
    have c11 := D.out.c 11 _ rfl
    have c12 := D.out.c 12 _ rfl
    simp only at c0 c1 c2 c3 c4 c5 c6 c7 c8 c9 c10 c11 c12
    cases g4 : [vw, ls, nm, ck].all (inB 0 1099511627776)
    · have Hg4 := Lib.hid g4
      clear g4
      go_wp2
      go_ret
      exact ⟨by rw [HB.out]; simp [mayM, whoB, whatB, Hg1.out, Hg4.out], X.out⟩
    · have Hg4 := Lib.hid g4
      clear g4
      go_wp2_with fail
      refine (win_ext 0 127 (SlI.lit' 2 _ _ 1 #[.int .i64 mb] [mb] (by simp) rfl rfl (by omega) (fun x hx => OKS.out x (by simp at hx ⊢; omega)))).mono ?_
      rintro e w2 ⟨rfl, x2⟩
      replace X := Lib.hid (X.out.tr ((Ext.alloc _ (.cells #[.int .i64 mb] 2)).tr x2))
      replace D := Lib.hid (D.out.ext ((Ext.alloc _ (.cells #[.int .i64 mb] 2)).tr x2))
      replace S := Lib.hid (S.out.ext ((Ext.alloc _ (.cells #[.int .i64 mb] 2)).tr x2))
      clear x2 c0 c1 c2 c3 c4 c5 c6 c7 c8 c9 c10 c11 c12
      have c0 := D.out.c 0 _ rfl
      have c1 := D.out.c 1 _ rfl
      have c2 := D.out.c 2 _ rfl
      have c3 := D.out.c 3 _ rfl
      have c4 := D.out.c 4 _ rfl
      have c5 := D.out.c 5 _ rfl
      have c6 := D.out.c 6 _ rfl
      have c7 := D.out.c 7 _ rfl
      have c8 := D.out.c 8 _ rfl
      have c9 := D.out.c 9 _ rfl
      have c10 := D.out.c 10 _ rfl
      have c11 := D.out.c 11 _ rfl
      have c12 := D.out.c 12 _ rfl
      simp only at c0 c1 c2 c3 c4 c5 c6 c7 c8 c9 c10 c11 c12
      cases g5 : [mb].all (inB 0 127)
      · have Hg5 := Lib.hid g5
        clear g5
        go_wp2
        go_ret
        exact ⟨by rw [HB.out]; simp [mayM, whoB, whatB, Hg1.out, Hg4.out, Hg5.out], X.out⟩
      · have Hg5 := Lib.hid g5
        clear g5
        go_wp2_with fail
        refine (win_ext 0 60 (SlI.lit' 2 _ _ 2 #[.int .i64 po, .int .i64 cm] [po, cm] (by simp) rfl rfl (by omega) (fun x hx => OKS.out x (by simp at hx ⊢; omega)))).mono ?_
        rintro e w2 ⟨rfl, x2⟩
        replace X := Lib.hid (X.out.tr ((Ext.alloc _ (.cells #[.int .i64 po, .int .i64 cm] 2)).tr x2))
        replace D := Lib.hid (D.out.ext ((Ext.alloc _ (.cells #[.int .i64 po, .int .i64 cm] 2)).tr x2))
        replace S := Lib.hid (S.out.ext ((Ext.alloc _ (.cells #[.int .i64 po, .int .i64 cm] 2)).tr x2))
        clear x2 c0 c1 c2 c3 c4 c5 c6 c7 c8 c9 c10 c11 c12
        have c0 := D.out.c 0 _ rfl
        have c1 := D.out.c 1 _ rfl
        have c2 := D.out.c 2 _ rfl
        have c3 := D.out.c 3 _ rfl
        have c4 := D.out.c 4 _ rfl
        have c5 := D.out.c 5 _ rfl
        have c6 := D.out.c 6 _ rfl
        have c7 := D.out.c 7 _ rfl
        have c8 := D.out.c 8 _ rfl
        have c9 := D.out.c 9 _ rfl
        have c10 := D.out.c 10 _ rfl
        have c11 := D.out.c 11 _ rfl
        have c12 := D.out.c 12 _ rfl
        simp only at c0 c1 c2 c3 c4 c5 c6 c7 c8 c9 c10 c11 c12
        cases g6 : [po, cm].all (inB 0 60)
        · have Hg6 := Lib.hid g6
          clear g6
          go_wp2
          go_ret
          exact ⟨by rw [HB.out]; simp [mayM, whoB, whatB, Hg1.out, Hg4.out, Hg5.out, Hg6.out], X.out⟩
        · have Hg6 := Lib.hid g6
          clear g6
          go_wp2
          go_ret
          exact ⟨by rw [HB.out]; simp [mayM, whoB, whatB, Hg1.out, Hg4.out, Hg5.out, Hg6.out], X.out⟩
  · have Hg1 := Lib.hid g1
    clear g1
    go_wp2_with fail
    refine (win_ext 1 7 (SlI.lit' 2 _ _ 2 #[.int .i64 fr, .int .i64 to] [fr, to] (by simp) rfl rfl (by omega) (fun x hx => OKS.out x (by simp at hx ⊢; omega)))).mono ?_
    rintro e w2 ⟨rfl, x2⟩
    replace X := Lib.hid (X.out.tr ((Ext.alloc _ (.cells #[.int .i64 fr, .int .i64 to] 2)).tr x2))
    replace D := Lib.hid (D.out.ext ((Ext.alloc _ (.cells #[.int .i64 fr, .int .i64 to] 2)).tr x2))
    replace S := Lib.hid (S.out.ext ((Ext.alloc _ (.cells #[.int .i64 fr, .int .i64 to] 2)).tr x2))
    clear x2 c0 c1 c2 c3 c4 c5 c6 c7 c8 c9 c10 c11 c12
    have c0 := D.out.c 0 _ rfl
    have c1 := D.out.c 1 _ rfl
    have c2 := D.out.c 2 _ rfl
    have c3 := D.out.c 3 _ rfl
    have c4 := D.out.c 4 _ rfl
    have c5 := D.out.c 5 _ rfl
    have c6 := D.out.c 6 _ rfl
    have c7 := D.out.c 7 _ rfl
    have c8 := D.out.c 8 _ rfl
    have c9 := D.out.c 9 _ rfl
    have c10 := D.out.c 10 _ rfl
    have c11 := D.out.c 11 _ rfl
    have c12 := D.out.c 12 _ rfl
    simp only at c0 c1 c2 c3 c4 c5 c6 c7 c8 c9 c10 c11 c12
    cases g2 : [fr, to].all (inB 1 7)
    · have Hg2 := Lib.hid g2
      clear g2
      go_wp2_with fail
      refine (win_ext 0 1099511627776 (SlI.lit' 2 _ _ 4 #[.int .i64 vw, .int .i64 ls, .int .i64 nm, .int .i64 ck] [vw, ls, nm, ck] (by simp) rfl rfl (by omega) (fun x hx => OKS.out x (by simp at hx ⊢; omega)))).mono ?_
      rintro e w2 ⟨rfl, x2⟩
      replace X := Lib.hid (X.out.tr ((Ext.alloc _ (.cells #[.int .i64 vw, .int .i64 ls, .int .i64 nm, .int .i64 ck] 2)).tr x2))
      replace D := Lib.hid (D.out.ext ((Ext.alloc _ (.cells #[.int .i64 vw, .int .i64 ls, .int .i64 nm, .int .i64 ck] 2)).tr x2))
      replace S := Lib.hid (S.out.ext ((Ext.alloc _ (.cells #[.int .i64 vw, .int .i64 ls, .int .i64 nm, .int .i64 ck] 2)).tr x2))
      clear x2 c0 c1 c2 c3 c4 c5 c6 c7 c8 c9 c10 c11 c12
      have c0 := D.out.c 0 _ rfl
      have c1 := D.out.c 1 _ rfl
      have c2 := D.out.c 2 _ rfl
      have c3 := D.out.c 3 _ rfl
      have c4 := D.out.c 4 _ rfl
      have c5 := D.out.c 5 _ rfl
      have c6 := D.out.c 6 _ rfl
      have c7 := D.out.c 7 _ rfl
      have c8 := D.out.c 8 _ rfl
      have c9 := D.out.c 9 _ rfl
      have c10 := D.out.c 10 _ rfl
      have c11 := D.out.c 11 _ rfl
      have c12 := D.out.c 12 _ rfl
      simp only at c0 c1 c2 c3 c4 c5 c6 c7 c8 c9 c10 c11 c12
      cases g4 : [vw, ls, nm, ck].all (inB 0 1099511627776)
      · have Hg4 := Lib.hid g4
        clear g4
        go_wp2
        go_ret
        exact ⟨by rw [HB.out]; simp [mayM, whoB, whatB, Hg1.out, Hg2.out, Hg4.out], X.out⟩
      · have Hg4 := Lib.hid g4
        clear g4
        go_wp2_with fail
        refine (win_ext 0 127 (SlI.lit' 2 _ _ 1 #[.int .i64 mb] [mb] (by simp) rfl rfl (by omega) (fun x hx => OKS.out x (by simp at hx ⊢; omega)))).mono ?_
        rintro e w2 ⟨rfl, x2⟩
        replace X := Lib.hid (X.out.tr ((Ext.alloc _ (.cells #[.int .i64 mb] 2)).tr x2))
        replace D := Lib.hid (D.out.ext ((Ext.alloc _ (.cells #[.int .i64 mb] 2)).tr x2))
        replace S := Lib.hid (S.out.ext ((Ext.alloc _ (.cells #[.int .i64 mb] 2)).tr x2))
        clear x2 c0 c1 c2 c3 c4 c5 c6 c7 c8 c9 c10 c11 c12
        have c0 := D.out.c 0 _ rfl
        have c1 := D.out.c 1 _ rfl
        have c2 := D.out.c 2 _ rfl
        have c3 := D.out.c 3 _ rfl
        have c4 := D.out.c 4 _ rfl
        have c5 := D.out.c 5 _ rfl
        have c6 := D.out.c 6 _ rfl
        have c7 := D.out.c 7 _ rfl
        have c8 := D.out.c 8 _ rfl
        have c9 := D.out.c 9 _ rfl
        have c10 := D.out.c 10 _ rfl
        have c11 := D.out.c 11 _ rfl
        have c12 := D.out.c 12 _ rfl
        simp only at c0 c1 c2 c3 c4 c5 c6 c7 c8 c9 c10 c11 c12
        cases g5 : [mb].all (inB 0 127)
        · have Hg5 := Lib.hid g5
          clear g5
          go_wp2
          go_ret
          exact ⟨by rw [HB.out]; simp [mayM, whoB, whatB, Hg1.out, Hg2.out, Hg4.out, Hg5.out], X.out⟩
        · have Hg5 := Lib.hid g5
          clear g5
          go_wp2_with fail
          refine (win_ext 0 60 (SlI.lit' 2 _ _ 2 #[.int .i64 po, .int .i64 cm] [po, cm] (by simp) rfl rfl (by omega) (fun x hx => OKS.out x (by simp at hx ⊢; omega)))).mono ?_
          rintro e w2 ⟨rfl, x2⟩
          replace X := Lib.hid (X.out.tr ((Ext.alloc _ (.cells #[.int .i64 po, .int .i64 cm] 2)).tr x2))
          replace D := Lib.hid (D.out.ext ((Ext.alloc _ (.cells #[.int .i64 po, .int .i64 cm] 2)).tr x2))
          replace S := Lib.hid (S.out.ext ((Ext.alloc _ (.cells #[.int .i64 po, .int .i64 cm] 2)).tr x2))
          clear x2 c0 c1 c2 c3 c4 c5 c6 c7 c8 c9 c10 c11 c12
          have c0 := D.out.c 0 _ rfl
          have c1 := D.out.c 1 _ rfl
          have c2 := D.out.c 2 _ rfl
          have c3 := D.out.c 3 _ rfl
          have c4 := D.out.c 4 _ rfl
          have c5 := D.out.c 5 _ rfl
          have c6 := D.out.c 6 _ rfl
          have c7 := D.out.c 7 _ rfl
          have c8 := D.out.c 8 _ rfl
          have c9 := D.out.c 9 _ rfl
          have c10 := D.out.c 10 _ rfl
          have c11 := D.out.c 11 _ rfl
          have c12 := D.out.c 12 _ rfl
          simp only at c0 c1 c2 c3 c4 c5 c6 c7 c8 c9 c10 c11 c12
          cases g6 : [po, cm].all (inB 0 60)
          · have Hg6 := Lib.hid g6
            clear g6
            go_wp2
            go_ret
            exact ⟨by rw [HB.out]; simp [mayM, whoB, whatB, Hg1.out, Hg2.out, Hg4.out, Hg5.out, Hg6.out], X.out⟩
          · have Hg6 := Lib.hid g6
            clear g6
            go_wp2
            go_ret
            exact ⟨by rw [HB.out]; simp [mayM, whoB, whatB, Hg1.out, Hg2.out, Hg4.out, Hg5.out, Hg6.out], X.out⟩
    · have Hg2 := Lib.hid g2
      clear g2
      cases gn : (fr != to)
      · have gm : (fr == to) = true := by simpa using gn
        go_wp2_with fail
        have Hgn := Lib.hid gn
        have Hgm := Lib.hid gm
        clear gn gm
        refine (win_ext 0 1099511627776 (SlI.lit' 2 _ _ 4 #[.int .i64 vw, .int .i64 ls, .int .i64 nm, .int .i64 ck] [vw, ls, nm, ck] (by simp) rfl rfl (by omega) (fun x hx => OKS.out x (by simp at hx ⊢; omega)))).mono ?_
        rintro e w2 ⟨rfl, x2⟩
        replace X := Lib.hid (X.out.tr ((Ext.alloc _ (.cells #[.int .i64 vw, .int .i64 ls, .int .i64 nm, .int .i64 ck] 2)).tr x2))
        replace D := Lib.hid (D.out.ext ((Ext.alloc _ (.cells #[.int .i64 vw, .int .i64 ls, .int .i64 nm, .int .i64 ck] 2)).tr x2))
        replace S := Lib.hid (S.out.ext ((Ext.alloc _ (.cells #[.int .i64 vw, .int .i64 ls, .int .i64 nm, .int .i64 ck] 2)).tr x2))
        clear x2 c0 c1 c2 c3 c4 c5 c6 c7 c8 c9 c10 c11 c12
        have c0 := D.out.c 0 _ rfl
        have c1 := D.out.c 1 _ rfl
        have c2 := D.out.c 2 _ rfl
        have c3 := D.out.c 3 _ rfl
        have c4 := D.out.c 4 _ rfl
        have c5 := D.out.c 5 _ rfl
        have c6 := D.out.c 6 _ rfl
        have c7 := D.out.c 7 _ rfl
        have c8 := D.out.c 8 _ rfl
        have c9 := D.out.c 9 _ rfl
        have c10 := D.out.c 10 _ rfl
        have c11 := D.out.c 11 _ rfl
        have c12 := D.out.c 12 _ rfl
        simp only at c0 c1 c2 c3 c4 c5 c6 c7 c8 c9 c10 c11 c12
        cases g4 : [vw, ls, nm, ck].all (inB 0 1099511627776)
        · have Hg4 := Lib.hid g4
          clear g4
          go_wp2
          go_ret
          exact ⟨by rw [HB.out]; simp [mayM, whoB, whatB, Hg1.out, Hg2.out, Hgn.out, Hg4.out], X.out⟩
        · have Hg4 := Lib.hid g4
          clear g4
          go_wp2_with fail
          refine (win_ext 0 127 (SlI.lit' 2 _ _ 1 #[.int .i64 mb] [mb] (by simp) rfl rfl (by omega) (fun x hx => OKS.out x (by simp at hx ⊢; omega)))).mono ?_
          rintro e w2 ⟨rfl, x2⟩
          replace X := Lib.hid (X.out.tr ((Ext.alloc _ (.cells #[.int .i64 mb] 2)).tr x2))
          replace D := Lib.hid (D.out.ext ((Ext.alloc _ (.cells #[.int .i64 mb] 2)).tr x2))
          replace S := Lib.hid (S.out.ext ((Ext.alloc _ (.cells #[.int .i64 mb] 2)).tr x2))
          clear x2 c0 c1 c2 c3 c4 c5 c6 c7 c8 c9 c10 c11 c12
          have c0 := D.out.c 0 _ rfl
          have c1 := D.out.c 1 _ rfl
          have c2 := D.out.c 2 _ rfl
          have c3 := D.out.c 3 _ rfl
          have c4 := D.out.c 4 _ rfl
          have c5 := D.out.c 5 _ rfl
          have c6 := D.out.c 6 _ rfl
          have c7 := D.out.c 7 _ rfl
          have c8 := D.out.c 8 _ rfl
          have c9 := D.out.c 9 _ rfl
          have c10 := D.out.c 10 _ rfl
          have c11 := D.out.c 11 _ rfl
          have c12 := D.out.c 12 _ rfl
          simp only at c0 c1 c2 c3 c4 c5 c6 c7 c8 c9 c10 c11 c12
          cases g5 : [mb].all (inB 0 127)
          · have Hg5 := Lib.hid g5
            clear g5
            go_wp2
            go_ret
            exact ⟨by rw [HB.out]; simp [mayM, whoB, whatB, Hg1.out, Hg2.out, Hgn.out, Hg4.out, Hg5.out], X.out⟩
          · have Hg5 := Lib.hid g5
            clear g5
            go_wp2_with fail
            refine (win_ext 0 60 (SlI.lit' 2 _ _ 2 #[.int .i64 po, .int .i64 cm] [po, cm] (by simp) rfl rfl (by omega) (fun x hx => OKS.out x (by simp at hx ⊢; omega)))).mono ?_
            rintro e w2 ⟨rfl, x2⟩
            replace X := Lib.hid (X.out.tr ((Ext.alloc _ (.cells #[.int .i64 po, .int .i64 cm] 2)).tr x2))
            replace D := Lib.hid (D.out.ext ((Ext.alloc _ (.cells #[.int .i64 po, .int .i64 cm] 2)).tr x2))
            replace S := Lib.hid (S.out.ext ((Ext.alloc _ (.cells #[.int .i64 po, .int .i64 cm] 2)).tr x2))
            clear x2 c0 c1 c2 c3 c4 c5 c6 c7 c8 c9 c10 c11 c12
            have c0 := D.out.c 0 _ rfl
            have c1 := D.out.c 1 _ rfl
            have c2 := D.out.c 2 _ rfl
            have c3 := D.out.c 3 _ rfl
            have c4 := D.out.c 4 _ rfl
            have c5 := D.out.c 5 _ rfl
            have c6 := D.out.c 6 _ rfl
            have c7 := D.out.c 7 _ rfl
            have c8 := D.out.c 8 _ rfl
            have c9 := D.out.c 9 _ rfl
            have c10 := D.out.c 10 _ rfl
            have c11 := D.out.c 11 _ rfl
            have c12 := D.out.c 12 _ rfl
            simp only at c0 c1 c2 c3 c4 c5 c6 c7 c8 c9 c10 c11 c12
            cases g6 : [po, cm].all (inB 0 60)
            · have Hg6 := Lib.hid g6
              clear g6
              go_wp2
              go_ret
              exact ⟨by rw [HB.out]; simp [mayM, whoB, whatB, Hg1.out, Hg2.out, Hgn.out, Hg4.out, Hg5.out, Hg6.out], X.out⟩
            · have Hg6 := Lib.hid g6
              clear g6
              go_wp2
              go_ret
              exact ⟨by rw [HB.out]; simp [mayM, whoB, whatB, Hg1.out, Hg2.out, Hgn.out, Hg4.out, Hg5.out, Hg6.out], X.out⟩
      · have gm : (fr == to) = false := by simpa using gn
        go_wp2_with fail
        have Hgn := Lib.hid gn
        have Hgm := Lib.hid gm
        clear gn gm
        refine (win_ext 1 1099511627776 (SlI.lit' 2 _ _ 1 #[.int .i64 bt] [bt] (by simp) rfl rfl (by omega) (fun x hx => OKS.out x (by simp at hx ⊢; omega)))).mono ?_
        rintro e w2 ⟨rfl, x2⟩
        replace X := Lib.hid (X.out.tr ((Ext.alloc _ (.cells #[.int .i64 bt] 2)).tr x2))
        replace D := Lib.hid (D.out.ext ((Ext.alloc _ (.cells #[.int .i64 bt] 2)).tr x2))
        replace S := Lib.hid (S.out.ext ((Ext.alloc _ (.cells #[.int .i64 bt] 2)).tr x2))
        clear x2 c0 c1 c2 c3 c4 c5 c6 c7 c8 c9 c10 c11 c12
        have c0 := D.out.c 0 _ rfl
        have c1 := D.out.c 1 _ rfl
        have c2 := D.out.c 2 _ rfl
        have c3 := D.out.c 3 _ rfl
        have c4 := D.out.c 4 _ rfl
        have c5 := D.out.c 5 _ rfl
        have c6 := D.out.c 6 _ rfl
        have c7 := D.out.c 7 _ rfl
        have c8 := D.out.c 8 _ rfl
        have c9 := D.out.c 9 _ rfl
        have c10 := D.out.c 10 _ rfl
        have c11 := D.out.c 11 _ rfl
        have c12 := D.out.c 12 _ rfl
        simp only at c0 c1 c2 c3 c4 c5 c6 c7 c8 c9 c10 c11 c12
        cases g3 : [bt].all (inB 1 1099511627776)
        · have Hg3 := Lib.hid g3
          clear g3
          go_wp2_with fail
          refine (win_ext 0 1099511627776 (SlI.lit' 2 _ _ 4 #[.int .i64 vw, .int .i64 ls, .int .i64 nm, .int .i64 ck] [vw, ls, nm, ck] (by simp) rfl rfl (by omega) (fun x hx => OKS.out x (by simp at hx ⊢; omega)))).mono ?_
          rintro e w2 ⟨rfl, x2⟩
          replace X := Lib.hid (X.out.tr ((Ext.alloc _ (.cells #[.int .i64 vw, .int .i64 ls, .int .i64 nm, .int .i64 ck] 2)).tr x2))
          replace D := Lib.hid (D.out.ext ((Ext.alloc _ (.cells #[.int .i64 vw, .int .i64 ls, .int .i64 nm, .int .i64 ck] 2)).tr x2))
          replace S := Lib.hid (S.out.ext ((Ext.alloc _ (.cells #[.int .i64 vw, .int .i64 ls, .int .i64 nm, .int .i64 ck] 2)).tr x2))
          clear x2 c0 c1 c2 c3 c4 c5 c6 c7 c8 c9 c10 c11 c12
          have c0 := D.out.c 0 _ rfl
          have c1 := D.out.c 1 _ rfl
          have c2 := D.out.c 2 _ rfl
          have c3 := D.out.c 3 _ rfl
          have c4 := D.out.c 4 _ rfl
          have c5 := D.out.c 5 _ rfl
          have c6 := D.out.c 6 _ rfl
          have c7 := D.out.c 7 _ rfl
          have c8 := D.out.c 8 _ rfl
          have c9 := D.out.c 9 _ rfl
          have c10 := D.out.c 10 _ rfl
          have c11 := D.out.c 11 _ rfl
          have c12 := D.out.c 12 _ rfl
          simp only at c0 c1 c2 c3 c4 c5 c6 c7 c8 c9 c10 c11 c12
          cases g4 : [vw, ls, nm, ck].all (inB 0 1099511627776)
          · have Hg4 := Lib.hid g4
            clear g4
            go_wp2
            go_ret
            exact ⟨by rw [HB.out]; simp [mayM, whoB, whatB, Hg1.out, Hg2.out, Hgn.out, Hg3.out, Hg4.out], X.out⟩
          · have Hg4 := Lib.hid g4
            clear g4
            go_wp2_with fail
            refine (win_ext 0 127 (SlI.lit' 2 _ _ 1 #[.int .i64 mb] [mb] (by simp) rfl rfl (by omega) (fun x hx => OKS.out x (by simp at hx ⊢; omega)))).mono ?_
            rintro e w2 ⟨rfl, x2⟩
            replace X := Lib.hid (X.out.tr ((Ext.alloc _ (.cells #[.int .i64 mb] 2)).tr x2))
            replace D := Lib.hid (D.out.ext ((Ext.alloc _ (.cells #[.int .i64 mb] 2)).tr x2))
            replace S := Lib.hid (S.out.ext ((Ext.alloc _ (.cells #[.int .i64 mb] 2)).tr x2))
            clear x2 c0 c1 c2 c3 c4 c5 c6 c7 c8 c9 c10 c11 c12
            have c0 := D.out.c 0 _ rfl
            have c1 := D.out.c 1 _ rfl
            have c2 := D.out.c 2 _ rfl
            have c3 := D.out.c 3 _ rfl
            have c4 := D.out.c 4 _ rfl
            have c5 := D.out.c 5 _ rfl
            have c6 := D.out.c 6 _ rfl
            have c7 := D.out.c 7 _ rfl
            have c8 := D.out.c 8 _ rfl
            have c9 := D.out.c 9 _ rfl
            have c10 := D.out.c 10 _ rfl
            have c11 := D.out.c 11 _ rfl
            have c12 := D.out.c 12 _ rfl
            simp only at c0 c1 c2 c3 c4 c5 c6 c7 c8 c9 c10 c11 c12
            cases g5 : [mb].all (inB 0 127)
            · have Hg5 := Lib.hid g5
              clear g5
              go_wp2
              go_ret
              exact ⟨by rw [HB.out]; simp [mayM, whoB, whatB, Hg1.out, Hg2.out, Hgn.out, Hg3.out, Hg4.out, Hg5.out], X.out⟩
            · have Hg5 := Lib.hid g5
              clear g5
              go_wp2_with fail
              refine (win_ext 0 60 (SlI.lit' 2 _ _ 2 #[.int .i64 po, .int .i64 cm] [po, cm] (by simp) rfl rfl (by omega) (fun x hx => OKS.out x (by simp at hx ⊢; omega)))).mono ?_
              rintro e w2 ⟨rfl, x2⟩
              replace X := Lib.hid (X.out.tr ((Ext.alloc _ (.cells #[.int .i64 po, .int .i64 cm] 2)).tr x2))
              replace D := Lib.hid (D.out.ext ((Ext.alloc _ (.cells #[.int .i64 po, .int .i64 cm] 2)).tr x2))
              replace S := Lib.hid (S.out.ext ((Ext.alloc _ (.cells #[.int .i64 po, .int .i64 cm] 2)).tr x2))
              clear x2 c0 c1 c2 c3 c4 c5 c6 c7 c8 c9 c10 c11 c12
              have c0 := D.out.c 0 _ rfl
              have c1 := D.out.c 1 _ rfl
              have c2 := D.out.c 2 _ rfl
              have c3 := D.out.c 3 _ rfl
              have c4 := D.out.c 4 _ rfl
              have c5 := D.out.c 5 _ rfl
              have c6 := D.out.c 6 _ rfl
              have c7 := D.out.c 7 _ rfl
              have c8 := D.out.c 8 _ rfl
              have c9 := D.out.c 9 _ rfl
              have c10 := D.out.c 10 _ rfl
              have c11 := D.out.c 11 _ rfl
              have c12 := D.out.c 12 _ rfl
              simp only at c0 c1 c2 c3 c4 c5 c6 c7 c8 c9 c10 c11 c12
              cases g6 : [po, cm].all (inB 0 60)
              · have Hg6 := Lib.hid g6
                clear g6
                go_wp2
                go_ret
                exact ⟨by rw [HB.out]; simp [mayM, whoB, whatB, Hg1.out, Hg2.out, Hgn.out, Hg3.out, Hg4.out, Hg5.out, Hg6.out], X.out⟩
              · have Hg6 := Lib.hid g6
                clear g6
                go_wp2
                go_ret
                exact ⟨by rw [HB.out]; simp [mayM, whoB, whatB, Hg1.out, Hg2.out, Hgn.out, Hg3.out, Hg4.out, Hg5.out, Hg6.out], X.out⟩
        · have Hg3 := Lib.hid g3
          clear g3
          go_wp2_with fail
          refine (win_ext 0 1099511627776 (SlI.lit' 2 _ _ 4 #[.int .i64 vw, .int .i64 ls, .int .i64 nm, .int .i64 ck] [vw, ls, nm, ck] (by simp) rfl rfl (by omega) (fun x hx => OKS.out x (by simp at hx ⊢; omega)))).mono ?_
          rintro e w2 ⟨rfl, x2⟩
          replace X := Lib.hid (X.out.tr ((Ext.alloc _ (.cells #[.int .i64 vw, .int .i64 ls, .int .i64 nm, .int .i64 ck] 2)).tr x2))
          replace D := Lib.hid (D.out.ext ((Ext.alloc _ (.cells #[.int .i64 vw, .int .i64 ls, .int .i64 nm, .int .i64 ck] 2)).tr x2))
          replace S := Lib.hid (S.out.ext ((Ext.alloc _ (.cells #[.int .i64 vw, .int .i64 ls, .int .i64 nm, .int .i64 ck] 2)).tr x2))
          clear x2 c0 c1 c2 c3 c4 c5 c6 c7 c8 c9 c10 c11 c12
          have c0 := D.out.c 0 _ rfl
          have c1 := D.out.c 1 _ rfl
          have c2 := D.out.c 2 _ rfl
          have c3 := D.out.c 3 _ rfl
          have c4 := D.out.c 4 _ rfl
          have c5 := D.out.c 5 _ rfl
          have c6 := D.out.c 6 _ rfl
          have c7 := D.out.c 7 _ rfl
          have c8 := D.out.c 8 _ rfl
          have c9 := D.out.c 9 _ rfl
          have c10 := D.out.c 10 _ rfl
          have c11 := D.out.c 11 _ rfl
          have c12 := D.out.c 12 _ rfl
          simp only at c0 c1 c2 c3 c4 c5 c6 c7 c8 c9 c10 c11 c12
          cases g4 : [vw, ls, nm, ck].all (inB 0 1099511627776)
          · have Hg4 := Lib.hid g4
            clear g4
            go_wp2
            go_ret
            exact ⟨by rw [HB.out]; simp [mayM, whoB, whatB, Hg1.out, Hg2.out, Hgn.out, Hg3.out, Hg4.out], X.out⟩
          · have Hg4 := Lib.hid g4
            clear g4
            go_wp2_with fail
            refine (win_ext 0 127 (SlI.lit' 2 _ _ 1 #[.int .i64 mb] [mb] (by simp) rfl rfl (by omega) (fun x hx => OKS.out x (by simp at hx ⊢; omega)))).mono ?_
            rintro e w2 ⟨rfl, x2⟩
            replace X := Lib.hid (X.out.tr ((Ext.alloc _ (.cells #[.int .i64 mb] 2)).tr x2))
            replace D := Lib.hid (D.out.ext ((Ext.alloc _ (.cells #[.int .i64 mb] 2)).tr x2))
            replace S := Lib.hid (S.out.ext ((Ext.alloc _ (.cells #[.int .i64 mb] 2)).tr x2))
            clear x2 c0 c1 c2 c3 c4 c5 c6 c7 c8 c9 c10 c11 c12
            have c0 := D.out.c 0 _ rfl
            have c1 := D.out.c 1 _ rfl
            have c2 := D.out.c 2 _ rfl
            have c3 := D.out.c 3 _ rfl
            have c4 := D.out.c 4 _ rfl
            have c5 := D.out.c 5 _ rfl
            have c6 := D.out.c 6 _ rfl
            have c7 := D.out.c 7 _ rfl
            have c8 := D.out.c 8 _ rfl
            have c9 := D.out.c 9 _ rfl
            have c10 := D.out.c 10 _ rfl
            have c11 := D.out.c 11 _ rfl
            have c12 := D.out.c 12 _ rfl
            simp only at c0 c1 c2 c3 c4 c5 c6 c7 c8 c9 c10 c11 c12
            cases g5 : [mb].all (inB 0 127)
            · have Hg5 := Lib.hid g5
              clear g5
              go_wp2
              go_ret
              exact ⟨by rw [HB.out]; simp [mayM, whoB, whatB, Hg1.out, Hg2.out, Hgn.out, Hg3.out, Hg4.out, Hg5.out], X.out⟩
            · have Hg5 := Lib.hid g5
              clear g5
              go_wp2_with fail
              refine (win_ext 0 60 (SlI.lit' 2 _ _ 2 #[.int .i64 po, .int .i64 cm] [po, cm] (by simp) rfl rfl (by omega) (fun x hx => OKS.out x (by simp at hx ⊢; omega)))).mono ?_
              rintro e w2 ⟨rfl, x2⟩
              replace X := Lib.hid (X.out.tr ((Ext.alloc _ (.cells #[.int .i64 po, .int .i64 cm] 2)).tr x2))
              replace D := Lib.hid (D.out.ext ((Ext.alloc _ (.cells #[.int .i64 po, .int .i64 cm] 2)).tr x2))
              replace S := Lib.hid (S.out.ext ((Ext.alloc _ (.cells #[.int .i64 po, .int .i64 cm] 2)).tr x2))
              clear x2 c0 c1 c2 c3 c4 c5 c6 c7 c8 c9 c10 c11 c12
              have c0 := D.out.c 0 _ rfl
              have c1 := D.out.c 1 _ rfl
              have c2 := D.out.c 2 _ rfl
              have c3 := D.out.c 3 _ rfl
              have c4 := D.out.c 4 _ rfl
              have c5 := D.out.c 5 _ rfl
              have c6 := D.out.c 6 _ rfl
              have c7 := D.out.c 7 _ rfl
              have c8 := D.out.c 8 _ rfl
              have c9 := D.out.c 9 _ rfl
              have c10 := D.out.c 10 _ rfl
              have c11 := D.out.c 11 _ rfl
              have c12 := D.out.c 12 _ rfl
              simp only at c0 c1 c2 c3 c4 c5 c6 c7 c8 c9 c10 c11 c12
              cases g6 : [po, cm].all (inB 0 60)
              · have Hg6 := Lib.hid g6
                clear g6
                go_wp2
                go_ret
                exact ⟨by rw [HB.out]; simp [mayM, whoB, whatB, Hg1.out, Hg2.out, Hgn.out, Hg3.out, Hg4.out, Hg5.out, Hg6.out], X.out⟩
              · have Hg6 := Lib.hid g6
                clear g6
                by_cases hlen : n ≤ 60
                · go_wp2_with fail
                  refine (contains_any S.out HL.out).mono ?_
                  rintro e w3 ⟨rfl, x3⟩
                  replace X := Lib.hid (X.out.tr x3)
                  clear x3
                  go_wp2
                  go_ret
                  exact ⟨by rw [HB.out]; simp [mayM, whoB, whatB, Hg1.out, Hg2.out, Hgn.out, Hg3.out, Hg4.out, Hg5.out, Hg6.out, N.out, hlen], X.out⟩
                · have hlf : decide ((n : Int) ≤ 60) = false := decide_eq_false (by omega)
                  go_wp2
                  go_ret
                  exact ⟨by rw [HB.out]; simp [mayM, whoB, whatB, Hg1.out, Hg2.out, Hgn.out, Hg3.out, Hg4.out, Hg5.out, Hg6.out, N.out]; omega, X.out⟩
end Go.Proofs.Ytgplmbchlahbkaa
