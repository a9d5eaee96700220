/-
  Contracts of the reference's EqAll and of the statements' Cut, Entries, tells. Conditions stand at each.
-/
import Derived.Test.YtgplmbchlahbkaaEntry7
namespace Go.Proofs.Ytgplmbchlahbkaa
open Go Go.Sort Go.RowKit
set_option linter.unusedVariables false

theorem eqB_iff (a b : EnD) : eqB a b = true ↔ a = b := by
  obtain ⟨a1, a2, a3, a4, a5, a6, a7⟩ := a
  obtain ⟨b1, b2, b3, b4, b5, b6, b7⟩ := b
  simp [eqB, sameB, and_assoc]
theorem eqB_self (a : EnD) : eqB a a = true := (eqB_iff a a).2 rfl
theorem eqB_ne {a b : EnD} (h : eqB a b = false) : a ≠ b := fun e => by rw [e, eqB_self] at h; cases h
def eqL : List EnD → List EnD → Bool
  | [], [] => true
  | a :: l, b :: m => eqB a b && eqL l m
  | _, _ => false
theorem eqL_iff : ∀ (l m : List EnD), eqL l m = true ↔ l = m
  | [], [] => by simp [eqL]
  | a :: l, b :: m => by simp [eqL, eqB_iff, eqL_iff l m]
  | [], b :: m => by simp [eqL]
  | a :: l, [] => by simp [eqL]
theorem eqL_no {l m : List EnD} (h : l ≠ m) : eqL l m = false := by
  cases hh : eqL l m
  · rfl
  · exact absurd ((eqL_iff l m).1 hh) h

theorem decF_len {b : List UInt8} : ∀ (f i : Nat) (L M : List EnD), decF b f i L = some M → 6 * L.length ≤ i → i ≤ b.length → 6 * M.length ≤ b.length
  | 0, i, L, M, h, _, _ => by simp [decF] at h
  | f + 1, i, L, M, h, hl, hi => by
    rw [decF] at h
    split at h
    · cases ho : oneL (b.drop i) with
      | none => rw [ho] at h; cases h
      | some q =>
        obtain ⟨e, k⟩ := q
        rw [ho] at h
        obtain ⟨-, h6, hk⟩ := oneL_in ho
        rw [List.length_drop] at hk
        exact decF_len f (i + k) (L ++ [e]) M h (by simp; omega) (by omega)
    · cases h
      omega
theorem decL_len {b : List UInt8} {L : List EnD} (h : decL b = some L) : 6 * L.length ≤ b.length := by
  unfold decL at h
  split at h
  · cases h
  · rename_i M hM
    split at h
    · cases h
      exact decF_len _ _ _ _ hM (by simp) (by omega)
    · cases h

set_option maxRecDepth 8000 in
set_option maxHeartbeats 4000000 in
theorem eqall_any {w : World} {p q : Option Addr} {n m cap c2 : Nat} {L M : List EnD} (h : SlS 7 w p n cap (L.map enL)) (h2 : SlS 7 w q m c2 (M.map enL)) :
    Calls Try.prog 49 #[.slice p n cap, .slice q m c2] w fun e w' => e = .returned (.bool (eqL L M)) ∧ Ext w w' := by
  have hn : n ≤ 9223372036854775807 := Nat.le_trans h.le h.max
  have N := Lib.hid (en_len h)
  have N2 := Lib.hid (en_len h2)
  have S := Lib.hid h
  have S2 := Lib.hid h2
  clear h h2
  obtain ⟨B, hB⟩ : ∃ B, B = eqL L M := ⟨_, rfl⟩
  rw [← hB]
  have HB := Lib.hid hB
  clear hB
  by_cases hnm : n = m
  · subst hnm
    go_enter Try.func49, Try.ntmps49
    go_wp2
    go_loopw [5] (fun i wr => ∃ k : Nat, k ≤ n ∧ i = .int .i64 (k : Int) ∧ L.take k = M.take k ∧ Ext w wr) (fun i _ => n - (intOf i).toNat)
    case atStart => exact ⟨0, by omega, rfl, rfl, Ext.rfl' _⟩
    case round =>
      obtain ⟨k, hk, rfl, ht, x1⟩ := hrel
      have T := Lib.hid ht
      have X := Lib.hid x1
      clear ht x1
      by_cases hlt : k < n
      · obtain ⟨b, o, e, hp, hx, c0, c1, c2, c3, c4, c5, c6⟩ := en_at (S.out.ext (X.out.tr (Ext.drew wr))) k hlt
        obtain ⟨b', o', e', hp', hx', d0, d1, d2, d3, d4, d5, d6⟩ := en_at (S2.out.ext (X.out.tr (Ext.drew wr))) k hlt
        have HX := Lib.hid hx
        have HX' := Lib.hid hx'
        clear hx hx'
        subst hp hp'
        obtain ⟨f1, f2, f3, f4, f5, f6, dat⟩ := e
        obtain ⟨g1, g2, g3, g4, g5, g6, gat⟩ := e'
        simp only at c0 c1 c2 c3 c4 c5 c6 d0 d1 d2 d3 d4 d5 d6
        have EQ := Lib.hid (fun w => eq_ref (a := ⟨f1, f2, f3, f4, f5, f6, dat⟩) (b := ⟨g1, g2, g3, g4, g5, g6, gat⟩) (w := w))
        have r0 := fun d os => Ext.cell (Ext.reg wr.drew d os) c0
        have r1 := fun d os => Ext.cell (Ext.reg wr.drew d os) c1
        have r2 := fun d os => Ext.cell (Ext.reg wr.drew d os) c2
        have r3 := fun d os => Ext.cell (Ext.reg wr.drew d os) c3
        have r4 := fun d os => Ext.cell (Ext.reg wr.drew d os) c4
        have r5 := fun d os => Ext.cell (Ext.reg wr.drew d os) c5
        have r6 := fun d os => Ext.cell (Ext.reg wr.drew d os) c6
        have s0 := fun d os => Ext.cell (Ext.reg wr.drew d os) d0
        have s1 := fun d os => Ext.cell (Ext.reg wr.drew d os) d1
        have s2 := fun d os => Ext.cell (Ext.reg wr.drew d os) d2
        have s3 := fun d os => Ext.cell (Ext.reg wr.drew d os) d3
        have s4 := fun d os => Ext.cell (Ext.reg wr.drew d os) d4
        have s5 := fun d os => Ext.cell (Ext.reg wr.drew d os) d5
        have s6 := fun d os => Ext.cell (Ext.reg wr.drew d os) d6
        clear c0 c1 c2 c3 c4 c5 c6 d0 d1 d2 d3 d4 d5 d6
        cases he : eqB ⟨f1, f2, f3, f4, f5, f6, dat⟩ ⟨g1, g2, g3, g4, g5, g6, gat⟩
        · have hBf : B = false := by
            rw [HB.out]
            refine eqL_no fun hh => ?_
            have h1 := HX.out
            rw [hh, HX'.out] at h1
            injection h1 with h1
            exact eqB_ne he h1.symm
          subst hBf
          rw [he] at EQ
          clear he
          go_wp2_with fail
          refine rw_start [0, 1, 2, 3, 4, 5, 6, 7, 8, 9] (by kernel_rfl) (by kernel_rfl) (fun _ _ d _ _ h => by cases d <;> exact h) ?_
          repeat (first | (refine rw_quiet rfl (by rfl) (by rfl) (fun K hK => ?_); go_big_quiet_op; refine hK _ ?_; clear hK K) | (refine rw_skip rfl (by rfl) (fun K hK => ?_); go_big_quiet_op; refine hK _ ?_; clear hK K))
          refine rw_call rfl (by rfl) (by rfl) (fun K hK => ?_)
          go_simp
          refine (EQ.out _).mono ?_
          rintro e w4 ⟨rfl, x4⟩
          refine hK _ _ x4 ?_
          clear hK K r0 r1 r2 r3 r4 r5 r6 s0 s1 s2 s3 s4 s5 s6
          have X4 := Lib.hid (X.out.tr ((Ext.drew wr).tr x4))
          clear x4
          repeat (first | (refine rw_quiet rfl (by rfl) (by rfl) (fun K hK => ?_); go_big_quiet_op; refine hK _ ?_; clear hK K) | (refine rw_skip rfl (by rfl) (fun K hK => ?_); go_big_quiet_op; refine hK _ ?_; clear hK K))
          refine rw_nil ?_
          go_wp2
          go_ret
          exact ⟨rfl, X4.out⟩
        · have T2 : Hid (L.take (k + 1) = M.take (k + 1)) := Lib.hid (by
            rw [List.take_add_one, List.take_add_one, HX.out, HX'.out, T.out, (eqB_iff _ _).1 he])
          rw [he] at EQ
          clear he
          go_wp2_with fail
          refine rw_start [0, 1, 2, 3, 4, 5, 6, 7, 8, 9] (by kernel_rfl) (by kernel_rfl) (fun _ _ d _ _ h => by cases d <;> exact h) ?_
          repeat (first | (refine rw_quiet rfl (by rfl) (by rfl) (fun K hK => ?_); go_big_quiet_op; refine hK _ ?_; clear hK K) | (refine rw_skip rfl (by rfl) (fun K hK => ?_); go_big_quiet_op; refine hK _ ?_; clear hK K))
          refine rw_call rfl (by rfl) (by rfl) (fun K hK => ?_)
          go_simp
          refine (EQ.out _).mono ?_
          rintro e w4 ⟨rfl, x4⟩
          refine hK _ _ x4 ?_
          clear hK K r0 r1 r2 r3 r4 r5 r6 s0 s1 s2 s3 s4 s5 s6
          have X4 := Lib.hid (X.out.tr ((Ext.drew wr).tr x4))
          clear x4
          repeat (first | (refine rw_quiet rfl (by rfl) (by rfl) (fun K hK => ?_); go_big_quiet_op; refine hK _ ?_; clear hK K) | (refine rw_skip rfl (by rfl) (fun K hK => ?_); go_big_quiet_op; refine hK _ ?_; clear hK K))
          refine rw_nil ?_
          go_wp2
          go_roundw
          case rel => exact ⟨k + 1, by omega, by go_num, T2.out, X4.out⟩
          case measure => simp [intOf]; omega
      · have hBt : B = true := by
          rw [HB.out]
          refine (eqL_iff L M).2 ?_
          have h1 := T.out
          rwa [List.take_of_length_le (by rw [N.out]; omega), List.take_of_length_le (by rw [N2.out]; omega)] at h1
        subst hBt
        go_wp2
        go_ret
        exact ⟨rfl, X.out⟩
  · have hBf : B = false := by
      rw [HB.out]
      refine eqL_no fun hh => hnm ?_
      rw [← N.out, hh, N2.out]
    subst hBf
    have h1 : ((n : Int) != (m : Int)) = true := bne_iff_ne.2 (by omega)
    have h2 : ((n : Int) == (m : Int)) = false := beq_eq_false_iff_ne.2 (by omega)
    clear hnm
    go_enter Try.func49, Try.ntmps49
    go_wp2
    go_ret
    exact ⟨rfl, Ext.rfl' _⟩

set_option maxRecDepth 8000 in
set_option maxHeartbeats 4000000 in
/-- The statements' Cut. -/
theorem ecut_any {w : World} {e : EnD} (he : EnOk e) : Calls Try.prog 57 #[enV e] w fun x w' => ∃ t : ByteArray, t.size ≤ 20 ∧ x = .returned (enV { e with da := t }) ∧ Ext w w' := by
  obtain ⟨f1, f2, f3, f4, f5, f6, dat⟩ := e
  obtain ⟨-, -, -, -, -, -, h7⟩ := he
  simp only at h7 ⊢
  have T0 := Lib.hid ((EnOwn.new w ⟨f1, f2, f3, f4, f5, f6, dat⟩ 54 _ rfl).ext (Ext.alloc _ (.cells (enA zeroE) 54)))
  have U0 := Lib.hid (EnOwn.new (w.alloc (.cells (enA ⟨f1, f2, f3, f4, f5, f6, dat⟩) 54)) zeroE 54 (w.heap.size + 1) (by simp))
  have X0 := Lib.hid ((Ext.alloc w (.cells (enA ⟨f1, f2, f3, f4, f5, f6, dat⟩) 54)).tr (Ext.alloc _ (.cells (enA zeroE) 54)))
  have ct := cut_any (s := dat) 20 (by omega) h7 (w := (w.alloc (.cells (enA ⟨f1, f2, f3, f4, f5, f6, dat⟩) 54)).alloc (.cells (enA zeroE) 54))
  have CT := Lib.hid ct
  clear ct
  go_enter Try.func57, Try.ntmps57
  go_wp2_with fail
  refine CT.out.mono ?_
  rintro x w2 ⟨t, ht, rfl, rfl⟩
  go_wp2
  exact bodyPost_ret (v := enV ⟨f1, f2, f3, f4, f5, f6, t⟩) (by simp [results, Try.results57, go_sem]) rfl ⟨t, ht, rfl, (Ext.alloc w _).tr (Ext.alloc _ _)⟩

set_option maxRecDepth 8000 in
set_option maxHeartbeats 4000000 in
/-- The statements' Entries: so many, cut. -/
theorem lentries_any {w : World} {p : Option Addr} {n cap : Nat} {L : List EnD} (z : Nat) (hz : z ≤ 100) (h : SlS 7 w p n cap (L.map enL)) (hL : ∀ e ∈ L, EnOk e) :
    Calls Try.prog 33 #[.slice p n cap, .int .i64 (z : Int)] w fun x w' => ∃ (M : List EnD) (p' : Option Addr) (cap' : Nat), x = .returned (.slice p' M.length cap') ∧ M.length ≤ z ∧ OwS 54 7 w' w.heap.size p' M.length cap' (M.map enL) ∧ (∀ e ∈ M, EnOk e ∧ e.da.size ≤ 20) ∧ Ext w w' := by
  obtain ⟨i0, hi0, hz0, hz1, hz2⟩ := info_parts infoE
  have hn : n ≤ 9223372036854775807 := Nat.le_trans h.le h.max
  have N := Lib.hid (en_len h)
  have S := Lib.hid h
  have HL := Lib.hid hL
  clear h hL
  go_enter Try.func33, Try.ntmps33
  go_wp2
  go_loopw [5, 6] (fun v i wr => ∃ (M : List EnD) (p' : Option Addr) (cap' : Nat), M.length ≤ n ∧ M.length ≤ z ∧ i = .int .i64 (M.length : Int) ∧ v = .slice p' M.length cap' ∧ OwS 54 7 wr w.heap.size p' M.length cap' (M.map enL) ∧ (∀ e ∈ M, EnOk e ∧ e.da.size ≤ 20) ∧ Ext w wr) (fun _ i _ => n - (intOf i).toNat)
  case atStart => exact ⟨[], none, 0, by simp, by simp, rfl, rfl, OwS.nil _ _ _ _, (fun e he => by cases he), Ext.rfl' _⟩
  case round =>
    obtain ⟨M, p', cap', hk, hkz, rfl, rfl, ho, hok, x1⟩ := hrel
    obtain ⟨wo, rfl⟩ : ∃ wo : World, wo = wr := ⟨_, rfl⟩
    obtain ⟨k, hkk⟩ : ∃ k, k = M.length := ⟨_, rfl⟩
    rw [← hkk] at hk hkz ho ⊢
    have O := Lib.hid ho
    have OK := Lib.hid hok
    have X := Lib.hid x1
    have KK := Lib.hid hkk
    clear ho hok x1 hkk
    have hcase : (k < n ∧ (k : Int) < (z : Int)) ∨ (k < n ∧ ¬ (k : Int) < (z : Int)) ∨ ¬ k < n := by omega
    rcases hcase with ⟨hlt, hlz⟩ | hout
    · obtain ⟨b, o, e, hp, hx, c0, c1, c2, c3, c4, c5, c6⟩ := en_at (S.out.ext X.out) k hlt
      have EK := Lib.hid (HL.out e (List.mem_of_getElem? hx))
      clear hx
      subst hp
      obtain ⟨f1, f2, f3, f4, f5, f6, dat⟩ := e
      simp only at c0 c1 c2 c3 c4 c5 c6
      go_wp2_with fail
      refine (ecut_any EK.out).mono ?_
      rintro x w2 ⟨t, ht, rfl, x2⟩
      have X2 := Lib.hid x2
      clear x2
      have SR : Hid (SlS 7 (w2.alloc (.cells (enA ⟨f1, f2, f3, f4, f5, f6, t⟩) 54)) (some ⟨w2.heap.size, 0, none⟩) 1 1 (([⟨f1, f2, f3, f4, f5, f6, t⟩] : List EnD).map enL)) := Lib.hid (SlS.lit w2 1 (enA ⟨f1, f2, f3, f4, f5, f6, t⟩) (0, 0) (([⟨f1, f2, f3, f4, f5, f6, t⟩] : List EnD).map enL) rfl wid7 rfl (by omega))
      have A2 := Lib.hid (Ext.alloc w2 (.cells (enA ⟨f1, f2, f3, f4, f5, f6, t⟩) 54))
      have E2 : Hid (EnOk ⟨f1, f2, f3, f4, f5, f6, t⟩ ∧ t.size ≤ 20) := Lib.hid ⟨⟨EK.out.1, EK.out.2.1, EK.out.2.2.1, EK.out.2.2.2.1, EK.out.2.2.2.2.1, EK.out.2.2.2.2.2.1, by simp only; omega⟩, ht⟩
      go_wp2_with (at_builtin; refine wpList_appS rfl _ _ 29 rfl w.heap.size Try.underlying29 i0 _ 64 hi0 hz0 hz1 hz2 rfl (by decide) p' k cap' _ rfl (O.out.ext (X2.out.tr A2.out)) (some ⟨w2.heap.size, 0, none⟩) 1 1 _ rfl SR.out one7 (by omega) (by omega) (by have := X.out.size; have := X2.out.size; simp; omega) ?_)
      intro p3 c3 w3 o3 g3
      have O3 := Lib.hid o3
      have X3 := Lib.hid (Ext.ownS (X.out.tr (X2.out.tr A2.out)) (O.out.ext (X2.out.tr A2.out)) g3 rfl)
      clear o3 g3
      go_wp2
      go_roundw
      case rel =>
        have hl : (M ++ [(⟨f1, f2, f3, f4, f5, f6, t⟩ : EnD)]).length = k + 1 := by rw [List.length_append, ← KK.out]; rfl
        exact ⟨M ++ [⟨f1, f2, f3, f4, f5, f6, t⟩], p3, c3, by omega, by omega, by rw [hl]; go_num, by rw [hl], by rw [hl, List.map_append]; simpa using O3.out, (fun y hy => by
          rcases List.mem_append.1 hy with hy | hy
          · exact OK.out y hy
          · simp at hy; subst hy; exact E2.out), X3.out⟩
      case measure => simp [intOf]; omega
    · rcases hout with ⟨hlt, hlz⟩ | hlt
      all_goals
        go_wp2
        go_ret
        rw [KK.out] at O
        exact ⟨M, p', cap', by rw [KK.out]; rfl, by rw [← KK.out]; exact hkz, O.out, OK.out, X.out⟩

end Go.Proofs.Ytgplmbchlahbkaa
