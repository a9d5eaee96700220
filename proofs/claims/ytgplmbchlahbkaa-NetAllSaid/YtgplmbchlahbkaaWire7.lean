/-
  Contracts of slices.EqualFunc with entry.Eq, and of wire.Eq: at any messages. Conditions stand at each.
-/
import Derived.Test.YtgplmbchlahbkaaWire3
import Derived.Deep.DeepCutAuto
import Derived.ChangeKeysEq
namespace Go.Proofs.Ytgplmbchlahbkaa
open Go Go.Sort Go.RowKit
set_option linter.unusedVariables false

set_option maxRecDepth 8000 in
set_option maxHeartbeats 8000000 in
theorem equalf_any {w : World} {p q : Option Addr} {n m cap c2 : Nat} {L M : List EnD} (h : SlS 7 w p n cap (L.map enL)) (h2 : SlS 7 w q m c2 (M.map enL)) :
    Calls Try.prog 47 #[.slice p n cap, .slice q m c2, .func (.func 48) #[] #[]] w fun e w' => e = .returned (.bool (eqL L M)) ∧ Ext w w' := by
  have hn : n ≤ 9223372036854775807 := Nat.le_trans h.le h.max
  have N := Lib.hid (en_len h)
  have N2 := Lib.hid (en_len h2)
  have S := Lib.hid h
  have S2 := Lib.hid h2
  clear h h2
  obtain ⟨B, hB⟩ : ∃ B, B = eqL L M := ⟨_, rfl⟩
  rw [← hB]
  have HB := Lib.hid hB
  clear hB
  by_cases hnm : n = m
  · subst hnm
    go_enter Try.func47, Try.ntmps47
    go_wp2
    go_loopw [17] (fun i wr => ∃ k : Nat, k ≤ n ∧ i = .int .i64 (k : Int) ∧ L.take k = M.take k ∧ Ext w wr) (fun i _ => n - (intOf i).toNat)
    case atStart => exact ⟨0, by omega, rfl, rfl, Ext.rfl' _⟩
    case round =>
      obtain ⟨k, hk, rfl, ht, x1⟩ := hrel
      have T := Lib.hid ht
      have X := Lib.hid x1
      clear ht x1
      by_cases hlt : k < n
      · obtain ⟨b, o, e, hp, hx, c0, c1, c2, c3, c4, c5, c6⟩ := en_at (S.out.ext X.out) k hlt
        have HX := Lib.hid hx
        clear hx
        subst hp
        obtain ⟨f1, f2, f3, f4, f5, f6, dat⟩ := e
        simp only at c0 c1 c2 c3 c4 c5 c6
        obtain ⟨b', o', e', hp', hx', d0, d1, d2, d3, d4, d5, d6⟩ := en_at (S2.out.ext (X.out.tr (Ext.alloc wr (.cells (enA ⟨f1, f2, f3, f4, f5, f6, dat⟩) 54)))) k hlt
        have HX' := Lib.hid hx'
        clear hx'
        subst hp'
        obtain ⟨g1, g2, g3, g4, g5, g6, gat⟩ := e'
        simp only at d0 d1 d2 d3 d4 d5 d6
        have EQ := Lib.hid (fun w => eq_any (a := ⟨f1, f2, f3, f4, f5, f6, dat⟩) (b := ⟨g1, g2, g3, g4, g5, g6, gat⟩) (w := w))
        replace X := Lib.hid ((X.out.tr (Ext.alloc wr (.cells (enA ⟨f1, f2, f3, f4, f5, f6, dat⟩) 54))).tr (Ext.alloc (wr.alloc (.cells (enA ⟨f1, f2, f3, f4, f5, f6, dat⟩) 54)) (.cells (enA ⟨g1, g2, g3, g4, g5, g6, gat⟩) 54)))
        cases he : eqB ⟨f1, f2, f3, f4, f5, f6, dat⟩ ⟨g1, g2, g3, g4, g5, g6, gat⟩
        · have hBf : B = false := by
            rw [HB.out]
            refine eqL_no fun hh => ?_
            have h1 := HX.out
            rw [hh, HX'.out] at h1
            injection h1 with h1
            exact eqB_ne he h1.symm
          subst hBf
          rw [he] at EQ
          clear he
          go_wp2_with fail
          refine (EQ.out _).mono ?_
          rintro e w4 ⟨rfl, x4⟩
          have X4 := Lib.hid (X.out.tr x4)
          clear x4
          go_wp2
          go_ret
          exact ⟨rfl, X4.out⟩
        · have T2 : Hid (L.take (k + 1) = M.take (k + 1)) := Lib.hid (by
            rw [List.take_add_one, List.take_add_one, HX.out, HX'.out, T.out, (eqB_iff _ _).1 he])
          rw [he] at EQ
          clear he
          go_wp2_with fail
          refine (EQ.out _).mono ?_
          rintro e w4 ⟨rfl, x4⟩
          have X4 := Lib.hid (X.out.tr x4)
          clear x4
          go_wp2
          go_roundw
          case rel => exact ⟨k + 1, by omega, by go_num, T2.out, X4.out⟩
          case measure => simp [intOf]; omega
      · have hBt : B = true := by
          rw [HB.out]
          refine (eqL_iff L M).2 ?_
          have h1 := T.out
          rwa [List.take_of_length_le (by rw [N.out]; omega), List.take_of_length_le (by rw [N2.out]; omega)] at h1
        subst hBt
        go_wp2
        go_ret
        exact ⟨rfl, X.out⟩
  · have hBf : B = false := by
      rw [HB.out]
      refine eqL_no fun hh => hnm ?_
      rw [← N.out, hh, N2.out]
    subst hBf
    have h1 : ((n : Int) != (m : Int)) = true := bne_iff_ne.2 (by omega)
    have h2 : ((n : Int) == (m : Int)) = false := beq_eq_false_iff_ne.2 (by omega)
    clear hnm
    go_enter Try.func47, Try.ntmps47
    go_wp2
    go_ret
    exact ⟨rfl, Ext.rfl' _⟩

theorem eqItems_ints (zs ys : List Int) (d : Nat) (w : World) : ∀ (is : List Nat), (∀ i ∈ is, i < zs.length ∧ i < ys.length) → (Op.eqItems (d + 1) 2 1 (zs.map (Value.int .i64)).toArray (ys.map (Value.int .i64)).toArray is).run Try.prog w = .ok (is.all fun i => zs[i]? == ys[i]?) w
  | [], _ => by simp [Op.eqItems]
  | i :: is, h => by
    obtain ⟨h1, h2⟩ := h i (by simp)
    have p1 := run_part_plain (P := Try.prog) w (e := 2) (by kernel_rfl) (xs := (zs.map (Value.int .i64)).toArray) (off := i * 1) (v := .int .i64 zs[i]) (by simp)
    have p2 := run_part_plain (P := Try.prog) w (e := 2) (by kernel_rfl) (xs := (ys.map (Value.int .i64)).toArray) (off := i * 1) (v := .int .i64 ys[i]) (by simp)
    have p3 := run_equalIn_int (P := Try.prog) w d 2 .i64 .i64 zs[i] ys[i] Try.underlying2
    have ih := eqItems_ints zs ys d w is (fun j hj => h j (by simp [hj]))
    simp only [Op.eqItems, Sem.run_bind, p1, p2, p3, Result.andThen_ok, List.all_cons]
    rw [List.getElem?_eq_getElem h1, List.getElem?_eq_getElem h2]
    cases hq : (zs[i] == ys[i])
    · have : zs[i] ≠ ys[i] := beq_eq_false_iff_ne.1 hq
      simp [this]
    · have : zs[i] = ys[i] := eq_of_beq hq
      simp [this, ih]
set_option maxRecDepth 8000 in
theorem arr_eq (a b : MsD) (n k : Nat) (w : World) : (Op.equalIn 10000 73 (.agg (numA a n)) (.agg (numA b k))).run Try.prog w = .ok (decide (numsM a n = numsM b k)) w := by
  obtain ⟨i0, hi⟩ := Option.isSome_iff_exists.1 (show (Try.prog.info? 2).isSome = true by kernel_rfl)
  rw [run_equalIn_array w 9999 _ _ Try.underlying73 hi, show Try.prog.cellsOf 2 = 1 by kernel_rfl]
  rw [show numA a n = ((numsM a n).map (Value.int .i64)).toArray from rfl, show numA b k = ((numsM b k).map (Value.int .i64)).toArray from rfl]
  rw [eqItems_ints _ _ 9998 w _ (fun i hi => by have := List.mem_range.1 hi; simp [numsM]; omega)]
  congr 1
  rw [Bool.eq_iff_iff, List.all_eq_true, decide_eq_true_iff]
  constructor
  · intro h
    apply List.ext_getElem?
    intro i
    by_cases hi : i < 13
    · exact eq_of_beq (h i (List.mem_range.2 hi))
    · rw [List.getElem?_eq_none (by simp [numsM]; omega), List.getElem?_eq_none (by simp [numsM]; omega)]
  · intro h i _
    rw [h]
    exact beq_self_eq_true _
set_option maxRecDepth 8000 in
set_option maxHeartbeats 8000000 in
/-- wire.Eq -/
theorem weq_any {w : World} {a b : MsD} {p q : Option Addr} {n cap k cq : Nat} {L M : List EnD} (h : SlS 7 w p n cap (L.map enL)) (h2 : SlS 7 w q k cq (M.map enL)) :
    Calls Try.prog 27 #[msV a p n cap, msV b q k cq] w fun e w' => e = .returned (.bool (eqM a L b M)) ∧ Ext w w' := by
  have N := Lib.hid (en_len h)
  have N2 := Lib.hid (en_len h2)
  have X := Lib.hid ((Ext.alloc w (.cells (msA a p n cap) 31)).tr (Ext.alloc (w.alloc (.cells (msA a p n cap) 31)) (.cells (msA b q k cq) 31)))
  have D := Lib.hid ((BoxV.new w w.heap.size (msA a p n cap) (msL a p n cap) 31 _ rfl (Nat.le_refl _) rfl).ext (Ext.alloc (w.alloc (.cells (msA a p n cap) 31)) (.cells (msA b q k cq) 31)))
  have E := Lib.hid (BoxV.new (w.alloc (.cells (msA a p n cap) 31)) w.heap.size (msA b q k cq) (msL b q k cq) 31 (w.heap.size + 1) (by simp) (by omega) rfl)
  have S := Lib.hid (h.ext X.out)
  have S2 := Lib.hid (h2.ext X.out)
  obtain ⟨B, hB⟩ : ∃ B, B = eqM a L b M := ⟨_, rfl⟩
  rw [← hB]
  have HB := Lib.hid hB
  clear h h2 hB
  obtain ⟨w0, hw0⟩ : ∃ w0, w0 = (w.alloc (.cells (msA a p n cap) 31)).alloc (.cells (msA b q k cq) 31) := ⟨_, rfl⟩
  rw [← hw0] at D E S S2 X
  go_enter Try.func27, Try.ntmps27
  go_upto_region 1 with fail
  rw [← hw0]
  clear hw0
  have D1 := Lib.hid (D.out.ext (Ext.drew w0))
  have E1 := Lib.hid (E.out.ext (Ext.drew w0))
  have r0 := fun d os => Ext.cell (Ext.reg w0.drew d os) (D1.out.c 0 _ rfl)
  have r1 := fun d os => Ext.cell (Ext.reg w0.drew d os) (D1.out.c 1 _ rfl)
  have r2 := fun d os => Ext.cell (Ext.reg w0.drew d os) (D1.out.c 2 _ rfl)
  have r3 := fun d os => Ext.cell (Ext.reg w0.drew d os) (D1.out.c 3 _ rfl)
  have r4 := fun d os => Ext.cell (Ext.reg w0.drew d os) (D1.out.c 4 _ rfl)
  have r5 := fun d os => Ext.cell (Ext.reg w0.drew d os) (D1.out.c 5 _ rfl)
  have r6 := fun d os => Ext.cell (Ext.reg w0.drew d os) (D1.out.c 6 _ rfl)
  have r7 := fun d os => Ext.cell (Ext.reg w0.drew d os) (D1.out.c 7 _ rfl)
  have r8 := fun d os => Ext.cell (Ext.reg w0.drew d os) (D1.out.c 8 _ rfl)
  have r9 := fun d os => Ext.cell (Ext.reg w0.drew d os) (D1.out.c 9 _ rfl)
  have r10 := fun d os => Ext.cell (Ext.reg w0.drew d os) (D1.out.c 10 _ rfl)
  have r11 := fun d os => Ext.cell (Ext.reg w0.drew d os) (D1.out.c 11 _ rfl)
  have r12 := fun d os => Ext.cell (Ext.reg w0.drew d os) (D1.out.c 12 _ rfl)
  try simp only at r0 r1 r2 r3 r4 r5 r6 r7 r8 r9 r10 r11 r12
  have s0 := fun d os => Ext.cell (Ext.reg w0.drew d os) (E1.out.c 0 _ rfl)
  have s1 := fun d os => Ext.cell (Ext.reg w0.drew d os) (E1.out.c 1 _ rfl)
  have s2 := fun d os => Ext.cell (Ext.reg w0.drew d os) (E1.out.c 2 _ rfl)
  have s3 := fun d os => Ext.cell (Ext.reg w0.drew d os) (E1.out.c 3 _ rfl)
  have s4 := fun d os => Ext.cell (Ext.reg w0.drew d os) (E1.out.c 4 _ rfl)
  have s5 := fun d os => Ext.cell (Ext.reg w0.drew d os) (E1.out.c 5 _ rfl)
  have s6 := fun d os => Ext.cell (Ext.reg w0.drew d os) (E1.out.c 6 _ rfl)
  have s7 := fun d os => Ext.cell (Ext.reg w0.drew d os) (E1.out.c 7 _ rfl)
  have s8 := fun d os => Ext.cell (Ext.reg w0.drew d os) (E1.out.c 8 _ rfl)
  have s9 := fun d os => Ext.cell (Ext.reg w0.drew d os) (E1.out.c 9 _ rfl)
  have s10 := fun d os => Ext.cell (Ext.reg w0.drew d os) (E1.out.c 10 _ rfl)
  have s11 := fun d os => Ext.cell (Ext.reg w0.drew d os) (E1.out.c 11 _ rfl)
  have s12 := fun d os => Ext.cell (Ext.reg w0.drew d os) (E1.out.c 12 _ rfl)
  try simp only at s0 s1 s2 s3 s4 s5 s6 s7 s8 s9 s10 s11 s12
  refine rw_start [0, 2, 1, 3, 4, 5, 6, 7, 8, 9, 10, 11, 12] (by kernel_rfl) (by kernel_rfl) (fun _ _ d _ _ h => by cases d <;> exact h) ?_
  repeat (first | (refine rw_quiet rfl (by rfl) (by rfl) (fun K hK => ?_); go_big_quiet_op; refine hK _ ?_; clear hK K) | (refine rw_skip rfl (by rfl) (fun K hK => ?_); go_big_quiet_op; refine hK _ ?_; clear hK K))
  clear r0 r1 r2 r3 r4 r5 r6 r7 r8 r9 r10 r11 r12
  clear s0 s1 s2 s3 s4 s5 s6 s7 s8 s9 s10 s11 s12
  refine rw_call rfl (by rfl) (by rfl) (fun K hK => ?_)
  go_simp
  refine (numbers_any (m := a) (p := p) (n := n) (cap := cap)).mono ?_
  rintro e w1 ⟨rfl, x1⟩
  refine hK _ _ x1 ?_
  clear hK K
  have E2 := Lib.hid ((Ext.drew w0).tr x1)
  clear x1
  refine rw_call rfl (by rfl) (by rfl) (fun K hK => ?_)
  go_simp
  refine (numbers_any (m := b) (p := q) (n := k) (cap := cq)).mono ?_
  rintro e w2 ⟨rfl, x2⟩
  refine hK _ _ x2 ?_
  clear hK K
  replace E2 := Lib.hid (E2.out.tr x2)
  clear x2
  have ae := fun w => arr_eq a b n k w
  cases hq : decide (numsM a n = numsM b k)
  · have hBf : B = false := by
      rw [HB.out]
      refine Bool.eq_false_iff.2 (fun h => of_decide_eq_false hq ?_)
      obtain ⟨h1, h2⟩ := (eqM_iff _ _ _ _).1 h
      exact (nums_eq _ _ _ _).2 ⟨h1, by rw [← N.out, h2, N2.out]⟩
    subst hBf
    rw [hq] at ae
    clear hq
    repeat (first | (refine rw_quiet rfl (by rfl) (by rfl) (fun K hK => ?_); go_big_quiet_op; refine hK _ ?_; clear hK K) | (refine rw_skip rfl (by rfl) (fun K hK => ?_); go_big_quiet_op; refine hK _ ?_; clear hK K))
    refine rw_nil ?_
    clear ae
    go_wp2
    go_ret
    exact ⟨rfl, X.out.tr E2.out⟩
  · obtain ⟨rfl, rfl⟩ := (nums_eq _ _ _ _).1 (of_decide_eq_true hq)
    rw [hq] at ae
    clear hq
    have hBt : B = eqL L M := by
      rw [HB.out]
      unfold eqM
      rw [(eqH_iff _ _).2 rfl]
      rfl
    subst hBt
    have D2 := Lib.hid (D.out.ext E2.out)
    have F2 := Lib.hid (E.out.ext E2.out)
    have r8 := fun d os => Ext.cell (Ext.reg w2 d os) (D2.out.c 8 _ rfl)
    have s8 := fun d os => Ext.cell (Ext.reg w2 d os) (F2.out.c 8 _ rfl)
    repeat (first | (refine rw_quiet rfl (by rfl) (by rfl) (fun K hK => ?_); go_big_quiet_op; refine hK _ ?_; clear hK K) | (refine rw_skip rfl (by rfl) (fun K hK => ?_); go_big_quiet_op; refine hK _ ?_; clear hK K))
    clear ae r8 s8
    refine rw_call rfl (by rfl) (by rfl) (fun K hK => ?_)
    go_simp
    refine (equalf_any (S.out.ext E2.out) (S2.out.ext E2.out)).mono ?_
    rintro e w3 ⟨rfl, x3⟩
    refine hK _ _ x3 ?_
    clear hK K
    replace E2 := Lib.hid (E2.out.tr x3)
    clear x3
    repeat (first | (refine rw_quiet rfl (by rfl) (by rfl) (fun K hK => ?_); go_big_quiet_op; refine hK _ ?_; clear hK K) | (refine rw_skip rfl (by rfl) (fun K hK => ?_); go_big_quiet_op; refine hK _ ?_; clear hK K))
    refine rw_nil ?_
    go_wp2
    go_ret
    exact ⟨rfl, X.out.tr E2.out⟩
end Go.Proofs.Ytgplmbchlahbkaa
