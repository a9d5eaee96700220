/-
  The reference's EqMsg: at any messages. Conditions stand at each.
-/
import Derived.Test.YtgplmbchlahbkaaWire3
namespace Go.Proofs.Ytgplmbchlahbkaa
open Go Go.Sort Go.RowKit
set_option linter.unusedVariables false

set_option maxRecDepth 8000 in
set_option maxHeartbeats 16000000 in
/-- The reference's EqMsg. -/
theorem reqm_any {w : World} {a b : MsD} {p q : Option Addr} {n cap k cq : Nat} {L M : List EnD} (h : SlS 7 w p n cap (L.map enL)) (h2 : SlS 7 w q k cq (M.map enL)) :
    Calls Try.prog 28 #[msV a p n cap, msV b q k cq] w fun e w' => e = .returned (.bool (eqM a L b M)) ∧ Ext w w' := by
  have X := Lib.hid ((Ext.alloc w (.cells (msA a p n cap) 31)).tr (Ext.alloc (w.alloc (.cells (msA a p n cap) 31)) (.cells (msA b q k cq) 31)))
  have D := Lib.hid ((BoxV.new w w.heap.size (msA a p n cap) (msL a p n cap) 31 _ rfl (Nat.le_refl _) rfl).ext (Ext.alloc (w.alloc (.cells (msA a p n cap) 31)) (.cells (msA b q k cq) 31)))
  have E := Lib.hid (BoxV.new (w.alloc (.cells (msA a p n cap) 31)) w.heap.size (msA b q k cq) (msL b q k cq) 31 (w.heap.size + 1) (by simp) (by omega) rfl)
  have S := Lib.hid (h.ext X.out)
  have S2 := Lib.hid (h2.ext X.out)
  obtain ⟨B, hB⟩ : ∃ B, B = eqM a L b M := ⟨_, rfl⟩
  rw [← hB]
  have HB := Lib.hid hB
  clear h h2 hB
  obtain ⟨kd, fr, to, bt, vw, ls, mb, po, cm, nm, ck, ye⟩ := a
  obtain ⟨kd', fr', to', bt', vw', ls', mb', po', cm', nm', ck', ye'⟩ := b
  by_cases q0 : kd = kd'
  rotate_left
  · have g : (kd == kd') = false := beq_eq_false_iff_ne.2 q0
    have hBf : B = false := by
      rw [HB.out]
      refine Bool.eq_false_iff.2 (fun h => q0 ?_)
      have h1 := (eqH_iff _ _).1 (Bool.and_eq_true _ _ ▸ h).1
      injection h1
    subst hBf
    clear q0
    have c0 := D.out.c 0 _ rfl
    have c1 := D.out.c 1 _ rfl
    have c2 := D.out.c 2 _ rfl
    have c3 := D.out.c 3 _ rfl
    have c4 := D.out.c 4 _ rfl
    have c5 := D.out.c 5 _ rfl
    have c6 := D.out.c 6 _ rfl
    have c7 := D.out.c 7 _ rfl
    have c8 := D.out.c 8 _ rfl
    have c9 := D.out.c 9 _ rfl
    have c10 := D.out.c 10 _ rfl
    have c11 := D.out.c 11 _ rfl
    have c12 := D.out.c 12 _ rfl
    try simp only at c0 c1 c2 c3 c4 c5 c6 c7 c8 c9 c10 c11 c12
    have d0 := E.out.c 0 _ rfl
    have d1 := E.out.c 1 _ rfl
    have d2 := E.out.c 2 _ rfl
    have d3 := E.out.c 3 _ rfl
    have d4 := E.out.c 4 _ rfl
    have d5 := E.out.c 5 _ rfl
    have d6 := E.out.c 6 _ rfl
    have d7 := E.out.c 7 _ rfl
    have d8 := E.out.c 8 _ rfl
    have d9 := E.out.c 9 _ rfl
    have d10 := E.out.c 10 _ rfl
    have d11 := E.out.c 11 _ rfl
    have d12 := E.out.c 12 _ rfl
    try simp only at d0 d1 d2 d3 d4 d5 d6 d7 d8 d9 d10 d11 d12
    go_enter Try.func28, Try.ntmps28
    go_wp2
    go_ret
    exact ⟨rfl, X.out⟩
  subst q0
  by_cases q1 : fr = fr'
  rotate_left
  · have g : (fr == fr') = false := beq_eq_false_iff_ne.2 q1
    have hBf : B = false := by
      rw [HB.out]
      refine Bool.eq_false_iff.2 (fun h => q1 ?_)
      have h1 := (eqH_iff _ _).1 (Bool.and_eq_true _ _ ▸ h).1
      injection h1
    subst hBf
    clear q1
    have c0 := D.out.c 0 _ rfl
    have c1 := D.out.c 1 _ rfl
    have c2 := D.out.c 2 _ rfl
    have c3 := D.out.c 3 _ rfl
    have c4 := D.out.c 4 _ rfl
    have c5 := D.out.c 5 _ rfl
    have c6 := D.out.c 6 _ rfl
    have c7 := D.out.c 7 _ rfl
    have c8 := D.out.c 8 _ rfl
    have c9 := D.out.c 9 _ rfl
    have c10 := D.out.c 10 _ rfl
    have c11 := D.out.c 11 _ rfl
    have c12 := D.out.c 12 _ rfl
    try simp only at c0 c1 c2 c3 c4 c5 c6 c7 c8 c9 c10 c11 c12
    have d0 := E.out.c 0 _ rfl
    have d1 := E.out.c 1 _ rfl
    have d2 := E.out.c 2 _ rfl
    have d3 := E.out.c 3 _ rfl
    have d4 := E.out.c 4 _ rfl
    have d5 := E.out.c 5 _ rfl
    have d6 := E.out.c 6 _ rfl
    have d7 := E.out.c 7 _ rfl
    have d8 := E.out.c 8 _ rfl
    have d9 := E.out.c 9 _ rfl
    have d10 := E.out.c 10 _ rfl
    have d11 := E.out.c 11 _ rfl
    have d12 := E.out.c 12 _ rfl
    try simp only at d0 d1 d2 d3 d4 d5 d6 d7 d8 d9 d10 d11 d12
    go_enter Try.func28, Try.ntmps28
    go_wp2
    go_ret
    exact ⟨rfl, X.out⟩
  subst q1
  by_cases q2 : to = to'
  rotate_left
  · have g : (to == to') = false := beq_eq_false_iff_ne.2 q2
    have hBf : B = false := by
      rw [HB.out]
      refine Bool.eq_false_iff.2 (fun h => q2 ?_)
      have h1 := (eqH_iff _ _).1 (Bool.and_eq_true _ _ ▸ h).1
      injection h1
    subst hBf
    clear q2
    have c0 := D.out.c 0 _ rfl
    have c1 := D.out.c 1 _ rfl
    have c2 := D.out.c 2 _ rfl
    have c3 := D.out.c 3 _ rfl
    have c4 := D.out.c 4 _ rfl
    have c5 := D.out.c 5 _ rfl
    have c6 := D.out.c 6 _ rfl
    have c7 := D.out.c 7 _ rfl
    have c8 := D.out.c 8 _ rfl
    have c9 := D.out.c 9 _ rfl
    have c10 := D.out.c 10 _ rfl
    have c11 := D.out.c 11 _ rfl
    have c12 := D.out.c 12 _ rfl
    try simp only at c0 c1 c2 c3 c4 c5 c6 c7 c8 c9 c10 c11 c12
    have d0 := E.out.c 0 _ rfl
    have d1 := E.out.c 1 _ rfl
    have d2 := E.out.c 2 _ rfl
    have d3 := E.out.c 3 _ rfl
    have d4 := E.out.c 4 _ rfl
    have d5 := E.out.c 5 _ rfl
    have d6 := E.out.c 6 _ rfl
    have d7 := E.out.c 7 _ rfl
    have d8 := E.out.c 8 _ rfl
    have d9 := E.out.c 9 _ rfl
    have d10 := E.out.c 10 _ rfl
    have d11 := E.out.c 11 _ rfl
    have d12 := E.out.c 12 _ rfl
    try simp only at d0 d1 d2 d3 d4 d5 d6 d7 d8 d9 d10 d11 d12
    go_enter Try.func28, Try.ntmps28
    go_wp2
    go_ret
    exact ⟨rfl, X.out⟩
  subst q2
  by_cases q3 : bt = bt'
  rotate_left
  · have g : (bt == bt') = false := beq_eq_false_iff_ne.2 q3
    have hBf : B = false := by
      rw [HB.out]
      refine Bool.eq_false_iff.2 (fun h => q3 ?_)
      have h1 := (eqH_iff _ _).1 (Bool.and_eq_true _ _ ▸ h).1
      injection h1
    subst hBf
    clear q3
    have c0 := D.out.c 0 _ rfl
    have c1 := D.out.c 1 _ rfl
    have c2 := D.out.c 2 _ rfl
    have c3 := D.out.c 3 _ rfl
    have c4 := D.out.c 4 _ rfl
    have c5 := D.out.c 5 _ rfl
    have c6 := D.out.c 6 _ rfl
    have c7 := D.out.c 7 _ rfl
    have c8 := D.out.c 8 _ rfl
    have c9 := D.out.c 9 _ rfl
    have c10 := D.out.c 10 _ rfl
    have c11 := D.out.c 11 _ rfl
    have c12 := D.out.c 12 _ rfl
    try simp only at c0 c1 c2 c3 c4 c5 c6 c7 c8 c9 c10 c11 c12
    have d0 := E.out.c 0 _ rfl
    have d1 := E.out.c 1 _ rfl
    have d2 := E.out.c 2 _ rfl
    have d3 := E.out.c 3 _ rfl
    have d4 := E.out.c 4 _ rfl
    have d5 := E.out.c 5 _ rfl
    have d6 := E.out.c 6 _ rfl
    have d7 := E.out.c 7 _ rfl
    have d8 := E.out.c 8 _ rfl
    have d9 := E.out.c 9 _ rfl
    have d10 := E.out.c 10 _ rfl
    have d11 := E.out.c 11 _ rfl
    have d12 := E.out.c 12 _ rfl
    try simp only at d0 d1 d2 d3 d4 d5 d6 d7 d8 d9 d10 d11 d12
    go_enter Try.func28, Try.ntmps28
    go_wp2
    go_ret
    exact ⟨rfl, X.out⟩
  subst q3
  by_cases q4 : vw = vw'
  rotate_left
  · have g : (vw == vw') = false := beq_eq_false_iff_ne.2 q4
    have hBf : B = false := by
      rw [HB.out]
      refine Bool.eq_false_iff.2 (fun h => q4 ?_)
      have h1 := (eqH_iff _ _).1 (Bool.and_eq_true _ _ ▸ h).1
      injection h1
    subst hBf
    clear q4
    have c0 := D.out.c 0 _ rfl
    have c1 := D.out.c 1 _ rfl
    have c2 := D.out.c 2 _ rfl
    have c3 := D.out.c 3 _ rfl
    have c4 := D.out.c 4 _ rfl
    have c5 := D.out.c 5 _ rfl
    have c6 := D.out.c 6 _ rfl
    have c7 := D.out.c 7 _ rfl
    have c8 := D.out.c 8 _ rfl
    have c9 := D.out.c 9 _ rfl
    have c10 := D.out.c 10 _ rfl
    have c11 := D.out.c 11 _ rfl
    have c12 := D.out.c 12 _ rfl
    try simp only at c0 c1 c2 c3 c4 c5 c6 c7 c8 c9 c10 c11 c12
    have d0 := E.out.c 0 _ rfl
    have d1 := E.out.c 1 _ rfl
    have d2 := E.out.c 2 _ rfl
    have d3 := E.out.c 3 _ rfl
    have d4 := E.out.c 4 _ rfl
    have d5 := E.out.c 5 _ rfl
    have d6 := E.out.c 6 _ rfl
    have d7 := E.out.c 7 _ rfl
    have d8 := E.out.c 8 _ rfl
    have d9 := E.out.c 9 _ rfl
    have d10 := E.out.c 10 _ rfl
    have d11 := E.out.c 11 _ rfl
    have d12 := E.out.c 12 _ rfl
    try simp only at d0 d1 d2 d3 d4 d5 d6 d7 d8 d9 d10 d11 d12
    go_enter Try.func28, Try.ntmps28
    go_wp2
    go_ret
    exact ⟨rfl, X.out⟩
  subst q4
  by_cases q5 : ls = ls'
  rotate_left
  · have g : (ls == ls') = false := beq_eq_false_iff_ne.2 q5
    have hBf : B = false := by
      rw [HB.out]
      refine Bool.eq_false_iff.2 (fun h => q5 ?_)
      have h1 := (eqH_iff _ _).1 (Bool.and_eq_true _ _ ▸ h).1
      injection h1
    subst hBf
    clear q5
    have c0 := D.out.c 0 _ rfl
    have c1 := D.out.c 1 _ rfl
    have c2 := D.out.c 2 _ rfl
    have c3 := D.out.c 3 _ rfl
    have c4 := D.out.c 4 _ rfl
    have c5 := D.out.c 5 _ rfl
    have c6 := D.out.c 6 _ rfl
    have c7 := D.out.c 7 _ rfl
    have c8 := D.out.c 8 _ rfl
    have c9 := D.out.c 9 _ rfl
    have c10 := D.out.c 10 _ rfl
    have c11 := D.out.c 11 _ rfl
    have c12 := D.out.c 12 _ rfl
    try simp only at c0 c1 c2 c3 c4 c5 c6 c7 c8 c9 c10 c11 c12
    have d0 := E.out.c 0 _ rfl
    have d1 := E.out.c 1 _ rfl
    have d2 := E.out.c 2 _ rfl
    have d3 := E.out.c 3 _ rfl
    have d4 := E.out.c 4 _ rfl
    have d5 := E.out.c 5 _ rfl
    have d6 := E.out.c 6 _ rfl
    have d7 := E.out.c 7 _ rfl
    have d8 := E.out.c 8 _ rfl
    have d9 := E.out.c 9 _ rfl
    have d10 := E.out.c 10 _ rfl
    have d11 := E.out.c 11 _ rfl
    have d12 := E.out.c 12 _ rfl
    try simp only at d0 d1 d2 d3 d4 d5 d6 d7 d8 d9 d10 d11 d12
    go_enter Try.func28, Try.ntmps28
    go_wp2
    go_ret
    exact ⟨rfl, X.out⟩
  subst q5
  by_cases q6 : mb = mb'
  rotate_left
  · have g : (mb == mb') = false := beq_eq_false_iff_ne.2 q6
    have hBf : B = false := by
      rw [HB.out]
      refine Bool.eq_false_iff.2 (fun h => q6 ?_)
      have h1 := (eqH_iff _ _).1 (Bool.and_eq_true _ _ ▸ h).1
      injection h1
    subst hBf
    clear q6
    have c0 := D.out.c 0 _ rfl
    have c1 := D.out.c 1 _ rfl
    have c2 := D.out.c 2 _ rfl
    have c3 := D.out.c 3 _ rfl
    have c4 := D.out.c 4 _ rfl
    have c5 := D.out.c 5 _ rfl
    have c6 := D.out.c 6 _ rfl
    have c7 := D.out.c 7 _ rfl
    have c8 := D.out.c 8 _ rfl
    have c9 := D.out.c 9 _ rfl
    have c10 := D.out.c 10 _ rfl
    have c11 := D.out.c 11 _ rfl
    have c12 := D.out.c 12 _ rfl
    try simp only at c0 c1 c2 c3 c4 c5 c6 c7 c8 c9 c10 c11 c12
    have d0 := E.out.c 0 _ rfl
    have d1 := E.out.c 1 _ rfl
    have d2 := E.out.c 2 _ rfl
    have d3 := E.out.c 3 _ rfl
    have d4 := E.out.c 4 _ rfl
    have d5 := E.out.c 5 _ rfl
    have d6 := E.out.c 6 _ rfl
    have d7 := E.out.c 7 _ rfl
    have d8 := E.out.c 8 _ rfl
    have d9 := E.out.c 9 _ rfl
    have d10 := E.out.c 10 _ rfl
    have d11 := E.out.c 11 _ rfl
    have d12 := E.out.c 12 _ rfl
    try simp only at d0 d1 d2 d3 d4 d5 d6 d7 d8 d9 d10 d11 d12
    go_enter Try.func28, Try.ntmps28
    go_wp2
    go_ret
    exact ⟨rfl, X.out⟩
  subst q6
  by_cases q7 : po = po'
  rotate_left
  · have g : (po == po') = false := beq_eq_false_iff_ne.2 q7
    have hBf : B = false := by
      rw [HB.out]
      refine Bool.eq_false_iff.2 (fun h => q7 ?_)
      have h1 := (eqH_iff _ _).1 (Bool.and_eq_true _ _ ▸ h).1
      injection h1
    subst hBf
    clear q7
    have c0 := D.out.c 0 _ rfl
    have c1 := D.out.c 1 _ rfl
    have c2 := D.out.c 2 _ rfl
    have c3 := D.out.c 3 _ rfl
    have c4 := D.out.c 4 _ rfl
    have c5 := D.out.c 5 _ rfl
    have c6 := D.out.c 6 _ rfl
    have c7 := D.out.c 7 _ rfl
    have c8 := D.out.c 8 _ rfl
    have c9 := D.out.c 9 _ rfl
    have c10 := D.out.c 10 _ rfl
    have c11 := D.out.c 11 _ rfl
    have c12 := D.out.c 12 _ rfl
    try simp only at c0 c1 c2 c3 c4 c5 c6 c7 c8 c9 c10 c11 c12
    have d0 := E.out.c 0 _ rfl
    have d1 := E.out.c 1 _ rfl
    have d2 := E.out.c 2 _ rfl
    have d3 := E.out.c 3 _ rfl
    have d4 := E.out.c 4 _ rfl
    have d5 := E.out.c 5 _ rfl
    have d6 := E.out.c 6 _ rfl
    have d7 := E.out.c 7 _ rfl
    have d8 := E.out.c 8 _ rfl
    have d9 := E.out.c 9 _ rfl
    have d10 := E.out.c 10 _ rfl
    have d11 := E.out.c 11 _ rfl
    have d12 := E.out.c 12 _ rfl
    try simp only at d0 d1 d2 d3 d4 d5 d6 d7 d8 d9 d10 d11 d12
    go_enter Try.func28, Try.ntmps28
    go_wp2
    go_ret
    exact ⟨rfl, X.out⟩
  subst q7
  by_cases q8 : cm = cm'
  rotate_left
  · have g : (cm == cm') = false := beq_eq_false_iff_ne.2 q8
    have hBf : B = false := by
      rw [HB.out]
      refine Bool.eq_false_iff.2 (fun h => q8 ?_)
      have h1 := (eqH_iff _ _).1 (Bool.and_eq_true _ _ ▸ h).1
      injection h1
    subst hBf
    clear q8
    have c0 := D.out.c 0 _ rfl
    have c1 := D.out.c 1 _ rfl
    have c2 := D.out.c 2 _ rfl
    have c3 := D.out.c 3 _ rfl
    have c4 := D.out.c 4 _ rfl
    have c5 := D.out.c 5 _ rfl
    have c6 := D.out.c 6 _ rfl
    have c7 := D.out.c 7 _ rfl
    have c8 := D.out.c 8 _ rfl
    have c9 := D.out.c 9 _ rfl
    have c10 := D.out.c 10 _ rfl
    have c11 := D.out.c 11 _ rfl
    have c12 := D.out.c 12 _ rfl
    try simp only at c0 c1 c2 c3 c4 c5 c6 c7 c8 c9 c10 c11 c12
    have d0 := E.out.c 0 _ rfl
    have d1 := E.out.c 1 _ rfl
    have d2 := E.out.c 2 _ rfl
    have d3 := E.out.c 3 _ rfl
    have d4 := E.out.c 4 _ rfl
    have d5 := E.out.c 5 _ rfl
    have d6 := E.out.c 6 _ rfl
    have d7 := E.out.c 7 _ rfl
    have d8 := E.out.c 8 _ rfl
    have d9 := E.out.c 9 _ rfl
    have d10 := E.out.c 10 _ rfl
    have d11 := E.out.c 11 _ rfl
    have d12 := E.out.c 12 _ rfl
    try simp only at d0 d1 d2 d3 d4 d5 d6 d7 d8 d9 d10 d11 d12
    go_enter Try.func28, Try.ntmps28
    go_wp2
    go_ret
    exact ⟨rfl, X.out⟩
  subst q8
  by_cases q9 : nm = nm'
  rotate_left
  · have g : (nm == nm') = false := beq_eq_false_iff_ne.2 q9
    have hBf : B = false := by
      rw [HB.out]
      refine Bool.eq_false_iff.2 (fun h => q9 ?_)
      have h1 := (eqH_iff _ _).1 (Bool.and_eq_true _ _ ▸ h).1
      injection h1
    subst hBf
    clear q9
    have c0 := D.out.c 0 _ rfl
    have c1 := D.out.c 1 _ rfl
    have c2 := D.out.c 2 _ rfl
    have c3 := D.out.c 3 _ rfl
    have c4 := D.out.c 4 _ rfl
    have c5 := D.out.c 5 _ rfl
    have c6 := D.out.c 6 _ rfl
    have c7 := D.out.c 7 _ rfl
    have c8 := D.out.c 8 _ rfl
    have c9 := D.out.c 9 _ rfl
    have c10 := D.out.c 10 _ rfl
    have c11 := D.out.c 11 _ rfl
    have c12 := D.out.c 12 _ rfl
    try simp only at c0 c1 c2 c3 c4 c5 c6 c7 c8 c9 c10 c11 c12
    have d0 := E.out.c 0 _ rfl
    have d1 := E.out.c 1 _ rfl
    have d2 := E.out.c 2 _ rfl
    have d3 := E.out.c 3 _ rfl
    have d4 := E.out.c 4 _ rfl
    have d5 := E.out.c 5 _ rfl
    have d6 := E.out.c 6 _ rfl
    have d7 := E.out.c 7 _ rfl
    have d8 := E.out.c 8 _ rfl
    have d9 := E.out.c 9 _ rfl
    have d10 := E.out.c 10 _ rfl
    have d11 := E.out.c 11 _ rfl
    have d12 := E.out.c 12 _ rfl
    try simp only at d0 d1 d2 d3 d4 d5 d6 d7 d8 d9 d10 d11 d12
    go_enter Try.func28, Try.ntmps28
    go_wp2
    go_ret
    exact ⟨rfl, X.out⟩
  subst q9
  by_cases q10 : ck = ck'
  rotate_left
  · have g : (ck == ck') = false := beq_eq_false_iff_ne.2 q10
    have hBf : B = false := by
      rw [HB.out]
      refine Bool.eq_false_iff.2 (fun h => q10 ?_)
      have h1 := (eqH_iff _ _).1 (Bool.and_eq_true _ _ ▸ h).1
      injection h1
    subst hBf
    clear q10
    have c0 := D.out.c 0 _ rfl
    have c1 := D.out.c 1 _ rfl
    have c2 := D.out.c 2 _ rfl
    have c3 := D.out.c 3 _ rfl
    have c4 := D.out.c 4 _ rfl
    have c5 := D.out.c 5 _ rfl
    have c6 := D.out.c 6 _ rfl
    have c7 := D.out.c 7 _ rfl
    have c8 := D.out.c 8 _ rfl
    have c9 := D.out.c 9 _ rfl
    have c10 := D.out.c 10 _ rfl
    have c11 := D.out.c 11 _ rfl
    have c12 := D.out.c 12 _ rfl
    try simp only at c0 c1 c2 c3 c4 c5 c6 c7 c8 c9 c10 c11 c12
    have d0 := E.out.c 0 _ rfl
    have d1 := E.out.c 1 _ rfl
    have d2 := E.out.c 2 _ rfl
    have d3 := E.out.c 3 _ rfl
    have d4 := E.out.c 4 _ rfl
    have d5 := E.out.c 5 _ rfl
    have d6 := E.out.c 6 _ rfl
    have d7 := E.out.c 7 _ rfl
    have d8 := E.out.c 8 _ rfl
    have d9 := E.out.c 9 _ rfl
    have d10 := E.out.c 10 _ rfl
    have d11 := E.out.c 11 _ rfl
    have d12 := E.out.c 12 _ rfl
    try simp only at d0 d1 d2 d3 d4 d5 d6 d7 d8 d9 d10 d11 d12
    go_enter Try.func28, Try.ntmps28
    go_wp2
    go_ret
    exact ⟨rfl, X.out⟩
  subst q10
  by_cases q11 : ye = ye'
  rotate_left
  · have g : (ye == ye') = false := beq_eq_false_iff_ne.2 q11
    have hBf : B = false := by
      rw [HB.out]
      refine Bool.eq_false_iff.2 (fun h => q11 ?_)
      have h1 := (eqH_iff _ _).1 (Bool.and_eq_true _ _ ▸ h).1
      injection h1
    subst hBf
    clear q11
    have c0 := D.out.c 0 _ rfl
    have c1 := D.out.c 1 _ rfl
    have c2 := D.out.c 2 _ rfl
    have c3 := D.out.c 3 _ rfl
    have c4 := D.out.c 4 _ rfl
    have c5 := D.out.c 5 _ rfl
    have c6 := D.out.c 6 _ rfl
    have c7 := D.out.c 7 _ rfl
    have c8 := D.out.c 8 _ rfl
    have c9 := D.out.c 9 _ rfl
    have c10 := D.out.c 10 _ rfl
    have c11 := D.out.c 11 _ rfl
    have c12 := D.out.c 12 _ rfl
    try simp only at c0 c1 c2 c3 c4 c5 c6 c7 c8 c9 c10 c11 c12
    have d0 := E.out.c 0 _ rfl
    have d1 := E.out.c 1 _ rfl
    have d2 := E.out.c 2 _ rfl
    have d3 := E.out.c 3 _ rfl
    have d4 := E.out.c 4 _ rfl
    have d5 := E.out.c 5 _ rfl
    have d6 := E.out.c 6 _ rfl
    have d7 := E.out.c 7 _ rfl
    have d8 := E.out.c 8 _ rfl
    have d9 := E.out.c 9 _ rfl
    have d10 := E.out.c 10 _ rfl
    have d11 := E.out.c 11 _ rfl
    have d12 := E.out.c 12 _ rfl
    try simp only at d0 d1 d2 d3 d4 d5 d6 d7 d8 d9 d10 d11 d12
    go_enter Try.func28, Try.ntmps28
    go_wp2
    go_ret
    exact ⟨rfl, X.out⟩
  subst q11
  have hBt : B = eqL L M := by
    rw [HB.out]
    unfold eqM
    rw [(eqH_iff _ _).2 rfl]
    rfl
  subst hBt
  have c0 := D.out.c 0 _ rfl
  have c1 := D.out.c 1 _ rfl
  have c2 := D.out.c 2 _ rfl
  have c3 := D.out.c 3 _ rfl
  have c4 := D.out.c 4 _ rfl
  have c5 := D.out.c 5 _ rfl
  have c6 := D.out.c 6 _ rfl
  have c7 := D.out.c 7 _ rfl
  have c8 := D.out.c 8 _ rfl
  have c9 := D.out.c 9 _ rfl
  have c10 := D.out.c 10 _ rfl
  have c11 := D.out.c 11 _ rfl
  have c12 := D.out.c 12 _ rfl
  try simp only at c0 c1 c2 c3 c4 c5 c6 c7 c8 c9 c10 c11 c12
  have d0 := E.out.c 0 _ rfl
  have d1 := E.out.c 1 _ rfl
  have d2 := E.out.c 2 _ rfl
  have d3 := E.out.c 3 _ rfl
  have d4 := E.out.c 4 _ rfl
  have d5 := E.out.c 5 _ rfl
  have d6 := E.out.c 6 _ rfl
  have d7 := E.out.c 7 _ rfl
  have d8 := E.out.c 8 _ rfl
  have d9 := E.out.c 9 _ rfl
  have d10 := E.out.c 10 _ rfl
  have d11 := E.out.c 11 _ rfl
  have d12 := E.out.c 12 _ rfl
  try simp only at d0 d1 d2 d3 d4 d5 d6 d7 d8 d9 d10 d11 d12
  go_enter Try.func28, Try.ntmps28
  go_wp2_with fail
  refine (eqall_any S.out S2.out).mono ?_
  rintro e w4 ⟨rfl, x4⟩
  have X4 := Lib.hid (X.out.tr x4)
  clear x4
  go_wp2
  go_ret
  exact ⟨rfl, X4.out⟩
end Go.Proofs.Ytgplmbchlahbkaa
