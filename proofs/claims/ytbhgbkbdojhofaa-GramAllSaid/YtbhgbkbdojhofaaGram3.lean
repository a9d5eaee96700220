/-
  The contract of (*Gram).Hear. Conditions stand at it.
-/
import Derived.Test.YtbhgbkbdojhofaaGram
import Derived.Test.YtbhgbkbdojhofaaWire9
import Derived.Deep.DeepCutAuto
namespace Go.Proofs.Ytbhgbkbdojhofaa
open Go Go.Sort Go.RowKit
set_option linter.unusedVariables false

theorem grown_fill1 {a : World} {t : Nat} {row : Option Nat} (ht : a.heap.size ≤ t) : ∀ (vs : List Value) (j : Nat) (w : World), a.grownBy w row → a.grownBy (fillV w t j vs) row
  | [], _, _, h => h
  | v :: vs, j, w, h => grown_fill1 ht vs (j + 1) _ ⟨h.os, h.tape, h.output, by simpa [World.setCell] using h.size, fun i hi hne => (Below.heap_setCell w ⟨t, j, none⟩ v i (by rintro rfl; exact absurd hi (Nat.not_lt.2 ht))).trans (h.block i hi hne)⟩
theorem grown_fill {a w : World} {t : Nat} {row : Option Nat} (h : a.grownBy w row) (ht : a.heap.size ≤ t) (vs : List Value) (j : Nat) : a.grownBy (fillV w t j vs) row := grown_fill1 ht vs j w h
/-- What is heard: a message, or why not. -/
def hearR (me : Int) (bs : Nat → Int) (b : List UInt8) : (MsD × List EnD) ⊕ Int :=
  match decM b with
  | none => .inr 1
  | some (m, L) => if m.to = me then (if m.bt < bs m.fr.toNat then .inr 7 else .inl (m, L)) else .inr 1
def HearPost (w : World) (base g : Nat) (me : Int) (bs : Nat → Int) (ps : Nat → Int × Int × Bool) (R : (MsD × List EnD) ⊕ Int) (e : Ending) (w' : World) : Prop :=
  match R with
  | .inr c => e = .returned (.tuple #[msV zeroM none 0 0, .int .i64 c]) ∧ BoxV w' base g (grL me bs ps) ∧ w.grownBy w' (some g)
  | .inl (m, L) => ∃ p cap, e = .returned (.tuple #[msV m p L.length cap, .int .i64 0]) ∧ OwS 66 7 w' w.heap.size p L.length cap (L.map enL) ∧ (∀ x ∈ L, EnOk x) ∧ MsOk m ∧ BoxV w' base g (grL me (updF bs m.fr.toNat m.bt) ps) ∧ w.grownBy w' (some g)
theorem may_from {m : MsD} {L : List EnD} (h : mayM m L = true) : 1 ≤ m.fr ∧ m.fr ≤ 7 := by
  have := (who_iff m).1 (mayM_iff.1 h).1
  omega

set_option maxRecDepth 8000 in
set_option maxHeartbeats 8000000 in
/-- (*Gram).Hear -/
theorem hear_any {w : World} {base g : Nat} {me : Int} {bs : Nat → Int} {ps : Nat → Int × Int × Bool} (h : BoxV w base g (grL me bs ps)) {p : Option Addr} {n cap : Nat} {b : List UInt8} (hb : SlP w p n cap b) (hn : n ≤ 6000) :
    Calls Try.prog 11 #[.pointer (some ⟨g, 0, none⟩), .slice p n cap] w fun e w' => HearPost w base g me bs ps (hearR me bs b) e w' := by
  obtain ⟨w0, hw0⟩ : ∃ w0, w0 = w.alloc (.cells (msA zeroM none 0 0) 30) := ⟨_, rfl⟩
  have D : Hid (BoxV w0 base g (grL me bs ps)) := Lib.hid (by rw [hw0]; exact h.ext (Ext.alloc w _))
  have T : Hid (BoxV w0 w.heap.size w.heap.size (msL zeroM none 0 0)) := Lib.hid (by rw [hw0]; exact BoxV.new w w.heap.size (msA zeroM none 0 0) (msL zeroM none 0 0) 30 _ rfl (Nat.le_refl _) rfl)
  have X : Hid (Ext w w0) := Lib.hid (by rw [hw0]; exact Ext.alloc w _)
  have S := Lib.hid (hb.ext X.out)
  have HG := Lib.hid h.hi
  have HNE : Hid ((some w.heap.size : Option Nat) ≠ some g) := Lib.hid (by intro hh; injection hh with hh; have := HG.out; omega)
  have DC := Lib.hid (fun (w : World) (h : SlP w p n cap b) => wdecode_any h hn)
  obtain ⟨R, hR⟩ : ∃ R, R = hearR me bs b := ⟨_, rfl⟩
  rw [← hR]
  have HR := Lib.hid hR
  clear h hb hR
  cases hd : decM b with
  | none =>
    obtain rfl : R = .inr 1 := by rw [HR.out]; unfold hearR; rw [hd]
    rw [hd] at DC
    clear hd HR
    go_enter Try.func11, Try.ntmps11
    go_wp2_with fail
    change Calls _ _ _ (w.alloc (.cells (msA zeroM none 0 0) 30)) _
    rw [← hw0]
    clear hw0
    refine (DC.out _ S.out).mono ?_
    rintro e w2 ⟨rfl, x2⟩
    have A2 := Lib.hid (x2.tr (Ext.alloc w2 (.cells (msA zeroM none 0 0) 30)))
    clear x2
    simp only [zeroM]
    go_wp2_with fail
    change Code.wp _ _ _ _ (w2.alloc (.cells (msA zeroM none 0 0) 30))
    generalize w2.alloc (.cells (msA zeroM none 0 0) 30) = w3 at *
    refine rg_start [0, 1, 2, 3, 4, 5, 6, 7, 8, 9, 10, 11] (Ext w3.drew) (by kernel_rfl) (by kernel_rfl) (fun _ _ d _ _ h => by cases d <;> exact h) (Ext.rfl' _) (fun _ => ?_)
    repeat (first | (refine rg_quiet rfl (by rfl) (by rfl) (fun K hK => ?_); go_big_quiet_op; refine hK _ ?_; clear hK K) | (refine rg_skip rfl (by rfl) (fun K hK => ?_); go_big_quiet_op; refine hK _ ?_; clear hK K))
    refine rg_nil ?_
    replace D := Lib.hid (D.out.ext (A2.out.tr (Ext.drew w3)))
    replace T := Lib.hid (T.out.ext (A2.out.tr (Ext.drew w3)))
    replace X := Lib.hid (X.out.tr (A2.out.tr (Ext.drew w3)))
    clear A2
    generalize w3.drew = w4 at *
    have b0 := T.out.c 0 _ rfl
    have b1 := T.out.c 1 _ rfl
    have b2 := T.out.c 2 _ rfl
    have b3 := T.out.c 3 _ rfl
    have b4 := T.out.c 4 _ rfl
    have b5 := T.out.c 5 _ rfl
    have b6 := T.out.c 6 _ rfl
    have b7 := T.out.c 7 _ rfl
    have b8 := T.out.c 8 _ rfl
    have b9 := T.out.c 9 _ rfl
    have b10 := T.out.c 10 _ rfl
    have b11 := T.out.c 11 _ rfl
    have b12 := T.out.c 12 _ rfl
    try simp only at b0 b1 b2 b3 b4 b5 b6 b7 b8 b9 b10 b11 b12
    have bf := T.out.f
    go_wp2
    change bodyPost _ _ _ Exit.ret _ (fillV w4 w.heap.size 0 (msL zeroM none 0 0))
    have FB := Lib.hid (T.out.fill (vs := msL zeroM none 0 0) (Nat.le_refl _))
    have FG := Lib.hid (grown_fill (grown_ext X.out (some g)) (Nat.le_refl _) (msL zeroM none 0 0) 0)
    have FD := Lib.hid (D.out.other (fillV_grown w.heap.size (msL zeroM none 0 0) 0 w4 w4 (grown_refl _ _)) HNE.out)
    generalize fillV w4 w.heap.size 0 (msL zeroM none 0 0) = w9 at *
    have f0 := FB.out.c 0 _ rfl
    have f1 := FB.out.c 1 _ rfl
    have f2 := FB.out.c 2 _ rfl
    have f3 := FB.out.c 3 _ rfl
    have f4 := FB.out.c 4 _ rfl
    have f5 := FB.out.c 5 _ rfl
    have f6 := FB.out.c 6 _ rfl
    have f7 := FB.out.c 7 _ rfl
    have f8 := FB.out.c 8 _ rfl
    have f9 := FB.out.c 9 _ rfl
    have f10 := FB.out.c 10 _ rfl
    have f11 := FB.out.c 11 _ rfl
    have f12 := FB.out.c 12 _ rfl
    try simp only at f0 f1 f2 f3 f4 f5 f6 f7 f8 f9 f10 f11 f12
    simp only [zeroM] at f0 f1 f2 f3 f4 f5 f6 f7 f8 f9 f10 f11 f12
    exact bodyPost_ret (v := .tuple #[msV zeroM none 0 0, .int .i64 1]) (by simp [results, Try.results11, go_sem, f0, f1, f2, f3, f4, f5, f6, f7, f8, f9, f10, f11, f12, zeroM]) rfl ⟨rfl, FD.out, FG.out⟩
  | some Q =>
    obtain ⟨m, L⟩ := Q
    have HF := Lib.hid (may_from (decM_some hd).2.1)
    rw [hd] at DC
    have HR2 : Hid (R = if m.to = me then (if m.bt < bs m.fr.toNat then .inr 7 else .inl (m, L)) else .inr 1) := Lib.hid (by rw [HR.out]; unfold hearR; rw [hd])
    clear hd HR
    obtain ⟨kd, fr, tt, bt, vw, ls, mb, po, cm, nm, ck, ye⟩ := m
    simp only at HR2 HF
    obtain ⟨F, rfl⟩ : ∃ F : Nat, fr = (F : Int) := ⟨fr.toNat, by have := HF.out; omega⟩
    have hF : F < 8 := by have := HF.out; omega
    have FT : Hid ((F : Int).toNat = F) := Lib.hid (by omega)
    rw [FT.out] at HR2
    go_enter Try.func11, Try.ntmps11
    go_wp2_with fail
    change Calls _ _ _ (w.alloc (.cells (msA zeroM none 0 0) 30)) _
    rw [← hw0]
    clear hw0
    refine (DC.out _ S.out).mono ?_
    rintro e w2 ⟨p2, k2, rfl, o2, lok, mok, x2⟩
    have A2 := Lib.hid (x2.tr (Ext.alloc w2 (.cells (msA ⟨kd, F, tt, bt, vw, ls, mb, po, cm, nm, ck, ye⟩ p2 L.length k2) 30)))
    have O := Lib.hid ((o2.ext (Ext.alloc w2 (.cells (msA ⟨kd, F, tt, bt, vw, ls, mb, po, cm, nm, ck, ye⟩ p2 L.length k2) 30))).mono X.out.size)
    have Y := Lib.hid (BoxV.new w2 w.heap.size (msA ⟨kd, F, tt, bt, vw, ls, mb, po, cm, nm, ck, ye⟩ p2 L.length k2) (msL ⟨kd, F, tt, bt, vw, ls, mb, po, cm, nm, ck, ye⟩ p2 L.length k2) 30 w2.heap.size rfl (Nat.le_trans X.out.size x2.size) rfl)
    have HOT : Hid (p2.map (·.block) ≠ some w.heap.size) := Lib.hid (by
      intro hc
      have h1 := o2.lt _ hc
      have h2 := T.out.hi
      omega)
    have HY : Hid (g < w2.heap.size ∧ w.heap.size < w2.heap.size) := Lib.hid ⟨Nat.lt_of_lt_of_le D.out.hi x2.size, Nat.lt_of_lt_of_le T.out.hi x2.size⟩
    have LOK := Lib.hid lok
    have MOK := Lib.hid mok
    clear x2 o2 lok mok
    go_wp2_with fail
    change Code.wp _ _ _ _ (w2.alloc (.cells (msA ⟨kd, F, tt, bt, vw, ls, mb, po, cm, nm, ck, ye⟩ p2 L.length k2) 30))
    generalize hy : w2.heap.size = y at *
    generalize w2.alloc (.cells (msA ⟨kd, F, tt, bt, vw, ls, mb, po, cm, nm, ck, ye⟩ p2 L.length k2) 30) = w3 at *
    clear hy
    replace D := Lib.hid (D.out.ext (A2.out.tr (Ext.drew w3)))
    replace T := Lib.hid (T.out.ext (A2.out.tr (Ext.drew w3)))
    replace Y := Lib.hid (Y.out.ext (Ext.drew w3))
    replace O := Lib.hid (O.out.ext (Ext.drew w3))
    replace X := Lib.hid (X.out.tr (A2.out.tr (Ext.drew w3)))
    clear A2
    have s2 := fun (q : Wrap (Ext w3.drew)) => Ext.cell q.h (Y.out.c 2 _ rfl)
    have r0 := fun (q : Wrap (Ext w3.drew)) => Ext.cell q.h (D.out.c 0 _ rfl)
    try simp only at s2 r0
    by_cases ht : tt = me
    · subst ht
      refine rg_start [0, 1, 2, 3, 4, 5, 6, 7, 8, 9, 10, 11] (Ext w3.drew) (by kernel_rfl) (by kernel_rfl) (fun _ _ d _ _ h => by cases d <;> exact h) (Ext.rfl' _) (fun _ => ?_)
      repeat (first | (refine rg_quiet rfl (by rfl) (by rfl) (fun K hK => ?_); go_big_quiet_op; refine hK _ ?_; clear hK K) | (refine rg_skip rfl (by rfl) (fun K hK => ?_); go_big_quiet_op; refine hK _ ?_; clear hK K))
      refine rg_nil ?_
      clear s2 r0
      generalize w3.drew = w4 at *
      go_wp2_with fail
      replace D := Lib.hid (D.out.ext (Ext.drew w4))
      replace T := Lib.hid (T.out.ext (Ext.drew w4))
      replace Y := Lib.hid (Y.out.ext (Ext.drew w4))
      replace O := Lib.hid (O.out.ext (Ext.drew w4))
      replace X := Lib.hid (X.out.tr (Ext.drew w4))
      have s1 := fun (q : Wrap (Ext w4.drew)) => Ext.cell q.h (Y.out.c 1 _ rfl)
      have s3 := fun (q : Wrap (Ext w4.drew)) => Ext.cell q.h (Y.out.c 3 _ rfl)
      have r1 := fun (q : Wrap (Ext w4.drew)) => Ext.cell q.h (D.out.c _ _ (grL_boot (me := tt) (bs := bs) (ps := ps) hF))
      try simp only at s1 s3
      by_cases hlt : bt < bs F
      · obtain rfl : R = .inr 7 := by rw [HR2.out, if_pos trivial, if_pos hlt]
        refine rg_start [0, 1, 2, 3, 4, 5, 6, 7, 8, 9, 10] (Ext w4.drew) (by kernel_rfl) (by kernel_rfl) (fun _ _ d _ _ h => by cases d <;> exact h) (Ext.rfl' _) (fun _ => ?_)
        repeat (first | (refine rg_quiet rfl (by rfl) (by rfl) (fun K hK => ?_); go_big_quiet_op; refine hK _ ?_; clear hK K) | (refine rg_skip rfl (by rfl) (fun K hK => ?_); go_big_quiet_op; refine hK _ ?_; clear hK K))
        refine rg_nil ?_
        clear s1 s3 r1
        generalize w4.drew = w5 at *
        have b0 := T.out.c 0 _ rfl
        have b1 := T.out.c 1 _ rfl
        have b2 := T.out.c 2 _ rfl
        have b3 := T.out.c 3 _ rfl
        have b4 := T.out.c 4 _ rfl
        have b5 := T.out.c 5 _ rfl
        have b6 := T.out.c 6 _ rfl
        have b7 := T.out.c 7 _ rfl
        have b8 := T.out.c 8 _ rfl
        have b9 := T.out.c 9 _ rfl
        have b10 := T.out.c 10 _ rfl
        have b11 := T.out.c 11 _ rfl
        have b12 := T.out.c 12 _ rfl
        try simp only at b0 b1 b2 b3 b4 b5 b6 b7 b8 b9 b10 b11 b12
        have bf := T.out.f
        go_wp2
        change bodyPost _ _ _ Exit.ret _ (fillV w5 w.heap.size 0 (msL zeroM none 0 0))
        have FB := Lib.hid (T.out.fill (vs := msL zeroM none 0 0) (Nat.le_refl _))
        have FG := Lib.hid (grown_fill (grown_ext X.out (some g)) (Nat.le_refl _) (msL zeroM none 0 0) 0)
        have FD := Lib.hid (D.out.other (fillV_grown w.heap.size (msL zeroM none 0 0) 0 w5 w5 (grown_refl _ _)) HNE.out)
        generalize fillV w5 w.heap.size 0 (msL zeroM none 0 0) = w9 at *
        have f0 := FB.out.c 0 _ rfl
        have f1 := FB.out.c 1 _ rfl
        have f2 := FB.out.c 2 _ rfl
        have f3 := FB.out.c 3 _ rfl
        have f4 := FB.out.c 4 _ rfl
        have f5 := FB.out.c 5 _ rfl
        have f6 := FB.out.c 6 _ rfl
        have f7 := FB.out.c 7 _ rfl
        have f8 := FB.out.c 8 _ rfl
        have f9 := FB.out.c 9 _ rfl
        have f10 := FB.out.c 10 _ rfl
        have f11 := FB.out.c 11 _ rfl
        have f12 := FB.out.c 12 _ rfl
        try simp only at f0 f1 f2 f3 f4 f5 f6 f7 f8 f9 f10 f11 f12
        simp only [zeroM] at f0 f1 f2 f3 f4 f5 f6 f7 f8 f9 f10 f11 f12
        exact bodyPost_ret (v := .tuple #[msV zeroM none 0 0, .int .i64 7]) (by simp [results, Try.results11, go_sem, f0, f1, f2, f3, f4, f5, f6, f7, f8, f9, f10, f11, f12, zeroM]) rfl ⟨rfl, FD.out, FG.out⟩
      · obtain rfl : R = .inl (⟨kd, F, tt, bt, vw, ls, mb, po, cm, nm, ck, ye⟩, L) := by rw [HR2.out, if_pos trivial, if_neg hlt]
        refine rg_start [0, 1, 2, 3, 4, 5, 6, 7, 8, 9, 10] (Ext w4.drew) (by kernel_rfl) (by kernel_rfl) (fun _ _ d _ _ h => by cases d <;> exact h) (Ext.rfl' _) (fun _ => ?_)
        repeat (first | (refine rg_quiet rfl (by rfl) (by rfl) (fun K hK => ?_); go_big_quiet_op; refine hK _ ?_; clear hK K) | (refine rg_skip rfl (by rfl) (fun K hK => ?_); go_big_quiet_op; refine hK _ ?_; clear hK K))
        refine rg_nil ?_
        clear s1 s3 r1
        generalize w4.drew = w5 at *
        go_wp2_with fail
        replace D := Lib.hid (D.out.ext (Ext.drew w5))
        replace T := Lib.hid (T.out.ext (Ext.drew w5))
        replace Y := Lib.hid (Y.out.ext (Ext.drew w5))
        replace O := Lib.hid (O.out.ext (Ext.drew w5))
        replace X := Lib.hid (X.out.tr (Ext.drew w5))
        have HYN : Hid ((some g : Option Nat) ≠ some y) := Lib.hid (by intro hh; injection hh with hh; have := HY.out; omega)
        have HTN : Hid ((some g : Option Nat) ≠ some w.heap.size) := Lib.hid (Ne.symm HNE.out)
        have s1 := fun (q : Wrap (fun x => w5.drew.grownBy x (some g))) => (Y.out.other q.h HYN.out).c 1 _ rfl
        have s3 := fun (q : Wrap (fun x => w5.drew.grownBy x (some g))) => (Y.out.other q.h HYN.out).c 3 _ rfl
        try simp only at s1 s3
        refine rg_start [0, 1, 2, 3, 4, 5, 6, 7, 8] (fun x => w5.drew.grownBy x (some g)) (by kernel_rfl) (by kernel_rfl) (fun _ _ d _ _ h => by cases d <;> exact h) (grown_refl _ _) (fun _ => ?_)
        generalize w5.drew = wd at *
        repeat (first | (refine rg_quiet rfl (by rfl) (by rfl) (fun K hK => ?_); go_big_quiet_op; refine hK _ ?_; clear hK K) | (refine rg_skip rfl (by rfl) (fun K hK => ?_); go_big_quiet_op; refine hK _ ?_; clear hK K))
        clear s1 s3
        have cb := D.out.c _ _ (grL_boot (me := tt) (bs := bs) (ps := ps) hF)
        have cf := D.out.f
        refine rg_call rfl (by rfl) (by rfl) (fun K hK => ?_)
        go_simp
        have G := Lib.hid (grown_put (grown_refl wd (some g)) (1 + F) (.int .i64 bt))
        have D2 : Hid (BoxV (wd.setCell ⟨g, 1 + F, none⟩ (.int .i64 bt)) base g (grL tt (updF bs F bt) ps)) := Lib.hid (by rw [← grL_setb hF]; exact D.out.put _ _)
        refine hK _ _ _ (fun _ h => h) G.out (fun _ => ?_)
        clear hK K cb cf
        refine rg_nil ?_
        replace T := Lib.hid (T.out.other G.out HTN.out)
        replace Y := Lib.hid (Y.out.other G.out HYN.out)
        replace O := Lib.hid (O.out.kept G.out (fun k hk => by
          cases hk
          intro hc
          have h1 := O.out.lt _ hc
          have h2 := HG.out
          omega))
        have XG := Lib.hid (grown_tr (grown_ext X.out (some g)) G.out)
        clear D X G
        generalize wd.setCell ⟨g, 1 + F, none⟩ (.int .i64 bt) = w6 at *
        have b0 := T.out.c 0 _ rfl
        have b1 := T.out.c 1 _ rfl
        have b2 := T.out.c 2 _ rfl
        have b3 := T.out.c 3 _ rfl
        have b4 := T.out.c 4 _ rfl
        have b5 := T.out.c 5 _ rfl
        have b6 := T.out.c 6 _ rfl
        have b7 := T.out.c 7 _ rfl
        have b8 := T.out.c 8 _ rfl
        have b9 := T.out.c 9 _ rfl
        have b10 := T.out.c 10 _ rfl
        have b11 := T.out.c 11 _ rfl
        have b12 := T.out.c 12 _ rfl
        try simp only at b0 b1 b2 b3 b4 b5 b6 b7 b8 b9 b10 b11 b12
        have bf := T.out.f
        have c0 := Y.out.c 0 _ rfl
        have c1 := Y.out.c 1 _ rfl
        have c2 := Y.out.c 2 _ rfl
        have c3 := Y.out.c 3 _ rfl
        have c4 := Y.out.c 4 _ rfl
        have c5 := Y.out.c 5 _ rfl
        have c6 := Y.out.c 6 _ rfl
        have c7 := Y.out.c 7 _ rfl
        have c8 := Y.out.c 8 _ rfl
        have c9 := Y.out.c 9 _ rfl
        have c10 := Y.out.c 10 _ rfl
        have c11 := Y.out.c 11 _ rfl
        have c12 := Y.out.c 12 _ rfl
        try simp only at c0 c1 c2 c3 c4 c5 c6 c7 c8 c9 c10 c11 c12
        go_wp2
        change bodyPost _ _ _ Exit.ret _ (fillV w6 w.heap.size 0 (msL ⟨kd, F, tt, bt, vw, ls, mb, po, cm, nm, ck, ye⟩ p2 L.length k2))
        have FB := Lib.hid (T.out.fill (vs := msL ⟨kd, F, tt, bt, vw, ls, mb, po, cm, nm, ck, ye⟩ p2 L.length k2) (Nat.le_refl _))
        have FG := Lib.hid (grown_fill XG.out (Nat.le_refl _) (msL ⟨kd, F, tt, bt, vw, ls, mb, po, cm, nm, ck, ye⟩ p2 L.length k2) 0)
        have FW := Lib.hid (fillV_grown w.heap.size (msL ⟨kd, F, tt, bt, vw, ls, mb, po, cm, nm, ck, ye⟩ p2 L.length k2) 0 w6 w6 (grown_refl _ _))
        have FD := Lib.hid (D2.out.other FW.out HNE.out)
        have FO := Lib.hid (O.out.kept FW.out (fun k hk => by
          cases hk
          intro hc
          exact absurd hc HOT.out))
        generalize fillV w6 w.heap.size 0 (msL ⟨kd, F, tt, bt, vw, ls, mb, po, cm, nm, ck, ye⟩ p2 L.length k2) = w9 at *
        have f0 := FB.out.c 0 _ rfl
        have f1 := FB.out.c 1 _ rfl
        have f2 := FB.out.c 2 _ rfl
        have f3 := FB.out.c 3 _ rfl
        have f4 := FB.out.c 4 _ rfl
        have f5 := FB.out.c 5 _ rfl
        have f6 := FB.out.c 6 _ rfl
        have f7 := FB.out.c 7 _ rfl
        have f8 := FB.out.c 8 _ rfl
        have f9 := FB.out.c 9 _ rfl
        have f10 := FB.out.c 10 _ rfl
        have f11 := FB.out.c 11 _ rfl
        have f12 := FB.out.c 12 _ rfl
        try simp only at f0 f1 f2 f3 f4 f5 f6 f7 f8 f9 f10 f11 f12
        exact bodyPost_ret (v := .tuple #[msV ⟨kd, F, tt, bt, vw, ls, mb, po, cm, nm, ck, ye⟩ p2 L.length k2, .int .i64 0]) (by simp [results, Try.results11, go_sem, f0, f1, f2, f3, f4, f5, f6, f7, f8, f9, f10, f11, f12]) rfl ⟨p2, k2, rfl, FO.out, LOK.out, MOK.out, by simp only [FT.out]; exact FD.out, FG.out⟩
    · obtain rfl : R = .inr 1 := by rw [HR2.out, if_neg ht]
      have f1 : (tt == me) = false := beq_eq_false_iff_ne.2 ht
      have f2 : (tt != me) = true := bne_iff_ne.2 ht
      refine rg_start [0, 1, 2, 3, 4, 5, 6, 7, 8, 9, 10, 11] (Ext w3.drew) (by kernel_rfl) (by kernel_rfl) (fun _ _ d _ _ h => by cases d <;> exact h) (Ext.rfl' _) (fun _ => ?_)
      repeat (first | (refine rg_quiet rfl (by rfl) (by rfl) (fun K hK => ?_); go_big_quiet_op; refine hK _ ?_; clear hK K) | (refine rg_skip rfl (by rfl) (fun K hK => ?_); go_big_quiet_op; refine hK _ ?_; clear hK K))
      refine rg_nil ?_
      clear s2 r0
      generalize w3.drew = w4 at *
      have b0 := T.out.c 0 _ rfl
      have b1 := T.out.c 1 _ rfl
      have b2 := T.out.c 2 _ rfl
      have b3 := T.out.c 3 _ rfl
      have b4 := T.out.c 4 _ rfl
      have b5 := T.out.c 5 _ rfl
      have b6 := T.out.c 6 _ rfl
      have b7 := T.out.c 7 _ rfl
      have b8 := T.out.c 8 _ rfl
      have b9 := T.out.c 9 _ rfl
      have b10 := T.out.c 10 _ rfl
      have b11 := T.out.c 11 _ rfl
      have b12 := T.out.c 12 _ rfl
      try simp only at b0 b1 b2 b3 b4 b5 b6 b7 b8 b9 b10 b11 b12
      have bf := T.out.f
      go_wp2
      change bodyPost _ _ _ Exit.ret _ (fillV w4 w.heap.size 0 (msL zeroM none 0 0))
      have FB := Lib.hid (T.out.fill (vs := msL zeroM none 0 0) (Nat.le_refl _))
      have FG := Lib.hid (grown_fill (grown_ext X.out (some g)) (Nat.le_refl _) (msL zeroM none 0 0) 0)
      have FD := Lib.hid (D.out.other (fillV_grown w.heap.size (msL zeroM none 0 0) 0 w4 w4 (grown_refl _ _)) HNE.out)
      generalize fillV w4 w.heap.size 0 (msL zeroM none 0 0) = w9 at *
      have f0 := FB.out.c 0 _ rfl
      have f1 := FB.out.c 1 _ rfl
      have f2 := FB.out.c 2 _ rfl
      have f3 := FB.out.c 3 _ rfl
      have f4 := FB.out.c 4 _ rfl
      have f5 := FB.out.c 5 _ rfl
      have f6 := FB.out.c 6 _ rfl
      have f7 := FB.out.c 7 _ rfl
      have f8 := FB.out.c 8 _ rfl
      have f9 := FB.out.c 9 _ rfl
      have f10 := FB.out.c 10 _ rfl
      have f11 := FB.out.c 11 _ rfl
      have f12 := FB.out.c 12 _ rfl
      try simp only at f0 f1 f2 f3 f4 f5 f6 f7 f8 f9 f10 f11 f12
      simp only [zeroM] at f0 f1 f2 f3 f4 f5 f6 f7 f8 f9 f10 f11 f12
      exact bodyPost_ret (v := .tuple #[msV zeroM none 0 0, .int .i64 1]) (by simp [results, Try.results11, go_sem, f0, f1, f2, f3, f4, f5, f6, f7, f8, f9, f10, f11, f12, zeroM]) rfl ⟨rfl, FD.out, FG.out⟩
end Go.Proofs.Ytbhgbkbdojhofaa
