/-
  The walk of GramWhole: whatever the message, the law returns true.
-/
import Derived.Test.YtbhgbkbdojhofaaGram4
import Derived.Test.YtbhgbkbdojhofaaRegion4
import Derived.Test.YtbhgbkbdojhofaaWire10
import Derived.Deep.CutBlock
import Derived.Deep.DeepCutAuto
namespace Go.Proofs.Ytbhgbkbdojhofaa
open Go Go.Sort Go.RowKit
set_option linter.unusedVariables false

set_option maxRecDepth 8000 in
set_option maxHeartbeats 16000000 in
theorem walk_GramWhole {m : MsD} {p : Option Addr} {n cap : Nat} {L : List EnD} {w : World} (o1 : MsOk m) (s1 : SlS 7 w p n cap (L.map enL)) (q1 : ∀ e ∈ L, EnOk e) :
    Calls Try.prog 7 #[msV m p n cap] w fun e w' => e = .returned (.bool true) ∧ Below w.heap.size w w' := by
  obtain ⟨w0, hw0⟩ : ∃ w0, w0 = w.alloc (.cells (msA m p n cap) 30) := ⟨_, rfl⟩
  have M : Hid (BoxV w0 w.heap.size w.heap.size (msL m p n cap)) := Lib.hid (by rw [hw0]; exact BoxV.new w w.heap.size (msA m p n cap) (msL m p n cap) 30 _ rfl (Nat.le_refl _) rfl)
  have X : Hid (Ext w w0) := Lib.hid (by rw [hw0]; exact Ext.alloc w _)
  have S := Lib.hid s1
  have HL := Lib.hid q1
  have OK := Lib.hid o1
  have HN := Lib.hid (en_len s1)
  have hnn : n ≤ 9223372036854775807 := Nat.le_trans s1.le s1.max
  clear s1 q1 o1
  go_enter Try.func7, Try.ntmps7
  go_wp2_with fail
  change Calls _ _ _ (w.alloc (.cells (msA m p n cap) 30)) _
  rw [← hw0]
  clear hw0
  refine (begun17 _).mono ?_
  rintro e w1 ⟨rfl, x1⟩
  replace X := Lib.hid (X.out.tr x1)
  replace M := Lib.hid (M.out.ext x1)
  clear x1
  have c0 := M.out.c 0 _ rfl
  have c1 := M.out.c 1 _ rfl
  have c2 := M.out.c 2 _ rfl
  have c3 := M.out.c 3 _ rfl
  have c4 := M.out.c 4 _ rfl
  have c5 := M.out.c 5 _ rfl
  have c6 := M.out.c 6 _ rfl
  have c7 := M.out.c 7 _ rfl
  have c8 := M.out.c 8 _ rfl
  have c9 := M.out.c 9 _ rfl
  have c10 := M.out.c 10 _ rfl
  have c11 := M.out.c 11 _ rfl
  have c12 := M.out.c 12 _ rfl
  try simp only at c0 c1 c2 c3 c4 c5 c6 c7 c8 c9 c10 c11 c12
  by_cases hn60 : 60 < n
  · go_wp2
    go_ret
    exact ⟨rfl, X.out⟩
  go_wp2_with fail
  try simp only [hn60, decide_false]
  clear c0 c1 c2 c3 c4 c5 c6 c7 c8 c9 c10 c11 c12
  refine (rmaym_any (S.out.ext X.out) HL.out).mono ?_
  rintro e w2 ⟨rfl, x2⟩
  replace X := Lib.hid (X.out.tr x2)
  replace M := Lib.hid (M.out.ext x2)
  clear x2 hn60 hnn
  cases hm : mayM m L
  · clear hm
    go_wp2
    go_ret
    exact ⟨rfl, X.out⟩
  obtain ⟨B, hB⟩ : ∃ B, B = encM m L := ⟨_, rfl⟩
  have HLEN : Hid (B.length ≤ 5294) := Lib.hid (by rw [hB]; exact encM_len OK.out HL.out)
  have HRR : Hid (∀ k : Int, hearR k zB B = if m.to = k then .inl (m, L) else .inr 1) := Lib.hid (fun k => by
    have hbt := (who_iff m).1 (mayM_iff.1 hm).1
    unfold hearR
    rw [hB, decM_enc OK.out HL.out hm]
    simp only
    split
    · rw [if_neg (show ¬ m.bt < zB m.fr.toNat by unfold zB; omega)]
    · rfl)
  have HB := Lib.hid hB
  clear hB hm
  go_wp2
  go_loopw [4] (fun i wr => ∃ k : Nat, 1 ≤ k ∧ k ≤ 8 ∧ i = .int .i64 (k : Int) ∧ BoxV wr w.heap.size w.heap.size (msL m p n cap) ∧ Ext w wr) (fun i _ => 8 - (intOf i).toNat)
  case atStart => exact ⟨1, by omega, by omega, rfl, M.out, X.out⟩
  case round =>
    obtain ⟨k, hk1, hk8, rfl, hmb, x1⟩ := hrel
    clear M X
    have M := Lib.hid hmb
    have X := Lib.hid x1
    clear hmb x1
    by_cases hk7 : (k : Int) ≤ 7
    · have HI : Hid (isI (k : Int) = true) := Lib.hid (by unfold isI; simp; omega)
      go_upto_region 9 with fail
      go_cut [5, 6] (fun s5 s6 wx => ∃ (y : Nat) (z : Int) (mm : MsD) (pp : Option Addr) (cc : Nat) (LL : List EnD), s5 = .pointer (some ⟨y, 0, none⟩) ∧ s6 = .int .i64 z ∧ BoxV wx w.heap.size w.heap.size (msL m p n cap) ∧ BoxV wx w.heap.size y (msL mm pp LL.length cc) ∧ SlS 7 wx pp LL.length cc (LL.map enL) ∧ Ext w wx ∧ ((m.to = (k : Int) ∧ z = 0 ∧ mm = m ∧ LL = L) ∨ (m.to ≠ (k : Int) ∧ z = 1)))
      case first =>
        replace M := Lib.hid (M.out.ext (Ext.drew wr))
        have XD := Lib.hid (X.out.tr (Ext.drew wr))
        replace S := Lib.hid (S.out.ext XD.out)
        obtain ⟨wd, hwd⟩ : ∃ wd, wd = wr.drew := ⟨_, rfl⟩
        rw [← hwd] at M XD S
        have r0 := fun (q : Wrap (Ext wd)) => Ext.cell q.h (M.out.c 0 _ rfl)
        have r1 := fun (q : Wrap (Ext wd)) => Ext.cell q.h (M.out.c 1 _ rfl)
        have r2 := fun (q : Wrap (Ext wd)) => Ext.cell q.h (M.out.c 2 _ rfl)
        have r3 := fun (q : Wrap (Ext wd)) => Ext.cell q.h (M.out.c 3 _ rfl)
        have r4 := fun (q : Wrap (Ext wd)) => Ext.cell q.h (M.out.c 4 _ rfl)
        have r5 := fun (q : Wrap (Ext wd)) => Ext.cell q.h (M.out.c 5 _ rfl)
        have r6 := fun (q : Wrap (Ext wd)) => Ext.cell q.h (M.out.c 6 _ rfl)
        have r7 := fun (q : Wrap (Ext wd)) => Ext.cell q.h (M.out.c 7 _ rfl)
        have r8 := fun (q : Wrap (Ext wd)) => Ext.cell q.h (M.out.c 8 _ rfl)
        have r9 := fun (q : Wrap (Ext wd)) => Ext.cell q.h (M.out.c 9 _ rfl)
        have r10 := fun (q : Wrap (Ext wd)) => Ext.cell q.h (M.out.c 10 _ rfl)
        have r11 := fun (q : Wrap (Ext wd)) => Ext.cell q.h (M.out.c 11 _ rfl)
        have r12 := fun (q : Wrap (Ext wd)) => Ext.cell q.h (M.out.c 12 _ rfl)
        try simp only at r0 r1 r2 r3 r4 r5 r6 r7 r8 r9 r10 r11 r12
        by_cases htk : m.to = (k : Int)
        · have HR : Hid (hearR (k : Int) zB B = .inl (m, L)) := Lib.hid (by rw [HRR.out, if_pos htk])
          have HTK := Lib.hid htk
          clear htk
          refine rf_start (.one 0 (.one 2 (.two 1 (.two 3 (.two 4 (.one 5 (.one 6 (.one 7 (.one 8 (.one 9 (.one 10 .fin)))))) 8 (.one 4 (.one 5 (.one 6 (.one 7 (.one 9 (.one 10 .fin))))))) 8 (.one 3 (.one 4 (.one 5 (.one 6 (.one 7 (.one 9 (.one 10 .fin)))))))) 8 (.one 1 (.one 3 (.one 4 (.one 5 (.one 6 (.one 7 (.one 9 (.one 10 .fin))))))))))) (Ext wd) (by kernel_rfl) (by kernel_rfl) (fun _ _ d _ _ h => by cases d <;> exact h) (by rw [← hwd]; exact Ext.rfl' _) (fun _ => ?_)
          rw [← hwd]
          clear hwd
          repeat (first | (refine rf_quiet rfl (by rfl) (by rfl) (fun K hK => ?_); go_big_quiet_op; refine hK _ ?_; clear hK K) | (refine rf_skip rfl (by rfl) (fun K hK => ?_); go_big_quiet_op; refine hK _ ?_; clear hK K))
          clear r0 r1 r2 r3 r4 r5 r6 r7 r8 r9 r10 r11 r12
          have E := Lib.hid (Ext.rfl' wd)
          refine rf_two rfl rfl (by rfl) (by rfl) (fun K hK => ?_) (fun K hK => ?_)
          · go_simp
            refine (gnew_any (k : Int) wd).mono ?_
            rintro e v1 ⟨hy, -, x⟩
            obtain ⟨rfl, d⟩ := hy HI.out
            refine hK _ _ _ (fun _ h => h) (E.out.tr x) (fun _ => ?_)
            clear hK K hy
            obtain ⟨g, hg⟩ : ∃ g, g = wd.heap.size := ⟨_, rfl⟩
            have D : Hid (BoxV v1 g g (grL (k : Int) zB zP)) := Lib.hid (by rw [hg]; exact d)
            have HG : Hid (wd.heap.size ≤ g) := Lib.hid (by rw [hg]; exact E.out.size)
            rw [← hg]
            clear hg
            replace E := Lib.hid (E.out.tr x)
            clear x d
            refine rf_two rfl rfl (by rfl) (by rfl) (fun K hK => ?_) (fun K hK => ?_)
            · go_simp
              refine (rbytesm_any OK.out (S.out.ext E.out) HL.out).mono ?_
              rw [← HB.out]
              rintro e v3 ⟨pb, kb, rfl, o, x⟩
              refine hK _ _ _ (fun _ h => h) (E.out.tr x) (fun _ => ?_)
              clear hK K
              have O := Lib.hid o.sl
              replace D := Lib.hid (D.out.ext x)
              replace E := Lib.hid (E.out.tr x)
              clear x o
              refine rf_two rfl rfl (by rfl) (by rfl) (fun K hK => ?_) (fun K hK => ?_)
              · go_simp
                have H := hear_any D.out O.out (by have := HLEN.out; omega)
                rw [HR.out] at H
                refine H.mono ?_
                rintro e v5 ⟨pz, kz, rfl, oz, zl, -, d, gz⟩
                have E2 : Hid (Ext wd v5) := Lib.hid (Below.trans E.out (grown_below gz HG.out E.out.size))
                refine hK _ _ _ (fun _ h => h) E2.out (fun _ => ?_)
                clear hK K H O d
                replace E := E2
                clear E2
                have OZ := Lib.hid oz
                have ZL := Lib.hid zl
                clear oz zl
                clear gz
                repeat (first | (refine rf_quiet rfl (by rfl) (by rfl) (fun K hK => ?_); go_big_quiet_op; refine hK _ ?_; clear hK K) | (refine rf_skip rfl (by rfl) (fun K hK => ?_); go_big_quiet_op; refine hK _ ?_; clear hK K))
                refine rf_call rfl (by rfl) (by rfl) (fun K hK => ?_)
                go_simp
                have A := Lib.hid (Ext.alloc v5 (.cells (msA zeroM none 0 0) 30))
                obtain ⟨y, hyy⟩ : ∃ y, y = v5.heap.size := ⟨_, rfl⟩
                have Y := Lib.hid (BoxV.new v5 w.heap.size (msA zeroM none 0 0) (msL zeroM none 0 0) 30 y hyy (by rw [hyy]; exact Nat.le_trans XD.out.size E.out.size) rfl)
                have HDY : Hid (wd.heap.size ≤ y) := Lib.hid (by rw [hyy]; exact E.out.size)
                refine hK _ _ _ (fun _ h => h) (E.out.tr A.out) (fun _ => ?_)
                clear hK K
                change RF _ _ _ _ _ _ (v5.alloc (.cells (msA zeroM none 0 0) 30))
                have HOY : Hid (∀ b, pz.map (·.block) = some b → b ≠ y) := Lib.hid (fun b hb => by have h1 := OZ.out.lt _ hb; rw [hyy]; omega)
                replace OZ := Lib.hid (OZ.out.ext A.out)
                try replace O := Lib.hid (O.out.ext A.out)
                replace E := Lib.hid (E.out.tr A.out)
                rw [← hyy]
                generalize v5.alloc (.cells (msA zeroM none 0 0) 30) = v7 at *
                clear hyy A
                have b0 := Y.out.c 0 _ rfl
                have b1 := Y.out.c 1 _ rfl
                have b2 := Y.out.c 2 _ rfl
                have b3 := Y.out.c 3 _ rfl
                have b4 := Y.out.c 4 _ rfl
                have b5 := Y.out.c 5 _ rfl
                have b6 := Y.out.c 6 _ rfl
                have b7 := Y.out.c 7 _ rfl
                have b8 := Y.out.c 8 _ rfl
                have b9 := Y.out.c 9 _ rfl
                have b10 := Y.out.c 10 _ rfl
                have b11 := Y.out.c 11 _ rfl
                have b12 := Y.out.c 12 _ rfl
                try simp only at b0 b1 b2 b3 b4 b5 b6 b7 b8 b9 b10 b11 b12
                have bf := Y.out.f
                refine rf_call rfl (by rfl) (by rfl) (fun K hK => ?_)
                go_simp
                have FB := Lib.hid (Y.out.fill (vs := msL m pz L.length kz) (Nat.le_refl _))
                have FX : Hid (Ext wd (fillV v7 y 0 (msL m pz L.length kz))) := Lib.hid (fillV_below E.out HDY.out (msL m pz L.length kz) 0)
                have FO := Lib.hid (OZ.out.kept (fillV_grown y (msL m pz L.length kz) 0 v7 v7 (grown_refl _ _)) (fun b hb => by cases hb; intro hc; exact HOY.out _ hc rfl))
                refine hK _ _ (fillV v7 y 0 (msL m pz L.length kz)) (fun _ h => h) FX.out (fun _ => ?_)
                clear hK K bf
                clear b0 b1 b2 b3 b4 b5 b6 b7 b8 b9 b10 b11 b12
                generalize fillV v7 y 0 (msL m pz L.length kz) = vz at *
                repeat (first | (refine rf_quiet rfl (by rfl) (by rfl) (fun K hK => ?_); go_big_quiet_op; refine hK _ ?_; clear hK K) | (refine rf_skip rfl (by rfl) (fun K hK => ?_); go_big_quiet_op; refine hK _ ?_; clear hK K))
                refine rf_nil ?_
                go_wp2_with fail
                go_meet
                exact ⟨y, 0, m, pz, kz, L, rfl, rfl, M.out.ext FX.out, FB.out, FO.out.sl, XD.out.tr FX.out, Or.inl ⟨HTK.out, rfl, rfl, rfl⟩⟩
              · go_simp
                have A := Lib.hid (Ext.alloc v3 (.cells (msA zeroM none 0 0) 30))
                obtain ⟨y, hyy⟩ : ∃ y, y = v3.heap.size := ⟨_, rfl⟩
                have Y := Lib.hid (BoxV.new v3 w.heap.size (msA zeroM none 0 0) (msL zeroM none 0 0) 30 y hyy (by rw [hyy]; exact Nat.le_trans XD.out.size E.out.size) rfl)
                have HDY : Hid (wd.heap.size ≤ y) := Lib.hid (by rw [hyy]; exact E.out.size)
                refine hK _ _ _ (fun _ h => h) (E.out.tr A.out) (fun _ => ?_)
                clear hK K
                change RF _ _ _ _ _ _ (v3.alloc (.cells (msA zeroM none 0 0) 30))
                have HYG : Hid (g ≠ y) := Lib.hid (by rw [hyy]; have := D.out.hi; omega)
                replace D := Lib.hid (D.out.ext A.out)
                try replace O := Lib.hid (O.out.ext A.out)
                replace E := Lib.hid (E.out.tr A.out)
                rw [← hyy]
                generalize v3.alloc (.cells (msA zeroM none 0 0) 30) = v6 at *
                clear hyy A
                refine rf_call rfl (by rfl) (by rfl) (fun K hK => ?_)
                go_simp
                have H := hear_any D.out O.out (by have := HLEN.out; omega)
                rw [HR.out] at H
                refine H.mono ?_
                rintro e v8 ⟨pz, kz, rfl, oz, zl, -, d, gz⟩
                have E2 : Hid (Ext wd v8) := Lib.hid (Below.trans E.out (grown_below gz HG.out E.out.size))
                refine hK _ _ _ (fun _ h => h) E2.out (fun _ => ?_)
                clear hK K H O d
                replace E := E2
                clear E2
                have HOY : Hid (∀ b, pz.map (·.block) = some b → b ≠ y) := Lib.hid (fun b hb => by have h1 := oz.lt _ hb; have h2 := Y.out.hi; omega)
                have OZ := Lib.hid oz
                have ZL := Lib.hid zl
                clear oz zl
                replace Y := Lib.hid (Y.out.other gz (by intro hh; injection hh with hh; exact HYG.out hh))
                clear gz
                repeat (first | (refine rf_quiet rfl (by rfl) (by rfl) (fun K hK => ?_); go_big_quiet_op; refine hK _ ?_; clear hK K) | (refine rf_skip rfl (by rfl) (fun K hK => ?_); go_big_quiet_op; refine hK _ ?_; clear hK K))
                have b0 := Y.out.c 0 _ rfl
                have b1 := Y.out.c 1 _ rfl
                have b2 := Y.out.c 2 _ rfl
                have b3 := Y.out.c 3 _ rfl
                have b4 := Y.out.c 4 _ rfl
                have b5 := Y.out.c 5 _ rfl
                have b6 := Y.out.c 6 _ rfl
                have b7 := Y.out.c 7 _ rfl
                have b8 := Y.out.c 8 _ rfl
                have b9 := Y.out.c 9 _ rfl
                have b10 := Y.out.c 10 _ rfl
                have b11 := Y.out.c 11 _ rfl
                have b12 := Y.out.c 12 _ rfl
                try simp only at b0 b1 b2 b3 b4 b5 b6 b7 b8 b9 b10 b11 b12
                have bf := Y.out.f
                refine rf_call rfl (by rfl) (by rfl) (fun K hK => ?_)
                go_simp
                have FB := Lib.hid (Y.out.fill (vs := msL m pz L.length kz) (Nat.le_refl _))
                have FX : Hid (Ext wd (fillV v8 y 0 (msL m pz L.length kz))) := Lib.hid (fillV_below E.out HDY.out (msL m pz L.length kz) 0)
                have FO := Lib.hid (OZ.out.kept (fillV_grown y (msL m pz L.length kz) 0 v8 v8 (grown_refl _ _)) (fun b hb => by cases hb; intro hc; exact HOY.out _ hc rfl))
                refine hK _ _ (fillV v8 y 0 (msL m pz L.length kz)) (fun _ h => h) FX.out (fun _ => ?_)
                clear hK K bf
                clear b0 b1 b2 b3 b4 b5 b6 b7 b8 b9 b10 b11 b12
                generalize fillV v8 y 0 (msL m pz L.length kz) = vz at *
                repeat (first | (refine rf_quiet rfl (by rfl) (by rfl) (fun K hK => ?_); go_big_quiet_op; refine hK _ ?_; clear hK K) | (refine rf_skip rfl (by rfl) (fun K hK => ?_); go_big_quiet_op; refine hK _ ?_; clear hK K))
                refine rf_nil ?_
                go_wp2_with fail
                go_meet
                exact ⟨y, 0, m, pz, kz, L, rfl, rfl, M.out.ext FX.out, FB.out, FO.out.sl, XD.out.tr FX.out, Or.inl ⟨HTK.out, rfl, rfl, rfl⟩⟩
            · go_simp
              have A := Lib.hid (Ext.alloc v1 (.cells (msA zeroM none 0 0) 30))
              obtain ⟨y, hyy⟩ : ∃ y, y = v1.heap.size := ⟨_, rfl⟩
              have Y := Lib.hid (BoxV.new v1 w.heap.size (msA zeroM none 0 0) (msL zeroM none 0 0) 30 y hyy (by rw [hyy]; exact Nat.le_trans XD.out.size E.out.size) rfl)
              have HDY : Hid (wd.heap.size ≤ y) := Lib.hid (by rw [hyy]; exact E.out.size)
              refine hK _ _ _ (fun _ h => h) (E.out.tr A.out) (fun _ => ?_)
              clear hK K
              change RF _ _ _ _ _ _ (v1.alloc (.cells (msA zeroM none 0 0) 30))
              have HYG : Hid (g ≠ y) := Lib.hid (by rw [hyy]; have := D.out.hi; omega)
              replace D := Lib.hid (D.out.ext A.out)
              replace E := Lib.hid (E.out.tr A.out)
              rw [← hyy]
              generalize v1.alloc (.cells (msA zeroM none 0 0) 30) = v4 at *
              clear hyy A
              refine rf_call rfl (by rfl) (by rfl) (fun K hK => ?_)
              go_simp
              refine (rbytesm_any OK.out (S.out.ext E.out) HL.out).mono ?_
              rw [← HB.out]
              rintro e v9 ⟨pb, kb, rfl, o, x⟩
              refine hK _ _ _ (fun _ h => h) (E.out.tr x) (fun _ => ?_)
              clear hK K
              have O := Lib.hid o.sl
              replace D := Lib.hid (D.out.ext x)
              replace E := Lib.hid (E.out.tr x)
              replace Y := Lib.hid (Y.out.ext x)
              clear x o
              refine rf_call rfl (by rfl) (by rfl) (fun K hK => ?_)
              go_simp
              have H := hear_any D.out O.out (by have := HLEN.out; omega)
              rw [HR.out] at H
              refine H.mono ?_
              rintro e v10 ⟨pz, kz, rfl, oz, zl, -, d, gz⟩
              have E2 : Hid (Ext wd v10) := Lib.hid (Below.trans E.out (grown_below gz HG.out E.out.size))
              refine hK _ _ _ (fun _ h => h) E2.out (fun _ => ?_)
              clear hK K H O d
              replace E := E2
              clear E2
              have HOY : Hid (∀ b, pz.map (·.block) = some b → b ≠ y) := Lib.hid (fun b hb => by have h1 := oz.lt _ hb; have h2 := Y.out.hi; omega)
              have OZ := Lib.hid oz
              have ZL := Lib.hid zl
              clear oz zl
              replace Y := Lib.hid (Y.out.other gz (by intro hh; injection hh with hh; exact HYG.out hh))
              clear gz
              repeat (first | (refine rf_quiet rfl (by rfl) (by rfl) (fun K hK => ?_); go_big_quiet_op; refine hK _ ?_; clear hK K) | (refine rf_skip rfl (by rfl) (fun K hK => ?_); go_big_quiet_op; refine hK _ ?_; clear hK K))
              have b0 := Y.out.c 0 _ rfl
              have b1 := Y.out.c 1 _ rfl
              have b2 := Y.out.c 2 _ rfl
              have b3 := Y.out.c 3 _ rfl
              have b4 := Y.out.c 4 _ rfl
              have b5 := Y.out.c 5 _ rfl
              have b6 := Y.out.c 6 _ rfl
              have b7 := Y.out.c 7 _ rfl
              have b8 := Y.out.c 8 _ rfl
              have b9 := Y.out.c 9 _ rfl
              have b10 := Y.out.c 10 _ rfl
              have b11 := Y.out.c 11 _ rfl
              have b12 := Y.out.c 12 _ rfl
              try simp only at b0 b1 b2 b3 b4 b5 b6 b7 b8 b9 b10 b11 b12
              have bf := Y.out.f
              refine rf_call rfl (by rfl) (by rfl) (fun K hK => ?_)
              go_simp
              have FB := Lib.hid (Y.out.fill (vs := msL m pz L.length kz) (Nat.le_refl _))
              have FX : Hid (Ext wd (fillV v10 y 0 (msL m pz L.length kz))) := Lib.hid (fillV_below E.out HDY.out (msL m pz L.length kz) 0)
              have FO := Lib.hid (OZ.out.kept (fillV_grown y (msL m pz L.length kz) 0 v10 v10 (grown_refl _ _)) (fun b hb => by cases hb; intro hc; exact HOY.out _ hc rfl))
              refine hK _ _ (fillV v10 y 0 (msL m pz L.length kz)) (fun _ h => h) FX.out (fun _ => ?_)
              clear hK K bf
              clear b0 b1 b2 b3 b4 b5 b6 b7 b8 b9 b10 b11 b12
              generalize fillV v10 y 0 (msL m pz L.length kz) = vz at *
              repeat (first | (refine rf_quiet rfl (by rfl) (by rfl) (fun K hK => ?_); go_big_quiet_op; refine hK _ ?_; clear hK K) | (refine rf_skip rfl (by rfl) (fun K hK => ?_); go_big_quiet_op; refine hK _ ?_; clear hK K))
              refine rf_nil ?_
              go_wp2_with fail
              go_meet
              exact ⟨y, 0, m, pz, kz, L, rfl, rfl, M.out.ext FX.out, FB.out, FO.out.sl, XD.out.tr FX.out, Or.inl ⟨HTK.out, rfl, rfl, rfl⟩⟩
          · go_simp
            have A := Lib.hid (Ext.alloc wd (.cells (msA zeroM none 0 0) 30))
            obtain ⟨y, hyy⟩ : ∃ y, y = wd.heap.size := ⟨_, rfl⟩
            have Y := Lib.hid (BoxV.new wd w.heap.size (msA zeroM none 0 0) (msL zeroM none 0 0) 30 y hyy (by rw [hyy]; exact Nat.le_trans XD.out.size E.out.size) rfl)
            have HDY : Hid (wd.heap.size ≤ y) := Lib.hid (by rw [hyy]; exact E.out.size)
            refine hK _ _ _ (fun _ h => h) (E.out.tr A.out) (fun _ => ?_)
            clear hK K
            change RF _ _ _ _ _ _ (wd.alloc (.cells (msA zeroM none 0 0) 30))
            replace E := Lib.hid (E.out.tr A.out)
            rw [← hyy]
            generalize wd.alloc (.cells (msA zeroM none 0 0) 30) = v2 at *
            clear hyy A
            refine rf_call rfl (by rfl) (by rfl) (fun K hK => ?_)
            go_simp
            refine (gnew_any (k : Int) v2).mono ?_
            rintro e v11 ⟨hy, -, x⟩
            obtain ⟨rfl, d⟩ := hy HI.out
            refine hK _ _ _ (fun _ h => h) (E.out.tr x) (fun _ => ?_)
            clear hK K hy
            obtain ⟨g, hg⟩ : ∃ g, g = v2.heap.size := ⟨_, rfl⟩
            have D : Hid (BoxV v11 g g (grL (k : Int) zB zP)) := Lib.hid (by rw [hg]; exact d)
            have HG : Hid (wd.heap.size ≤ g) := Lib.hid (by rw [hg]; exact E.out.size)
            have HYG : Hid (g ≠ y) := Lib.hid (by rw [hg]; have := Y.out.hi; omega)
            replace Y := Lib.hid (Y.out.ext x)
            rw [← hg]
            clear hg
            replace E := Lib.hid (E.out.tr x)
            clear x d
            refine rf_call rfl (by rfl) (by rfl) (fun K hK => ?_)
            go_simp
            refine (rbytesm_any OK.out (S.out.ext E.out) HL.out).mono ?_
            rw [← HB.out]
            rintro e v12 ⟨pb, kb, rfl, o, x⟩
            refine hK _ _ _ (fun _ h => h) (E.out.tr x) (fun _ => ?_)
            clear hK K
            have O := Lib.hid o.sl
            replace D := Lib.hid (D.out.ext x)
            replace E := Lib.hid (E.out.tr x)
            replace Y := Lib.hid (Y.out.ext x)
            clear x o
            refine rf_call rfl (by rfl) (by rfl) (fun K hK => ?_)
            go_simp
            have H := hear_any D.out O.out (by have := HLEN.out; omega)
            rw [HR.out] at H
            refine H.mono ?_
            rintro e v13 ⟨pz, kz, rfl, oz, zl, -, d, gz⟩
            have E2 : Hid (Ext wd v13) := Lib.hid (Below.trans E.out (grown_below gz HG.out E.out.size))
            refine hK _ _ _ (fun _ h => h) E2.out (fun _ => ?_)
            clear hK K H O d
            replace E := E2
            clear E2
            have HOY : Hid (∀ b, pz.map (·.block) = some b → b ≠ y) := Lib.hid (fun b hb => by have h1 := oz.lt _ hb; have h2 := Y.out.hi; omega)
            have OZ := Lib.hid oz
            have ZL := Lib.hid zl
            clear oz zl
            replace Y := Lib.hid (Y.out.other gz (by intro hh; injection hh with hh; exact HYG.out hh))
            clear gz
            repeat (first | (refine rf_quiet rfl (by rfl) (by rfl) (fun K hK => ?_); go_big_quiet_op; refine hK _ ?_; clear hK K) | (refine rf_skip rfl (by rfl) (fun K hK => ?_); go_big_quiet_op; refine hK _ ?_; clear hK K))
            have b0 := Y.out.c 0 _ rfl
            have b1 := Y.out.c 1 _ rfl
            have b2 := Y.out.c 2 _ rfl
            have b3 := Y.out.c 3 _ rfl
            have b4 := Y.out.c 4 _ rfl
            have b5 := Y.out.c 5 _ rfl
            have b6 := Y.out.c 6 _ rfl
            have b7 := Y.out.c 7 _ rfl
            have b8 := Y.out.c 8 _ rfl
            have b9 := Y.out.c 9 _ rfl
            have b10 := Y.out.c 10 _ rfl
            have b11 := Y.out.c 11 _ rfl
            have b12 := Y.out.c 12 _ rfl
            try simp only at b0 b1 b2 b3 b4 b5 b6 b7 b8 b9 b10 b11 b12
            have bf := Y.out.f
            refine rf_call rfl (by rfl) (by rfl) (fun K hK => ?_)
            go_simp
            have FB := Lib.hid (Y.out.fill (vs := msL m pz L.length kz) (Nat.le_refl _))
            have FX : Hid (Ext wd (fillV v13 y 0 (msL m pz L.length kz))) := Lib.hid (fillV_below E.out HDY.out (msL m pz L.length kz) 0)
            have FO := Lib.hid (OZ.out.kept (fillV_grown y (msL m pz L.length kz) 0 v13 v13 (grown_refl _ _)) (fun b hb => by cases hb; intro hc; exact HOY.out _ hc rfl))
            refine hK _ _ (fillV v13 y 0 (msL m pz L.length kz)) (fun _ h => h) FX.out (fun _ => ?_)
            clear hK K bf
            clear b0 b1 b2 b3 b4 b5 b6 b7 b8 b9 b10 b11 b12
            generalize fillV v13 y 0 (msL m pz L.length kz) = vz at *
            repeat (first | (refine rf_quiet rfl (by rfl) (by rfl) (fun K hK => ?_); go_big_quiet_op; refine hK _ ?_; clear hK K) | (refine rf_skip rfl (by rfl) (fun K hK => ?_); go_big_quiet_op; refine hK _ ?_; clear hK K))
            refine rf_nil ?_
            go_wp2_with fail
            go_meet
            exact ⟨y, 0, m, pz, kz, L, rfl, rfl, M.out.ext FX.out, FB.out, FO.out.sl, XD.out.tr FX.out, Or.inl ⟨HTK.out, rfl, rfl, rfl⟩⟩
        · have HR : Hid (hearR (k : Int) zB B = .inr 1) := Lib.hid (by rw [HRR.out, if_neg htk])
          have HTK := Lib.hid htk
          clear htk
          refine rf_start (.one 0 (.one 2 (.two 1 (.two 3 (.two 4 (.one 5 (.one 6 (.one 7 (.one 8 (.one 9 (.one 10 .fin)))))) 8 (.one 4 (.one 5 (.one 6 (.one 7 (.one 9 (.one 10 .fin))))))) 8 (.one 3 (.one 4 (.one 5 (.one 6 (.one 7 (.one 9 (.one 10 .fin)))))))) 8 (.one 1 (.one 3 (.one 4 (.one 5 (.one 6 (.one 7 (.one 9 (.one 10 .fin))))))))))) (Ext wd) (by kernel_rfl) (by kernel_rfl) (fun _ _ d _ _ h => by cases d <;> exact h) (by rw [← hwd]; exact Ext.rfl' _) (fun _ => ?_)
          rw [← hwd]
          clear hwd
          repeat (first | (refine rf_quiet rfl (by rfl) (by rfl) (fun K hK => ?_); go_big_quiet_op; refine hK _ ?_; clear hK K) | (refine rf_skip rfl (by rfl) (fun K hK => ?_); go_big_quiet_op; refine hK _ ?_; clear hK K))
          clear r0 r1 r2 r3 r4 r5 r6 r7 r8 r9 r10 r11 r12
          have E := Lib.hid (Ext.rfl' wd)
          refine rf_two rfl rfl (by rfl) (by rfl) (fun K hK => ?_) (fun K hK => ?_)
          · go_simp
            refine (gnew_any (k : Int) wd).mono ?_
            rintro e v14 ⟨hy, -, x⟩
            obtain ⟨rfl, d⟩ := hy HI.out
            refine hK _ _ _ (fun _ h => h) (E.out.tr x) (fun _ => ?_)
            clear hK K hy
            obtain ⟨g, hg⟩ : ∃ g, g = wd.heap.size := ⟨_, rfl⟩
            have D : Hid (BoxV v14 g g (grL (k : Int) zB zP)) := Lib.hid (by rw [hg]; exact d)
            have HG : Hid (wd.heap.size ≤ g) := Lib.hid (by rw [hg]; exact E.out.size)
            rw [← hg]
            clear hg
            replace E := Lib.hid (E.out.tr x)
            clear x d
            refine rf_two rfl rfl (by rfl) (by rfl) (fun K hK => ?_) (fun K hK => ?_)
            · go_simp
              refine (rbytesm_any OK.out (S.out.ext E.out) HL.out).mono ?_
              rw [← HB.out]
              rintro e v16 ⟨pb, kb, rfl, o, x⟩
              refine hK _ _ _ (fun _ h => h) (E.out.tr x) (fun _ => ?_)
              clear hK K
              have O := Lib.hid o.sl
              replace D := Lib.hid (D.out.ext x)
              replace E := Lib.hid (E.out.tr x)
              clear x o
              refine rf_two rfl rfl (by rfl) (by rfl) (fun K hK => ?_) (fun K hK => ?_)
              · go_simp
                have H := hear_any D.out O.out (by have := HLEN.out; omega)
                rw [HR.out] at H
                refine H.mono ?_
                rintro e v18 ⟨rfl, d, gz⟩
                have E2 : Hid (Ext wd v18) := Lib.hid (Below.trans E.out (grown_below gz HG.out E.out.size))
                refine hK _ _ _ (fun _ h => h) E2.out (fun _ => ?_)
                clear hK K H O d
                replace E := E2
                clear E2
                clear gz
                repeat (first | (refine rf_quiet rfl (by rfl) (by rfl) (fun K hK => ?_); go_big_quiet_op; refine hK _ ?_; clear hK K) | (refine rf_skip rfl (by rfl) (fun K hK => ?_); go_big_quiet_op; refine hK _ ?_; clear hK K))
                refine rf_call rfl (by rfl) (by rfl) (fun K hK => ?_)
                go_simp
                have A := Lib.hid (Ext.alloc v18 (.cells (msA zeroM none 0 0) 30))
                obtain ⟨y, hyy⟩ : ∃ y, y = v18.heap.size := ⟨_, rfl⟩
                have Y := Lib.hid (BoxV.new v18 w.heap.size (msA zeroM none 0 0) (msL zeroM none 0 0) 30 y hyy (by rw [hyy]; exact Nat.le_trans XD.out.size E.out.size) rfl)
                have HDY : Hid (wd.heap.size ≤ y) := Lib.hid (by rw [hyy]; exact E.out.size)
                refine hK _ _ _ (fun _ h => h) (E.out.tr A.out) (fun _ => ?_)
                clear hK K
                change RF _ _ _ _ _ _ (v18.alloc (.cells (msA zeroM none 0 0) 30))
                try replace O := Lib.hid (O.out.ext A.out)
                replace E := Lib.hid (E.out.tr A.out)
                rw [← hyy]
                generalize v18.alloc (.cells (msA zeroM none 0 0) 30) = v20 at *
                clear hyy A
                have b0 := Y.out.c 0 _ rfl
                have b1 := Y.out.c 1 _ rfl
                have b2 := Y.out.c 2 _ rfl
                have b3 := Y.out.c 3 _ rfl
                have b4 := Y.out.c 4 _ rfl
                have b5 := Y.out.c 5 _ rfl
                have b6 := Y.out.c 6 _ rfl
                have b7 := Y.out.c 7 _ rfl
                have b8 := Y.out.c 8 _ rfl
                have b9 := Y.out.c 9 _ rfl
                have b10 := Y.out.c 10 _ rfl
                have b11 := Y.out.c 11 _ rfl
                have b12 := Y.out.c 12 _ rfl
                try simp only at b0 b1 b2 b3 b4 b5 b6 b7 b8 b9 b10 b11 b12
                have bf := Y.out.f
                simp only [zeroM]
                refine rf_call rfl (by rfl) (by rfl) (fun K hK => ?_)
                go_simp
                have FB := Lib.hid (Y.out.fill (vs := msL zeroM none 0 0) (Nat.le_refl _))
                have FX : Hid (Ext wd (fillV v20 y 0 (msL zeroM none 0 0))) := Lib.hid (fillV_below E.out HDY.out (msL zeroM none 0 0) 0)
                refine hK _ _ (fillV v20 y 0 (msL zeroM none 0 0)) (fun _ h => h) FX.out (fun _ => ?_)
                clear hK K bf
                clear b0 b1 b2 b3 b4 b5 b6 b7 b8 b9 b10 b11 b12
                generalize fillV v20 y 0 (msL zeroM none 0 0) = vz at *
                repeat (first | (refine rf_quiet rfl (by rfl) (by rfl) (fun K hK => ?_); go_big_quiet_op; refine hK _ ?_; clear hK K) | (refine rf_skip rfl (by rfl) (fun K hK => ?_); go_big_quiet_op; refine hK _ ?_; clear hK K))
                refine rf_nil ?_
                go_wp2_with fail
                go_meet
                exact ⟨y, 1, zeroM, none, 0, [], rfl, rfl, M.out.ext FX.out, FB.out, SlS.empty 7 _, XD.out.tr FX.out, Or.inr ⟨HTK.out, rfl⟩⟩
              · go_simp
                have A := Lib.hid (Ext.alloc v16 (.cells (msA zeroM none 0 0) 30))
                obtain ⟨y, hyy⟩ : ∃ y, y = v16.heap.size := ⟨_, rfl⟩
                have Y := Lib.hid (BoxV.new v16 w.heap.size (msA zeroM none 0 0) (msL zeroM none 0 0) 30 y hyy (by rw [hyy]; exact Nat.le_trans XD.out.size E.out.size) rfl)
                have HDY : Hid (wd.heap.size ≤ y) := Lib.hid (by rw [hyy]; exact E.out.size)
                refine hK _ _ _ (fun _ h => h) (E.out.tr A.out) (fun _ => ?_)
                clear hK K
                change RF _ _ _ _ _ _ (v16.alloc (.cells (msA zeroM none 0 0) 30))
                have HYG : Hid (g ≠ y) := Lib.hid (by rw [hyy]; have := D.out.hi; omega)
                replace D := Lib.hid (D.out.ext A.out)
                try replace O := Lib.hid (O.out.ext A.out)
                replace E := Lib.hid (E.out.tr A.out)
                rw [← hyy]
                generalize v16.alloc (.cells (msA zeroM none 0 0) 30) = v19 at *
                clear hyy A
                refine rf_call rfl (by rfl) (by rfl) (fun K hK => ?_)
                go_simp
                have H := hear_any D.out O.out (by have := HLEN.out; omega)
                rw [HR.out] at H
                refine H.mono ?_
                rintro e v21 ⟨rfl, d, gz⟩
                have E2 : Hid (Ext wd v21) := Lib.hid (Below.trans E.out (grown_below gz HG.out E.out.size))
                refine hK _ _ _ (fun _ h => h) E2.out (fun _ => ?_)
                clear hK K H O d
                replace E := E2
                clear E2
                replace Y := Lib.hid (Y.out.other gz (by intro hh; injection hh with hh; exact HYG.out hh))
                clear gz
                repeat (first | (refine rf_quiet rfl (by rfl) (by rfl) (fun K hK => ?_); go_big_quiet_op; refine hK _ ?_; clear hK K) | (refine rf_skip rfl (by rfl) (fun K hK => ?_); go_big_quiet_op; refine hK _ ?_; clear hK K))
                have b0 := Y.out.c 0 _ rfl
                have b1 := Y.out.c 1 _ rfl
                have b2 := Y.out.c 2 _ rfl
                have b3 := Y.out.c 3 _ rfl
                have b4 := Y.out.c 4 _ rfl
                have b5 := Y.out.c 5 _ rfl
                have b6 := Y.out.c 6 _ rfl
                have b7 := Y.out.c 7 _ rfl
                have b8 := Y.out.c 8 _ rfl
                have b9 := Y.out.c 9 _ rfl
                have b10 := Y.out.c 10 _ rfl
                have b11 := Y.out.c 11 _ rfl
                have b12 := Y.out.c 12 _ rfl
                try simp only at b0 b1 b2 b3 b4 b5 b6 b7 b8 b9 b10 b11 b12
                have bf := Y.out.f
                simp only [zeroM]
                refine rf_call rfl (by rfl) (by rfl) (fun K hK => ?_)
                go_simp
                have FB := Lib.hid (Y.out.fill (vs := msL zeroM none 0 0) (Nat.le_refl _))
                have FX : Hid (Ext wd (fillV v21 y 0 (msL zeroM none 0 0))) := Lib.hid (fillV_below E.out HDY.out (msL zeroM none 0 0) 0)
                refine hK _ _ (fillV v21 y 0 (msL zeroM none 0 0)) (fun _ h => h) FX.out (fun _ => ?_)
                clear hK K bf
                clear b0 b1 b2 b3 b4 b5 b6 b7 b8 b9 b10 b11 b12
                generalize fillV v21 y 0 (msL zeroM none 0 0) = vz at *
                repeat (first | (refine rf_quiet rfl (by rfl) (by rfl) (fun K hK => ?_); go_big_quiet_op; refine hK _ ?_; clear hK K) | (refine rf_skip rfl (by rfl) (fun K hK => ?_); go_big_quiet_op; refine hK _ ?_; clear hK K))
                refine rf_nil ?_
                go_wp2_with fail
                go_meet
                exact ⟨y, 1, zeroM, none, 0, [], rfl, rfl, M.out.ext FX.out, FB.out, SlS.empty 7 _, XD.out.tr FX.out, Or.inr ⟨HTK.out, rfl⟩⟩
            · go_simp
              have A := Lib.hid (Ext.alloc v14 (.cells (msA zeroM none 0 0) 30))
              obtain ⟨y, hyy⟩ : ∃ y, y = v14.heap.size := ⟨_, rfl⟩
              have Y := Lib.hid (BoxV.new v14 w.heap.size (msA zeroM none 0 0) (msL zeroM none 0 0) 30 y hyy (by rw [hyy]; exact Nat.le_trans XD.out.size E.out.size) rfl)
              have HDY : Hid (wd.heap.size ≤ y) := Lib.hid (by rw [hyy]; exact E.out.size)
              refine hK _ _ _ (fun _ h => h) (E.out.tr A.out) (fun _ => ?_)
              clear hK K
              change RF _ _ _ _ _ _ (v14.alloc (.cells (msA zeroM none 0 0) 30))
              have HYG : Hid (g ≠ y) := Lib.hid (by rw [hyy]; have := D.out.hi; omega)
              replace D := Lib.hid (D.out.ext A.out)
              replace E := Lib.hid (E.out.tr A.out)
              rw [← hyy]
              generalize v14.alloc (.cells (msA zeroM none 0 0) 30) = v17 at *
              clear hyy A
              refine rf_call rfl (by rfl) (by rfl) (fun K hK => ?_)
              go_simp
              refine (rbytesm_any OK.out (S.out.ext E.out) HL.out).mono ?_
              rw [← HB.out]
              rintro e v22 ⟨pb, kb, rfl, o, x⟩
              refine hK _ _ _ (fun _ h => h) (E.out.tr x) (fun _ => ?_)
              clear hK K
              have O := Lib.hid o.sl
              replace D := Lib.hid (D.out.ext x)
              replace E := Lib.hid (E.out.tr x)
              replace Y := Lib.hid (Y.out.ext x)
              clear x o
              refine rf_call rfl (by rfl) (by rfl) (fun K hK => ?_)
              go_simp
              have H := hear_any D.out O.out (by have := HLEN.out; omega)
              rw [HR.out] at H
              refine H.mono ?_
              rintro e v23 ⟨rfl, d, gz⟩
              have E2 : Hid (Ext wd v23) := Lib.hid (Below.trans E.out (grown_below gz HG.out E.out.size))
              refine hK _ _ _ (fun _ h => h) E2.out (fun _ => ?_)
              clear hK K H O d
              replace E := E2
              clear E2
              replace Y := Lib.hid (Y.out.other gz (by intro hh; injection hh with hh; exact HYG.out hh))
              clear gz
              repeat (first | (refine rf_quiet rfl (by rfl) (by rfl) (fun K hK => ?_); go_big_quiet_op; refine hK _ ?_; clear hK K) | (refine rf_skip rfl (by rfl) (fun K hK => ?_); go_big_quiet_op; refine hK _ ?_; clear hK K))
              have b0 := Y.out.c 0 _ rfl
              have b1 := Y.out.c 1 _ rfl
              have b2 := Y.out.c 2 _ rfl
              have b3 := Y.out.c 3 _ rfl
              have b4 := Y.out.c 4 _ rfl
              have b5 := Y.out.c 5 _ rfl
              have b6 := Y.out.c 6 _ rfl
              have b7 := Y.out.c 7 _ rfl
              have b8 := Y.out.c 8 _ rfl
              have b9 := Y.out.c 9 _ rfl
              have b10 := Y.out.c 10 _ rfl
              have b11 := Y.out.c 11 _ rfl
              have b12 := Y.out.c 12 _ rfl
              try simp only at b0 b1 b2 b3 b4 b5 b6 b7 b8 b9 b10 b11 b12
              have bf := Y.out.f
              simp only [zeroM]
              refine rf_call rfl (by rfl) (by rfl) (fun K hK => ?_)
              go_simp
              have FB := Lib.hid (Y.out.fill (vs := msL zeroM none 0 0) (Nat.le_refl _))
              have FX : Hid (Ext wd (fillV v23 y 0 (msL zeroM none 0 0))) := Lib.hid (fillV_below E.out HDY.out (msL zeroM none 0 0) 0)
              refine hK _ _ (fillV v23 y 0 (msL zeroM none 0 0)) (fun _ h => h) FX.out (fun _ => ?_)
              clear hK K bf
              clear b0 b1 b2 b3 b4 b5 b6 b7 b8 b9 b10 b11 b12
              generalize fillV v23 y 0 (msL zeroM none 0 0) = vz at *
              repeat (first | (refine rf_quiet rfl (by rfl) (by rfl) (fun K hK => ?_); go_big_quiet_op; refine hK _ ?_; clear hK K) | (refine rf_skip rfl (by rfl) (fun K hK => ?_); go_big_quiet_op; refine hK _ ?_; clear hK K))
              refine rf_nil ?_
              go_wp2_with fail
              go_meet
              exact ⟨y, 1, zeroM, none, 0, [], rfl, rfl, M.out.ext FX.out, FB.out, SlS.empty 7 _, XD.out.tr FX.out, Or.inr ⟨HTK.out, rfl⟩⟩
          · go_simp
            have A := Lib.hid (Ext.alloc wd (.cells (msA zeroM none 0 0) 30))
            obtain ⟨y, hyy⟩ : ∃ y, y = wd.heap.size := ⟨_, rfl⟩
            have Y := Lib.hid (BoxV.new wd w.heap.size (msA zeroM none 0 0) (msL zeroM none 0 0) 30 y hyy (by rw [hyy]; exact Nat.le_trans XD.out.size E.out.size) rfl)
            have HDY : Hid (wd.heap.size ≤ y) := Lib.hid (by rw [hyy]; exact E.out.size)
            refine hK _ _ _ (fun _ h => h) (E.out.tr A.out) (fun _ => ?_)
            clear hK K
            change RF _ _ _ _ _ _ (wd.alloc (.cells (msA zeroM none 0 0) 30))
            replace E := Lib.hid (E.out.tr A.out)
            rw [← hyy]
            generalize wd.alloc (.cells (msA zeroM none 0 0) 30) = v15 at *
            clear hyy A
            refine rf_call rfl (by rfl) (by rfl) (fun K hK => ?_)
            go_simp
            refine (gnew_any (k : Int) v15).mono ?_
            rintro e v24 ⟨hy, -, x⟩
            obtain ⟨rfl, d⟩ := hy HI.out
            refine hK _ _ _ (fun _ h => h) (E.out.tr x) (fun _ => ?_)
            clear hK K hy
            obtain ⟨g, hg⟩ : ∃ g, g = v15.heap.size := ⟨_, rfl⟩
            have D : Hid (BoxV v24 g g (grL (k : Int) zB zP)) := Lib.hid (by rw [hg]; exact d)
            have HG : Hid (wd.heap.size ≤ g) := Lib.hid (by rw [hg]; exact E.out.size)
            have HYG : Hid (g ≠ y) := Lib.hid (by rw [hg]; have := Y.out.hi; omega)
            replace Y := Lib.hid (Y.out.ext x)
            rw [← hg]
            clear hg
            replace E := Lib.hid (E.out.tr x)
            clear x d
            refine rf_call rfl (by rfl) (by rfl) (fun K hK => ?_)
            go_simp
            refine (rbytesm_any OK.out (S.out.ext E.out) HL.out).mono ?_
            rw [← HB.out]
            rintro e v25 ⟨pb, kb, rfl, o, x⟩
            refine hK _ _ _ (fun _ h => h) (E.out.tr x) (fun _ => ?_)
            clear hK K
            have O := Lib.hid o.sl
            replace D := Lib.hid (D.out.ext x)
            replace E := Lib.hid (E.out.tr x)
            replace Y := Lib.hid (Y.out.ext x)
            clear x o
            refine rf_call rfl (by rfl) (by rfl) (fun K hK => ?_)
            go_simp
            have H := hear_any D.out O.out (by have := HLEN.out; omega)
            rw [HR.out] at H
            refine H.mono ?_
            rintro e v26 ⟨rfl, d, gz⟩
            have E2 : Hid (Ext wd v26) := Lib.hid (Below.trans E.out (grown_below gz HG.out E.out.size))
            refine hK _ _ _ (fun _ h => h) E2.out (fun _ => ?_)
            clear hK K H O d
            replace E := E2
            clear E2
            replace Y := Lib.hid (Y.out.other gz (by intro hh; injection hh with hh; exact HYG.out hh))
            clear gz
            repeat (first | (refine rf_quiet rfl (by rfl) (by rfl) (fun K hK => ?_); go_big_quiet_op; refine hK _ ?_; clear hK K) | (refine rf_skip rfl (by rfl) (fun K hK => ?_); go_big_quiet_op; refine hK _ ?_; clear hK K))
            have b0 := Y.out.c 0 _ rfl
            have b1 := Y.out.c 1 _ rfl
            have b2 := Y.out.c 2 _ rfl
            have b3 := Y.out.c 3 _ rfl
            have b4 := Y.out.c 4 _ rfl
            have b5 := Y.out.c 5 _ rfl
            have b6 := Y.out.c 6 _ rfl
            have b7 := Y.out.c 7 _ rfl
            have b8 := Y.out.c 8 _ rfl
            have b9 := Y.out.c 9 _ rfl
            have b10 := Y.out.c 10 _ rfl
            have b11 := Y.out.c 11 _ rfl
            have b12 := Y.out.c 12 _ rfl
            try simp only at b0 b1 b2 b3 b4 b5 b6 b7 b8 b9 b10 b11 b12
            have bf := Y.out.f
            simp only [zeroM]
            refine rf_call rfl (by rfl) (by rfl) (fun K hK => ?_)
            go_simp
            have FB := Lib.hid (Y.out.fill (vs := msL zeroM none 0 0) (Nat.le_refl _))
            have FX : Hid (Ext wd (fillV v26 y 0 (msL zeroM none 0 0))) := Lib.hid (fillV_below E.out HDY.out (msL zeroM none 0 0) 0)
            refine hK _ _ (fillV v26 y 0 (msL zeroM none 0 0)) (fun _ h => h) FX.out (fun _ => ?_)
            clear hK K bf
            clear b0 b1 b2 b3 b4 b5 b6 b7 b8 b9 b10 b11 b12
            generalize fillV v26 y 0 (msL zeroM none 0 0) = vz at *
            repeat (first | (refine rf_quiet rfl (by rfl) (by rfl) (fun K hK => ?_); go_big_quiet_op; refine hK _ ?_; clear hK K) | (refine rf_skip rfl (by rfl) (fun K hK => ?_); go_big_quiet_op; refine hK _ ?_; clear hK K))
            refine rf_nil ?_
            go_wp2_with fail
            go_meet
            exact ⟨y, 1, zeroM, none, 0, [], rfl, rfl, M.out.ext FX.out, FB.out, SlS.empty 7 _, XD.out.tr FX.out, Or.inr ⟨HTK.out, rfl⟩⟩
      case rest =>
        obtain ⟨y, z, mm, pp, cc, LL, rfl, rfl, a1, a2, a3, a4, a5⟩ := hcut
        clear M X
        have M := Lib.hid a1
        have Y := Lib.hid a2
        have O := Lib.hid a3
        have X := Lib.hid a4
        clear a1 a2 a3 a4
        rcases a5 with ⟨htk, rfl, rfl, rfl⟩ | ⟨htk, rfl⟩
        · have f1 : (mm.to == (k : Int)) = true := beq_iff_eq.2 htk
          clear htk
          have c0 := M.out.c 0 _ rfl
          have c1 := M.out.c 1 _ rfl
          have c2 := M.out.c 2 _ rfl
          have c3 := M.out.c 3 _ rfl
          have c4 := M.out.c 4 _ rfl
          have c5 := M.out.c 5 _ rfl
          have c6 := M.out.c 6 _ rfl
          have c7 := M.out.c 7 _ rfl
          have c8 := M.out.c 8 _ rfl
          have c9 := M.out.c 9 _ rfl
          have c10 := M.out.c 10 _ rfl
          have c11 := M.out.c 11 _ rfl
          have c12 := M.out.c 12 _ rfl
          try simp only at c0 c1 c2 c3 c4 c5 c6 c7 c8 c9 c10 c11 c12
          have d0 := Y.out.c 0 _ rfl
          have d1 := Y.out.c 1 _ rfl
          have d2 := Y.out.c 2 _ rfl
          have d3 := Y.out.c 3 _ rfl
          have d4 := Y.out.c 4 _ rfl
          have d5 := Y.out.c 5 _ rfl
          have d6 := Y.out.c 6 _ rfl
          have d7 := Y.out.c 7 _ rfl
          have d8 := Y.out.c 8 _ rfl
          have d9 := Y.out.c 9 _ rfl
          have d10 := Y.out.c 10 _ rfl
          have d11 := Y.out.c 11 _ rfl
          have d12 := Y.out.c 12 _ rfl
          try simp only at d0 d1 d2 d3 d4 d5 d6 d7 d8 d9 d10 d11 d12
          go_wp2_with fail
          clear c0 c1 c2 c3 c4 c5 c6 c7 c8 c9 c10 c11 c12
          clear d0 d1 d2 d3 d4 d5 d6 d7 d8 d9 d10 d11 d12
          refine (reqm_any O.out (S.out.ext X.out)).mono ?_
          rw [show eqM mm LL mm LL = true from (eqM_iff _ _ _ _).2 ⟨rfl, rfl⟩]
          rintro e w5 ⟨rfl, x5⟩
          replace M := Lib.hid (M.out.ext x5)
          replace X := Lib.hid (X.out.tr x5)
          clear x5
          go_wp2
          go_roundw
          case rel => exact ⟨k + 1, by omega, by omega, by go_num, M.out, X.out⟩
          case measure => simp [intOf]; omega
        · have f1 : (m.to == (k : Int)) = false := beq_eq_false_iff_ne.2 htk
          clear htk
          have c2 := M.out.c 2 _ rfl
          try simp only at c2
          go_wp2
          go_roundw
          case rel => exact ⟨k + 1, by omega, by omega, by go_num, M.out, X.out⟩
          case measure => simp [intOf]; omega
    · go_wp2
      go_ret
      exact ⟨rfl, X.out⟩
end Go.Proofs.Ytbhgbkbdojhofaa
