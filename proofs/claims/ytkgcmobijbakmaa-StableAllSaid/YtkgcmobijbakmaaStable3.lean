/-
  The contract of stable.Read: at any bytes, not more than a million. Conditions stand at it.
-/
import Derived.Test.YtkgcmobijbakmaaStable2
namespace Go.Proofs.Ytkgcmobijbakmaa
open Go Go.Sort Go.RowKit
set_option linter.unusedVariables false

set_option maxHeartbeats 400000 in
theorem smay_any (x : Int) (w : World) : Calls Try.prog 51 #[.int .i64 x] w fun e w' => e = .returned (.bool (mayN x)) ∧ w = w' := by
  by_cases h1 : 0 ≤ x
  · by_cases h2 : x ≤ 1099511627776
    · have e : mayN x = true := by unfold mayN; rw [decide_eq_true h1, decide_eq_true h2]; rfl
      rw [e]
      clear e
      go_enter Try.func51, Try.ntmps51
      go_wp2
      go_ret
      exact ⟨rfl, rfl⟩
    · have e : mayN x = false := by unfold mayN; rw [decide_eq_false h2, Bool.and_false]
      have hd : decide (x ≤ 1099511627776) = false := decide_eq_false h2
      rw [e]
      clear e
      go_enter Try.func51, Try.ntmps51
      go_wp2
      go_ret
      exact ⟨rfl, rfl⟩
  · have e : mayN x = false := by unfold mayN; rw [decide_eq_false h1]; rfl
    have hd : decide (0 ≤ x) = false := decide_eq_false h1
    rw [e]
    clear e
    go_enter Try.func51, Try.ntmps51
    go_wp2
    go_ret
    exact ⟨rfl, rfl⟩
def RdPost (w : World) (R : Option (Int × Int)) (e : Ending) (w' : World) : Prop :=
  match R with
  | none => e = .returned (.tuple #[.pointer none, .int .i64 1]) ∧ Ext w w'
  | some (x, y) => ∃ g, e = .returned (.tuple #[.pointer (some ⟨g, 0, none⟩), .int .i64 0]) ∧ Two w' w.heap.size g x y ∧ Ext w w'
theorem diskR_no {l : List UInt8} (h : ¬ (opens l = true ∧ (getL (openL l)).2.2 = 0 ∧ (getL ((openL l).drop (getL (openL l)).2.1)).2.2 = 0 ∧ mayN (getL (openL l)).1 = true ∧ mayN (getL ((openL l).drop (getL (openL l)).2.1)).1 = true ∧ diskL (getL (openL l)).1 (getL ((openL l).drop (getL (openL l)).2.1)).1 = l)) : diskR l = none := by
  unfold diskR
  rw [if_neg h]
theorem openL_le (l : List UInt8) : (openL l).length ≤ l.length := by
  unfold openL
  split
  · rw [List.length_take]; omega
  · simp

set_option maxRecDepth 8000 in
set_option maxHeartbeats 8000000 in
theorem sread_any {w : World} {p : Option Addr} {n cap : Nat} {l : List UInt8} (h : SlP w p n cap l) (hn : n ≤ 1000000) :
    Calls Try.prog 38 #[.slice p n cap] w fun e w' => RdPost w (diskR l) e w' := by
  have H := Lib.hid h
  have hle := openL_le l
  rw [h.len] at hle
  clear h
  obtain ⟨R, hR⟩ : ∃ R, R = diskR l := ⟨_, rfl⟩
  rw [← hR]
  have HR := Lib.hid hR
  have OP := Lib.hid (fun (w : World) (h : SlP w p n cap l) => open_any h (by omega))
  obtain ⟨r, hr⟩ : ∃ r, r = openL l := ⟨_, rfl⟩
  obtain ⟨nr, hnr⟩ : ∃ nr, nr = r.length := ⟨_, rfl⟩
  rw [← hr, ← hnr] at hle
  rw [← hr, ← hnr] at OP
  have HRR := Lib.hid hr
  have HNR := Lib.hid hnr
  clear hR hr hnr
  cases ho : opens l
  · rw [ho] at OP
    have hRn : R = none := by rw [HR.out]; exact diskR_no (fun h => by rw [ho] at h; cases h.1)
    subst hRn
    clear ho
    go_enter Try.func38, Try.ntmps38
    go_wp2_with fail
    refine (OP.out _ H.out).mono ?_
    rintro e w1 ⟨p1, c1, rfl, o1, x1⟩
    have X := Lib.hid x1
    clear x1 o1
    go_wp2
    go_ret2
    exact ⟨rfl, X.out⟩
  rw [ho] at OP
  have HO := Lib.hid ho
  clear ho
  have G1 := getL_in r
  obtain ⟨v1, hv1⟩ : ∃ v, v = (getL r).1 := ⟨_, rfl⟩
  obtain ⟨n1, hn1⟩ : ∃ v, v = (getL r).2.1 := ⟨_, rfl⟩
  obtain ⟨e1, he1⟩ : ∃ v, v = (getL r).2.2 := ⟨_, rfl⟩
  rw [← hv1, ← hn1, ← he1, ← HNR.out] at G1
  have V1 := Lib.hid hv1
  have N1 := Lib.hid hn1
  have E1 := Lib.hid he1
  clear hv1 hn1 he1
  by_cases h1 : e1 = 0
  · subst h1
    have hn1r : n1 ≤ nr := by omega
    have J1 : Hid (J64 v1) := Lib.hid (by unfold J64; omega)
    clear G1
    have G2 := getL_in (r.drop n1)
    obtain ⟨v2, hv2⟩ : ∃ v, v = (getL (r.drop n1)).1 := ⟨_, rfl⟩
    obtain ⟨n2, hn2⟩ : ∃ v, v = (getL (r.drop n1)).2.1 := ⟨_, rfl⟩
    obtain ⟨e2, he2⟩ : ∃ v, v = (getL (r.drop n1)).2.2 := ⟨_, rfl⟩
    rw [← hv2, ← hn2, ← he2] at G2
    have J2 : Hid (J64 v2) := Lib.hid (by unfold J64; omega)
    have V2 := Lib.hid hv2
    have N2 := Lib.hid hn2
    have E2 := Lib.hid he2
    clear hv2 hn2 he2 G2
    have MUST : Hid (R ≠ none → e2 = 0 ∧ mayN v1 = true ∧ mayN v2 = true ∧ diskL v1 v2 = l) := Lib.hid (fun hne => by
      refine Classical.byContradiction fun hh => hne ?_
      rw [HR.out]
      refine diskR_no fun h => hh ?_
      rw [← HRR.out, ← N1.out, ← V1.out, ← V2.out, ← E2.out] at h
      exact h.2.2)
    have IS : Hid (e2 = 0 ∧ mayN v1 = true ∧ mayN v2 = true ∧ diskL v1 v2 = l → R = some (v1, v2)) := Lib.hid (fun hh => by
      rw [HR.out]
      unfold diskR
      rw [← HRR.out, ← N1.out, ← V1.out, ← V2.out, ← E2.out, if_pos ⟨HO.out, E1.out.symm, hh⟩])
    have NO : ∀ {Q : Prop}, (¬ (e2 = 0 ∧ mayN v1 = true ∧ mayN v2 = true ∧ diskL v1 v2 = l)) → R = none := by
      intro _ hh
      cases hRR : R with
      | none => rfl
      | some q => exact absurd (MUST.out (by rw [hRR]; exact fun h => by cases h)) hh
    have NN := Lib.hid (fun hh => @NO True hh)
    clear NO
    have start : Hid True := Lib.hid trivial
    by_cases h2 : e2 = 0
    · subst h2
      cases m1 : mayN v1
      · have hRn := NN.out (fun h => by rw [m1] at h; cases h.2.1)
        subst hRn
        have M1 := Lib.hid m1
        clear m1
        go_enter Try.func38, Try.ntmps38
        go_wp2_with fail
        refine (OP.out _ H.out).mono ?_
        rintro e w1 ⟨p1, c1, rfl, o1, x1⟩
        have O1 := Lib.hid o1.sl
        have X := Lib.hid x1
        clear x1 o1
        have cf := fun w => run_cut_from (P := Try.prog) 30 5 Try.underlying30 sz5 p1 nr c1 n1 hn1r w
        go_wp2_with fail
        refine (get_any O1.out (by omega)).mono ?_
        rw [← V1.out, ← N1.out, ← E1.out]
        rintro e w2 ⟨rfl, rfl⟩
        go_wp2_with fail
        refine (get_any (O1.out.drop n1 hn1r) (by omega)).mono ?_
        rw [← V2.out, ← N2.out, ← E2.out]
        rintro e w3 ⟨rfl, rfl⟩
        clear cf
        go_wp2_with fail
        refine (smay_any v1 _).mono ?_
        rw [M1.out]
        rintro e w4 ⟨rfl, rfl⟩
        go_wp2
        go_ret2
        exact ⟨rfl, X.out.tr (Ext.alloc _ _)⟩
      have M1 := Lib.hid m1
      clear m1
      cases m2 : mayN v2
      · have hRn := NN.out (fun h => by rw [m2] at h; cases h.2.2.1)
        subst hRn
        have M2 := Lib.hid m2
        clear m2
        go_enter Try.func38, Try.ntmps38
        go_wp2_with fail
        refine (OP.out _ H.out).mono ?_
        rintro e w1 ⟨p1, c1, rfl, o1, x1⟩
        have O1 := Lib.hid o1.sl
        have X := Lib.hid x1
        clear x1 o1
        have cf := fun w => run_cut_from (P := Try.prog) 30 5 Try.underlying30 sz5 p1 nr c1 n1 hn1r w
        go_wp2_with fail
        refine (get_any O1.out (by omega)).mono ?_
        rw [← V1.out, ← N1.out, ← E1.out]
        rintro e w2 ⟨rfl, rfl⟩
        go_wp2_with fail
        refine (get_any (O1.out.drop n1 hn1r) (by omega)).mono ?_
        rw [← V2.out, ← N2.out, ← E2.out]
        rintro e w3 ⟨rfl, rfl⟩
        clear cf
        go_wp2_with fail
        refine (smay_any v1 _).mono ?_
        rw [M1.out]
        rintro e w4 ⟨rfl, rfl⟩
        go_wp2_with fail
        refine (smay_any v2 _).mono ?_
        rw [M2.out]
        rintro e w4 ⟨rfl, rfl⟩
        go_wp2
        go_ret2
        exact ⟨rfl, X.out.tr (Ext.alloc _ _)⟩
      have M2 := Lib.hid m2
      clear m2
      cases dq : (diskL v1 v2 == l)
      all_goals
        have DQ := Lib.hid dq
      · have hRn := NN.out (fun h => by rw [h.2.2.2, beq_self_eq_true] at dq; cases dq)
        subst hRn
        clear dq
        go_enter Try.func38, Try.ntmps38
        go_wp2_with fail
        refine (OP.out _ H.out).mono ?_
        rintro e w1 ⟨p1, c1, rfl, o1, x1⟩
        have O1 := Lib.hid o1.sl
        have X := Lib.hid x1
        clear x1 o1
        have cf := fun w => run_cut_from (P := Try.prog) 30 5 Try.underlying30 sz5 p1 nr c1 n1 hn1r w
        go_wp2_with fail
        refine (get_any O1.out (by omega)).mono ?_
        rw [← V1.out, ← N1.out, ← E1.out]
        rintro e w2 ⟨rfl, rfl⟩
        go_wp2_with fail
        refine (get_any (O1.out.drop n1 hn1r) (by omega)).mono ?_
        rw [← V2.out, ← N2.out, ← E2.out]
        rintro e w3 ⟨rfl, rfl⟩
        clear cf
        go_wp2_with fail
        refine (smay_any v1 _).mono ?_
        rw [M1.out]
        rintro e w4 ⟨rfl, rfl⟩
        go_wp2_with fail
        refine (smay_any v2 _).mono ?_
        rw [M2.out]
        rintro e w4 ⟨rfl, rfl⟩
        have TW := Lib.hid (two_new w1 v1 v2 (t := 45))
        have XA := Lib.hid (X.out.tr (Ext.alloc w1 (.cells #[.int .i64 v1, .int .i64 v2] 45)))
        go_wp2_with fail
        refine (bytes_any TW.out J1.out J2.out).mono ?_
        rintro e w5 ⟨p5, n5, c5, rfl, o5, x5⟩
        have O5 := Lib.hid o5.sl
        replace XA := Lib.hid (XA.out.tr x5)
        clear x5 o5
        go_wp2_with fail
        refine (equal_any O5.out (H.out.ext XA.out)).mono ?_
        rw [DQ.out]
        rintro e w6 ⟨rfl, rfl⟩
        go_wp2
        go_ret2
        exact ⟨rfl, XA.out⟩
      · have hRs := IS.out ⟨rfl, M1.out, M2.out, eq_of_beq dq⟩
        subst hRs
        clear dq
        go_enter Try.func38, Try.ntmps38
        go_wp2_with fail
        refine (OP.out _ H.out).mono ?_
        rintro e w1 ⟨p1, c1, rfl, o1, x1⟩
        have O1 := Lib.hid o1.sl
        have X := Lib.hid x1
        clear x1 o1
        have cf := fun w => run_cut_from (P := Try.prog) 30 5 Try.underlying30 sz5 p1 nr c1 n1 hn1r w
        go_wp2_with fail
        refine (get_any O1.out (by omega)).mono ?_
        rw [← V1.out, ← N1.out, ← E1.out]
        rintro e w2 ⟨rfl, rfl⟩
        go_wp2_with fail
        refine (get_any (O1.out.drop n1 hn1r) (by omega)).mono ?_
        rw [← V2.out, ← N2.out, ← E2.out]
        rintro e w3 ⟨rfl, rfl⟩
        clear cf
        go_wp2_with fail
        refine (smay_any v1 _).mono ?_
        rw [M1.out]
        rintro e w4 ⟨rfl, rfl⟩
        go_wp2_with fail
        refine (smay_any v2 _).mono ?_
        rw [M2.out]
        rintro e w4 ⟨rfl, rfl⟩
        have TW := Lib.hid (two_new w1 v1 v2 (t := 45))
        have XA := Lib.hid (X.out.tr (Ext.alloc w1 (.cells #[.int .i64 v1, .int .i64 v2] 45)))
        go_wp2_with fail
        refine (bytes_any TW.out J1.out J2.out).mono ?_
        rintro e w5 ⟨p5, n5, c5, rfl, o5, x5⟩
        have O5 := Lib.hid o5.sl
        replace XA := Lib.hid (XA.out.tr x5)
        replace TW := Lib.hid ((TW.out.ext x5).base X.out.size)
        clear x5 o5
        go_wp2_with fail
        refine (equal_any O5.out (H.out.ext XA.out)).mono ?_
        rw [DQ.out]
        rintro e w6 ⟨rfl, rfl⟩
        go_wp2
        go_ret2
        exact ⟨_, rfl, TW.out, XA.out⟩
    · have h3 : (e2 != 0) = true := bne_iff_ne.2 h2
      have h4 : (e2 == 0) = false := beq_eq_false_iff_ne.2 h2
      have hRn := NN.out (fun h => h2 h.1)
      subst hRn
      clear h2
      go_enter Try.func38, Try.ntmps38
      go_wp2_with fail
      refine (OP.out _ H.out).mono ?_
      rintro e w1 ⟨p1, c1, rfl, o1, x1⟩
      have O1 := Lib.hid o1.sl
      have X := Lib.hid x1
      clear x1 o1
      have cf := fun w => run_cut_from (P := Try.prog) 30 5 Try.underlying30 sz5 p1 nr c1 n1 hn1r w
      go_wp2_with fail
      refine (get_any O1.out (by omega)).mono ?_
      rw [← V1.out, ← N1.out, ← E1.out]
      rintro e w2 ⟨rfl, rfl⟩
      go_wp2_with fail
      refine (get_any (O1.out.drop n1 hn1r) (by omega)).mono ?_
      rw [← V2.out, ← N2.out, ← E2.out]
      rintro e w3 ⟨rfl, rfl⟩
      clear cf
      go_wp2
      go_ret2
      exact ⟨rfl, X.out.tr (Ext.alloc _ _)⟩
  · have h3 : (e1 != 0) = true := bne_iff_ne.2 h1
    have h4 : (e1 == 0) = false := beq_eq_false_iff_ne.2 h1
    have hRn : R = none := by
      rw [HR.out]
      refine diskR_no (fun h => h1 ?_)
      rw [E1.out, HRR.out]
      exact h.2.1
    subst hRn
    clear h1
    go_enter Try.func38, Try.ntmps38
    go_wp2_with fail
    refine (OP.out _ H.out).mono ?_
    rintro e w1 ⟨p1, c1, rfl, o1, x1⟩
    have O1 := Lib.hid o1.sl
    have X := Lib.hid x1
    clear x1 o1
    go_wp2_with fail
    refine (get_any O1.out (by omega)).mono ?_
    rw [← V1.out, ← N1.out, ← E1.out]
    rintro e w2 ⟨rfl, rfl⟩
    go_wp2
    go_ret2
    exact ⟨rfl, X.out⟩
end Go.Proofs.Ytkgcmobijbakmaa
