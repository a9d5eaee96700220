/-
  The walks of StableRise and StableEnd: whatever the numbers, the law returns true.
-/
import Derived.Test.YtkgcmobijbakmaaStable4
namespace Go.Proofs.Ytkgcmobijbakmaa
open Go Go.Sort Go.RowKit
set_option linter.unusedVariables false

set_option maxRecDepth 8000 in
set_option maxHeartbeats 4000000 in
theorem walk_StableRise {p : Option Addr} {n cap : Nat} {zs : List Int} {w : World} (h : SlI .i64 w p n cap zs) :
    Calls Try.prog 13 #[.slice p n cap] w fun e w' => e = .returned (.bool true) ∧ Below w.heap.size w w' := by
  have hn : n ≤ 9223372036854775807 := Nat.le_trans h.le h.max
  have S := Lib.hid h
  clear h
  go_enter Try.func13, Try.ntmps13
  go_wp2_with fail
  refine (begun19 w).mono ?_
  rintro e w1 ⟨rfl, x1⟩
  have X := Lib.hid x1
  clear x1
  go_wp2
  have T := Lib.hid ((two_new w1 0 0 (t := 45)).base X.out.size)
  have X1 := Lib.hid (X.out.tr (Ext.alloc w1 (.cells #[.int .i64 0, .int .i64 0] 45)))
  go_loopw [5, 6] (fun tp i wr => ∃ (k : Nat) (b : Int), k ≤ n ∧ i = .int .i64 (k : Int) ∧ tp = .int .i64 b ∧ Two wr w.heap.size w1.heap.size 0 b ∧ Below w.heap.size w wr) (fun _ i _ => n - (intOf i).toNat)
  case atStart => exact ⟨0, 0, by omega, rfl, rfl, T.out, X1.out⟩
  case round =>
    clear T X1
    obtain ⟨k, b, hk, rfl, rfl, t1, x1⟩ := hrel
    have T := Lib.hid t1
    have XR := Lib.hid x1
    clear t1 x1
    have hcase : (k < n ∧ (k : Int) < 30) ∨ (k < n ∧ ¬ (k : Int) < 30) ∨ ¬ k < n := by omega
    rcases hcase with ⟨hlt, h30⟩ | hout
    · obtain ⟨bb, o, v, rfl, hx, hcell, -⟩ := (S.out.ext XR.out).at k hlt
      clear hx
      by_cases hv1 : b < v
      · by_cases hv2 : v ≤ 1099511627776
        · have e1 := Lib.hid (show prB b v = true ∧ prV b v = v by unfold prV prB; rw [decide_eq_true hv1, decide_eq_true hv2]; exact ⟨rfl, rfl⟩)
          go_wp2_with fail
          refine (promise_only T.out).mono ?_
          rw [e1.out.1, e1.out.2]
          rintro e w3 ⟨rfl, t3, g3⟩
          replace XR := Lib.hid (Below.trans XR.out (only_below g3 t3.lo XR.out.size))
          replace T := Lib.hid t3
          clear t3 g3
          go_wp2_with fail
          refine (view_any T.out).mono ?_
          rintro e w4 ⟨rfl, rfl⟩
          go_wp2_with fail
          refine (boot_any T.out).mono ?_
          rintro e w4 ⟨rfl, rfl⟩
          go_wp2
          go_roundw
          case rel => exact ⟨k + 1, v, by omega, by go_num, rfl, T.out, XR.out⟩
          case measure => simp [intOf]; omega
        · have hd : decide (v ≤ 1099511627776) = false := decide_eq_false hv2
          have e1 := Lib.hid (show prB b v = false ∧ prV b v = b by unfold prV prB; rw [hd, Bool.and_false]; exact ⟨rfl, rfl⟩)
          go_wp2_with fail
          refine (promise_only T.out).mono ?_
          rw [e1.out.1, e1.out.2]
          rintro e w3 ⟨rfl, t3, g3⟩
          replace XR := Lib.hid (Below.trans XR.out (only_below g3 t3.lo XR.out.size))
          replace T := Lib.hid t3
          clear t3 g3
          go_wp2_with fail
          refine (view_any T.out).mono ?_
          rintro e w4 ⟨rfl, rfl⟩
          go_wp2_with fail
          refine (boot_any T.out).mono ?_
          rintro e w4 ⟨rfl, rfl⟩
          go_wp2
          go_roundw
          case rel => exact ⟨k + 1, b, by omega, by go_num, rfl, T.out, XR.out⟩
          case measure => simp [intOf]; omega
      · have hd : decide (b < v) = false := decide_eq_false hv1
        have e1 := Lib.hid (show prB b v = false ∧ prV b v = b by unfold prV prB; rw [hd]; exact ⟨rfl, rfl⟩)
        go_wp2_with fail
        refine (promise_only T.out).mono ?_
        rw [e1.out.1, e1.out.2]
        rintro e w3 ⟨rfl, t3, g3⟩
        replace XR := Lib.hid (Below.trans XR.out (only_below g3 t3.lo XR.out.size))
        replace T := Lib.hid t3
        clear t3 g3
        go_wp2_with fail
        refine (view_any T.out).mono ?_
        rintro e w4 ⟨rfl, rfl⟩
        go_wp2_with fail
        refine (boot_any T.out).mono ?_
        rintro e w4 ⟨rfl, rfl⟩
        go_wp2
        go_roundw
        case rel => exact ⟨k + 1, b, by omega, by go_num, rfl, T.out, XR.out⟩
        case measure => simp [intOf]; omega
    · rcases hout with ⟨hlt, h30⟩ | hlt
      all_goals
        go_wp2
        go_ret
        exact ⟨rfl, XR.out⟩

set_option maxRecDepth 8000 in
set_option maxHeartbeats 8000000 in
theorem walk_StableEnd {less : Int} {w : World} (h1 : -9223372036854775808 ≤ less ∧ less ≤ 9223372036854775807) :
    Calls Try.prog 11 #[.int .i64 less] w fun e w' => e = .returned (.bool true) ∧ Below w.heap.size w w' := by
  by_cases c0 : less < 0
  · go_enter Try.func11, Try.ntmps11
    go_wp2_with fail
    refine (begun19 w).mono ?_
    rintro e w1 ⟨rfl, x1⟩
    have X := Lib.hid x1
    clear x1
    go_wp2
    go_ret
    exact ⟨rfl, X.out⟩
  by_cases c1 : 20 < less
  · go_enter Try.func11, Try.ntmps11
    go_wp2_with fail
    refine (begun19 w).mono ?_
    rintro e w1 ⟨rfl, x1⟩
    have X := Lib.hid x1
    clear x1
    go_wp2
    go_ret
    exact ⟨rfl, X.out⟩
  have J := (show J64 (1099511627776 - less) by unfold J64; omega)
  have J0 := (show J64 0 by unfold J64; omega)
  have la := enc_len10 J
  have lb := enc_len10 J0
  have JA := Lib.hid J
  have JB := Lib.hid J0
  have hd := diskR_bytes J J0
  rw [if_pos ⟨by unfold mayN; rw [decide_eq_true (by omega), decide_eq_true (by omega)]; rfl, by decide⟩] at hd
  have HD := Lib.hid hd
  clear hd J J0
  obtain ⟨x, hx⟩ : ∃ x, x = enc (zig (1099511627776 - less)) := ⟨_, rfl⟩
  obtain ⟨y, hy⟩ : ∃ y, y = enc (zig 0) := ⟨_, rfl⟩
  have hyp : 0 < y.length := by rw [hy]; exact enc_pos _
  have hDL : diskL (1099511627776 - less) 0 = sealL (x ++ y) := by rw [hx, hy]; rfl
  rw [hDL] at HD
  rw [← hx] at la
  rw [← hy] at lb
  have HX := Lib.hid hx
  have HY := Lib.hid hy
  clear hx hy hDL
  go_enter Try.func11, Try.ntmps11
  go_wp2_with fail
  refine (begun19 w).mono ?_
  rintro e w1 ⟨rfl, x1⟩
  have X := Lib.hid x1
  clear x1
  go_wp2_with fail
  refine (rput_any JA.out.1 JA.out.2).mono ?_
  rw [← HX.out]
  rintro e w2 ⟨p2, c2, rfl, o2, x2⟩
  have XW := Lib.hid X.out.size
  have X12 := Lib.hid x2.size
  replace X := Lib.hid (X.out.tr x2)
  have O2 := Lib.hid o2
  clear x2 o2
  go_wp2_with fail
  refine (rput_any JB.out.1 JB.out.2).mono ?_
  rw [← HY.out]
  rintro e w3 ⟨p3, c3, rfl, o3, x3⟩
  have X3 := Lib.hid (X.out.tr x3)
  have E3 := Lib.hid x3
  have O3 := Lib.hid o3
  clear x3 o3
  go_wp2_with (at_builtin; refine wpList_app rfl _ _ 30 rfl w1.heap.size Try.underlying30 info5 p2 x.length c2 x rfl (O2.out.ext E3.out) p3 y.length c3 y rfl O3.out.sl (by omega) (Nat.le_trans X12.out E3.out.size) ?_)
  intro p4 c4 w4 o4 g4
  have O4 := Lib.hid o4
  have X4 := Lib.hid (Ext.own X3.out ((O2.out.ext E3.out).mono XW.out) g4 rfl)
  clear o4 g4
  go_wp2_with fail
  refine (rseal_any O4.out.sl (by omega)).mono ?_
  rintro e w5 ⟨p5, c5, rfl, o5, x5⟩
  have O5 := Lib.hid o5.sl
  have X5 := Lib.hid (X4.out.tr x5)
  clear o5 x5
  have RD := sread_any O5.out (by omega)
  rw [HD.out] at RD
  go_wp2_with fail
  refine RD.mono ?_
  rintro e w6 ⟨g6, rfl, t6, x6⟩
  have T := Lib.hid (t6.base X5.out.size)
  have X6 := Lib.hid (X5.out.tr x6)
  clear t6 x6 RD
  go_wp2
  go_loopw [6] (fun i wr => ∃ k : Nat, (k : Int) ≤ less ∧ i = .int .i64 (k : Int) ∧ Two wr w.heap.size g6 (1099511627776 - less + (k : Int)) 0 ∧ Below w.heap.size w wr) (fun i _ => less.toNat - (intOf i).toNat)
  case atStart => exact ⟨0, by omega, rfl, by simpa using T.out, X6.out⟩
  case round =>
    clear T X6
    obtain ⟨k, hk, rfl, t1, x1⟩ := hrel
    have T := Lib.hid t1
    have XR := Lib.hid x1
    clear t1 x1
    by_cases hlt : (k : Int) < less
    · have e1 := Lib.hid (show stR (1099511627776 - less + (k : Int)) = 1099511627776 - less + (k : Int) + 1 ∧ stA (1099511627776 - less + (k : Int)) = 1099511627776 - less + (k : Int) + 1 from ⟨if_neg (by omega), if_neg (by omega)⟩)
      have hne : ((1099511627776 - less + (k : Int) + 1) == 0) = false := beq_eq_false_iff_ne.2 (by omega)
      go_wp2_with fail
      refine (start_only T.out (by omega) (by omega)).mono ?_
      rw [e1.out.1, e1.out.2]
      rintro e w8 ⟨rfl, t8, g8⟩
      have T8 := Lib.hid t8
      have X8 := Lib.hid (Below.trans XR.out (only_below g8 t8.lo XR.out.size))
      clear t8 g8
      go_wp2
      go_roundw
      case rel => exact ⟨k + 1, by omega, by go_num, by have h := T8.out; rwa [show 1099511627776 - less + (((k + 1 : Nat)) : Int) = 1099511627776 - less + (k : Int) + 1 by omega], X8.out⟩
      case measure => simp [intOf]; omega
    · have hkl : 1099511627776 - less + (k : Int) = 1099511627776 := by omega
      rw [hkl] at T
      clear hkl
      have e1 := Lib.hid (show stR 1099511627776 = 0 ∧ stA 1099511627776 = 1099511627776 from by decide)
      go_wp2_with fail
      refine (start_only T.out (by omega) (by omega)).mono ?_
      rw [e1.out.1, e1.out.2]
      rintro e w8 ⟨rfl, t8, g8⟩
      have T8 := Lib.hid t8
      have X8 := Lib.hid (Below.trans XR.out (only_below g8 t8.lo XR.out.size))
      clear t8 g8
      go_wp2_with fail
      refine (boot_any T8.out).mono ?_
      rintro e w9 ⟨rfl, rfl⟩
      go_wp2
      go_ret
      exact ⟨rfl, X8.out⟩
end Go.Proofs.Ytkgcmobijbakmaa
