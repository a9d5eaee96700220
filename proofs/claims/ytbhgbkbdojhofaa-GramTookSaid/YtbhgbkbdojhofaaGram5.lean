/-
  Walks of GramNone, GramTook: whatever the numbers, the law returns true.
-/
import Derived.Test.YtbhgbkbdojhofaaGram4
namespace Go.Proofs.Ytbhgbkbdojhofaa
open Go Go.Sort Go.RowKit
set_option linter.unusedVariables false

set_option maxRecDepth 8000 in
set_option maxHeartbeats 8000000 in
theorem hear_nil (w : World) : Calls Try.prog 11 #[.pointer none, .slice none 0 0] w fun e w' => e = .returned (.tuple #[msV zeroM none 0 0, .int .i64 5]) ∧ Ext w w' := by
  have X := Lib.hid (Ext.alloc w (.cells (msA zeroM none 0 0) 30))
  go_enter Try.func11, Try.ntmps11
  go_wp2
  exact bodyPost_ret (v := .tuple #[msV zeroM none 0 0, .int .i64 5]) (by simp [results, Try.results11, go_sem, zeroM]) rfl ⟨rfl, X.out⟩

set_option maxRecDepth 8000 in
set_option maxHeartbeats 8000000 in
theorem sent_nil (z a b : Int) (w : World) : Calls Try.prog 16 #[.pointer none, .int .i64 z, .int .i64 a, .int .i64 b] w fun e w' => e = .returned (.tuple #[]) ∧ w = w' := by
  go_enter Try.func16, Try.ntmps16
  go_wp2
  exact bodyPost_end (v := .tuple #[]) (by simp [results, Try.results16, go_sem]) rfl ⟨rfl, rfl⟩

set_option maxRecDepth 8000 in
set_option maxHeartbeats 8000000 in
theorem took_nil (m : MsD) (p : Option Addr) (n cap : Nat) (a b : Int) (w : World) : Calls Try.prog 17 #[.pointer none, msV m p n cap, .int .i64 a, .int .i64 b] w fun e w' => e = .returned (.tuple #[.int .i64 0, .bool false]) ∧ Ext w w' := by
  go_enter Try.func17, Try.ntmps17
  go_wp2
  go_ret2
  exact ⟨rfl, Ext.alloc w _⟩

set_option maxRecDepth 8000 in
set_option maxHeartbeats 8000000 in
theorem boot_nil (z : Int) (w : World) : Calls Try.prog 19 #[.pointer none, .int .i64 z] w fun e w' => e = .returned (.int .i64 0) ∧ w = w' := by
  go_enter Try.func19, Try.ntmps19
  go_wp2
  go_ret
  simp

set_option maxRecDepth 8000 in
set_option maxHeartbeats 8000000 in
theorem walk_GramNone {w : World} : Calls Try.prog 5 #[] w fun e w' => e = .returned (.bool true) ∧ Below w.heap.size w w' := by
  go_enter Try.func5, Try.ntmps5
  go_wp2_with fail
  refine (hear_nil w).mono ?_
  rintro e w1 ⟨rfl, x1⟩
  have X := Lib.hid (x1.tr (Ext.alloc w1 (.cells (msA zeroM none 0 0) 30)))
  clear x1
  simp only [zeroM]
  go_wp2_with fail
  refine (sent_nil 1 1 1 _).mono ?_
  rintro e w2 ⟨rfl, rfl⟩
  go_wp2_with fail
  refine (took_nil ⟨13, 1, 0, 0, 0, 0, 0, 0, 0, 0, 0, false⟩ none 0 0 1 0 _).mono ?_
  rintro e w3 ⟨rfl, x3⟩
  replace X := Lib.hid (X.out.tr x3)
  clear x3
  go_wp2_with fail
  refine (begun17 w3).mono ?_
  rintro e w4 ⟨rfl, x4⟩
  replace X := Lib.hid (X.out.tr x4)
  clear x4
  go_wp2_with fail
  refine (boot_nil 1 _).mono ?_
  rintro e w5 ⟨rfl, rfl⟩
  go_wp2
  go_ret
  exact ⟨rfl, X.out⟩

theorem bnd_zero {s c t : Int} (h1 : 0 ≤ s) (h2 : s ≤ c) (h3 : c ≤ 2147483648) (h4 : 0 ≤ t) (h5 : t ≤ 1099511627776) : bndOk s t t c 0 = true ∧ bndV s t t c 0 = c - s := by
  have a1 : subOk c s = true := by unfold subOk isT; simp; omega
  have a2 : subOk t t = true := by unfold subOk isT; simp; omega
  have v1 : subV c s = c - s := (sub_yes a1).1
  have v2 : subV t t = 0 := by rw [(sub_yes a2).1]; omega
  have b : bN (c - s) 0 0 = c - s := by unfold bN; omega
  have i : isT (c - s) = true := by unfold isT; simp; omega
  have o : bndOk s t t c 0 = true := by
    unfold bndOk
    rw [a1, a2, v1, v2, b, i, decide_eq_true (show (0 : Int) ≤ c - s by omega)]
    decide
  refine ⟨o, ?_⟩
  unfold bndV
  rw [if_pos o, v1, v2, b]
  omega

set_option maxRecDepth 8000 in
set_option maxHeartbeats 8000000 in
theorem walk_GramTook {sent came num other there : Int} {w : World} (hsent : I64 sent) (hcame : I64 came) (hnum : I64 num) (hother : I64 other) (hthere : I64 there) :
    Calls Try.prog 6 #[.int .i64 sent, .int .i64 came, .int .i64 num, .int .i64 other, .int .i64 there] w fun e w' => e = .returned (.bool true) ∧ Below w.heap.size w w' := by
  by_cases c0 : sent < 0
  · go_enter Try.func6, Try.ntmps6
    go_wp2_with fail
    refine (begun17 w).mono ?_
    rintro e w1 ⟨rfl, x1⟩
    have X := Lib.hid x1
    clear x1
    go_wp2
    go_ret
    exact ⟨rfl, X.out⟩
  by_cases c1 : 1073741824 < sent
  · go_enter Try.func6, Try.ntmps6
    go_wp2_with fail
    refine (begun17 w).mono ?_
    rintro e w1 ⟨rfl, x1⟩
    have X := Lib.hid x1
    clear x1
    go_wp2
    go_ret
    exact ⟨rfl, X.out⟩
  by_cases c2 : came < sent
  · go_enter Try.func6, Try.ntmps6
    go_wp2_with fail
    refine (begun17 w).mono ?_
    rintro e w1 ⟨rfl, x1⟩
    have X := Lib.hid x1
    clear x1
    go_wp2
    go_ret
    exact ⟨rfl, X.out⟩
  by_cases c3 : 2147483648 < came
  · go_enter Try.func6, Try.ntmps6
    go_wp2_with fail
    refine (begun17 w).mono ?_
    rintro e w1 ⟨rfl, x1⟩
    have X := Lib.hid x1
    clear x1
    go_wp2
    go_ret
    exact ⟨rfl, X.out⟩
  by_cases c4 : num < 0
  · go_enter Try.func6, Try.ntmps6
    go_wp2_with fail
    refine (begun17 w).mono ?_
    rintro e w1 ⟨rfl, x1⟩
    have X := Lib.hid x1
    clear x1
    go_wp2
    go_ret
    exact ⟨rfl, X.out⟩
  by_cases c5 : 1099511627776 < num
  · go_enter Try.func6, Try.ntmps6
    go_wp2_with fail
    refine (begun17 w).mono ?_
    rintro e w1 ⟨rfl, x1⟩
    have X := Lib.hid x1
    clear x1
    go_wp2
    go_ret
    exact ⟨rfl, X.out⟩
  by_cases c6 : other < 0
  · go_enter Try.func6, Try.ntmps6
    go_wp2_with fail
    refine (begun17 w).mono ?_
    rintro e w1 ⟨rfl, x1⟩
    have X := Lib.hid x1
    clear x1
    go_wp2
    go_ret
    exact ⟨rfl, X.out⟩
  by_cases c7 : 1099511627776 < other
  · go_enter Try.func6, Try.ntmps6
    go_wp2_with fail
    refine (begun17 w).mono ?_
    rintro e w1 ⟨rfl, x1⟩
    have X := Lib.hid x1
    clear x1
    go_wp2
    go_ret
    exact ⟨rfl, X.out⟩
  by_cases c8 : there < 0
  · go_enter Try.func6, Try.ntmps6
    go_wp2_with fail
    refine (begun17 w).mono ?_
    rintro e w1 ⟨rfl, x1⟩
    have X := Lib.hid x1
    clear x1
    go_wp2
    go_ret
    exact ⟨rfl, X.out⟩
  by_cases c9 : 1099511627776 < there
  · go_enter Try.func6, Try.ntmps6
    go_wp2_with fail
    refine (begun17 w).mono ?_
    rintro e w1 ⟨rfl, x1⟩
    have X := Lib.hid x1
    clear x1
    go_wp2
    go_ret
    exact ⟨rfl, X.out⟩
  have z0 : I64 0 := ⟨by decide, by decide⟩
  have z1 : I64 1 := ⟨by decide, by decide⟩
  have z2 : I64 2 := ⟨by decide, by decide⟩
  have z3 : I64 3 := ⟨by decide, by decide⟩
  have z12 : I64 12 := ⟨by decide, by decide⟩
  have z13 : I64 13 := ⟨by decide, by decide⟩
  have ok1 : MsOk ⟨13, 2, 1, 1, 0, 0, 0, 0, 0, other, there, false⟩ := ⟨z13, z2, z1, z1, z0, z0, z0, z0, z0, hother, hthere⟩
  have ok2 : MsOk ⟨13, 3, 1, 1, 0, 0, 0, 0, 0, num, there, false⟩ := ⟨z13, z3, z1, z1, z0, z0, z0, z0, z0, hnum, hthere⟩
  have ok3 : MsOk ⟨12, 2, 1, 1, 0, 0, 0, 0, 0, num, there, false⟩ := ⟨z12, z2, z1, z1, z0, z0, z0, z0, z0, hnum, hthere⟩
  obtain ⟨ps, hps⟩ : ∃ ps, ps = updF zP 2 (num, sent, true) := ⟨_, rfl⟩
  have pok : ∀ F, J64 (ps F).2.1 := by
    intro F
    rw [hps]
    by_cases h : F = 2
    · subst h; exact hsent
    · rw [show updF zP 2 (num, sent, true) F = zP F from if_neg h]; exact (show J64 0 from ⟨by decide, by decide⟩)
  have OK1 := Lib.hid ok1
  have OK2 := Lib.hid ok2
  have OK3 := Lib.hid ok3
  have POK := Lib.hid pok
  have HC := Lib.hid hcame
  obtain ⟨B1, B2⟩ := bnd_zero (s := sent) (c := came) (t := there) (by omega) (by omega) (by omega) (by omega) (by omega)
  have t2 : tkB ps ⟨13, 3, 1, 1, 0, 0, 0, 0, 0, num, there, false⟩ = false := by rw [hps]; rfl
  have t3 : tkB ps ⟨12, 2, 1, 1, 0, 0, 0, 0, 0, num, there, false⟩ = false := by rw [hps]; rfl
  have K2 : Hid (tkV ps ⟨13, 3, 1, 1, 0, 0, 0, 0, 0, num, there, false⟩ came 0 = 0 ∧ tkO ps ⟨13, 3, 1, 1, 0, 0, 0, 0, 0, num, there, false⟩ came 0 = false) := Lib.hid ⟨by unfold tkV; rw [t2]; rfl, by unfold tkO; rw [t2]; rfl⟩
  have K3 : Hid (tkV ps ⟨12, 2, 1, 1, 0, 0, 0, 0, 0, num, there, false⟩ came 0 = 0 ∧ tkO ps ⟨12, 2, 1, 1, 0, 0, 0, 0, 0, num, there, false⟩ came 0 = false) := Lib.hid ⟨by unfold tkV; rw [t3]; rfl, by unfold tkO; rw [t3]; rfl⟩
  have t1 : tkB ps ⟨13, 2, 1, 1, 0, 0, 0, 0, 0, other, there, false⟩ = decide (num = other) := by rw [hps]; rfl
  have K1 : Hid (num = other → tkV ps ⟨13, 2, 1, 1, 0, 0, 0, 0, 0, other, there, false⟩ came 0 = came - sent ∧ tkO ps ⟨13, 2, 1, 1, 0, 0, 0, 0, 0, other, there, false⟩ came 0 = true) := Lib.hid (fun h => by
    have e : tkB ps ⟨13, 2, 1, 1, 0, 0, 0, 0, 0, other, there, false⟩ = true := by rw [t1, decide_eq_true h]
    have f : (ps (2 : Int).toNat).2.1 = sent := by rw [hps]; rfl
    constructor
    · unfold tkV
      rw [if_pos e]
      simp only [f, B2]
    · unfold tkO
      rw [e]
      simp only [f, B1, Bool.true_and])
  have K0 : Hid (num ≠ other → tkV ps ⟨13, 2, 1, 1, 0, 0, 0, 0, 0, other, there, false⟩ came 0 = 0 ∧ tkO ps ⟨13, 2, 1, 1, 0, 0, 0, 0, 0, other, there, false⟩ came 0 = false) := Lib.hid (fun h => by
    have e : tkB ps ⟨13, 2, 1, 1, 0, 0, 0, 0, 0, other, there, false⟩ = false := by rw [t1, decide_eq_false h]
    exact ⟨by unfold tkV; rw [e]; rfl, by unfold tkO; rw [e]; rfl⟩)
  have HPS := Lib.hid hps
  have hw : wrap64 (came - sent) = came - sent := by unfold wrap64; omega
  clear ok1 ok2 ok3 pok B1 B2 t1 t2 t3 hps z0 z1 z2 z3 z12 z13 hsent hcame hnum hother hthere
  by_cases hno : num = other
  · subst hno
    obtain ⟨V1, O1⟩ := K1.out rfl
    have V1 := Lib.hid V1
    have O1 := Lib.hid O1
    go_enter Try.func6, Try.ntmps6
    go_wp2_with fail
    refine (begun17 w).mono ?_
    rintro e w1 ⟨rfl, x1⟩
    have X := Lib.hid x1
    clear x1
    go_wp2_with fail
    refine (gnew_any 1 _).mono ?_
    rintro e w2 ⟨hy, -, x2⟩
    obtain ⟨rfl, d2⟩ := hy (by decide)
    have D := Lib.hid d2
    have SZ := Lib.hid X.out.size
    replace X := Lib.hid (X.out.tr x2)
    clear hy d2 x2
    generalize w1.heap.size = g at *
    go_wp2_with fail
    refine (sent_any D.out 2 num sent).mono ?_
    rintro e w3 ⟨rfl, d3, g3⟩
    replace D : Hid (BoxV w3 g g (grL 1 zB ps)) := Lib.hid (by rw [HPS.out]; exact d3)
    replace X : Hid (Ext w w3) := Lib.hid (Below.trans X.out (grown_below g3 SZ.out X.out.size))
    clear d3 g3
    go_wp2_with fail
    have H := took_any D.out OK1.out (p := none) (n := 0) (cap := 0) came 0 HC.out POK.out
    rw [V1.out, O1.out] at H
    refine H.mono ?_
    rintro e w4 ⟨rfl, x4⟩
    replace D := Lib.hid (D.out.ext x4)
    replace X := Lib.hid (X.out.tr x4)
    clear H x4
    go_wp2_with fail
    have H := took_any D.out OK2.out (p := none) (n := 0) (cap := 0) came 0 HC.out POK.out
    rw [K2.out.1, K2.out.2] at H
    refine H.mono ?_
    rintro e w5 ⟨rfl, x4⟩
    replace D := Lib.hid (D.out.ext x4)
    replace X := Lib.hid (X.out.tr x4)
    clear H x4
    go_wp2_with fail
    have H := took_any D.out OK3.out (p := none) (n := 0) (cap := 0) came 0 HC.out POK.out
    rw [K3.out.1, K3.out.2] at H
    refine H.mono ?_
    rintro e w6 ⟨rfl, x4⟩
    replace X := Lib.hid (X.out.tr x4)
    clear H x4
    go_wp2
    go_ret
    exact ⟨rfl, X.out⟩
  · obtain ⟨V1, O1⟩ := K0.out hno
    have V1 := Lib.hid V1
    have O1 := Lib.hid O1
    have f1 : (num == other) = false := beq_eq_false_iff_ne.2 hno
    clear hno
    go_enter Try.func6, Try.ntmps6
    go_wp2_with fail
    refine (begun17 w).mono ?_
    rintro e w1 ⟨rfl, x1⟩
    have X := Lib.hid x1
    clear x1
    go_wp2_with fail
    refine (gnew_any 1 _).mono ?_
    rintro e w2 ⟨hy, -, x2⟩
    obtain ⟨rfl, d2⟩ := hy (by decide)
    have D := Lib.hid d2
    have SZ := Lib.hid X.out.size
    replace X := Lib.hid (X.out.tr x2)
    clear hy d2 x2
    generalize w1.heap.size = g at *
    go_wp2_with fail
    refine (sent_any D.out 2 num sent).mono ?_
    rintro e w3 ⟨rfl, d3, g3⟩
    replace D : Hid (BoxV w3 g g (grL 1 zB ps)) := Lib.hid (by rw [HPS.out]; exact d3)
    replace X : Hid (Ext w w3) := Lib.hid (Below.trans X.out (grown_below g3 SZ.out X.out.size))
    clear d3 g3
    go_wp2_with fail
    have H := took_any D.out OK1.out (p := none) (n := 0) (cap := 0) came 0 HC.out POK.out
    rw [V1.out, O1.out] at H
    refine H.mono ?_
    rintro e w4 ⟨rfl, x4⟩
    replace D := Lib.hid (D.out.ext x4)
    replace X := Lib.hid (X.out.tr x4)
    clear H x4
    go_wp2_with fail
    have H := took_any D.out OK2.out (p := none) (n := 0) (cap := 0) came 0 HC.out POK.out
    rw [K2.out.1, K2.out.2] at H
    refine H.mono ?_
    rintro e w5 ⟨rfl, x4⟩
    replace D := Lib.hid (D.out.ext x4)
    replace X := Lib.hid (X.out.tr x4)
    clear H x4
    go_wp2_with fail
    have H := took_any D.out OK3.out (p := none) (n := 0) (cap := 0) came 0 HC.out POK.out
    rw [K3.out.1, K3.out.2] at H
    refine H.mono ?_
    rintro e w6 ⟨rfl, x4⟩
    replace X := Lib.hid (X.out.tr x4)
    clear H x4
    go_wp2
    go_ret
    exact ⟨rfl, X.out⟩
end Go.Proofs.Ytbhgbkbdojhofaa
