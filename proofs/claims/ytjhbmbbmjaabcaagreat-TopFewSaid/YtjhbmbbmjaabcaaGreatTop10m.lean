/-
  TopFew. Conditions stand at each.
-/
import Derived.Test.YtjhbmbbmjaabcaaGreatTop9m
namespace Go.Proofs.YtjhbmbbmjaabcaaGreat
open Go Go.Sort Go.RowKit
set_option linter.unusedVariables false

def dullB (s : Int) (L : LwD) (i : Nat) : Bool := !hasT s (i : Int) || match L.W.sl[i - 1]? with
  | some (.up x) => !goodN x
  | _ => false
def fewL (n : Nat) (s : Int) : Option LwD := (wellL n).bind (apL s 60)
def fewE (n : Nat) (s : Int) (L : LwD) : Bool := (List.range' 1 n).all (dullB s L) && (firmOneL L && (onceL L).isSome)
def fewB (n : Nat) (s : Int) : Bool := mostT s (n : Int) || match fewL n s with
  | some L => fewE n s L
  | none => false
theorem two_n {n : Nat} (h : 3 ≤ n ∧ n ≤ 6) : wrap64 (2 ^ min (IntKind.u64.wrap (n : Int)).toNat 64) = ((2 ^ n : Nat) : Int) ∧ 8 ≤ ((2 ^ n : Nat) : Int) ∧ ((2 ^ n : Nat) : Int) ≤ 64 := by
  have h1 : n = 3 ∨ n = 4 ∨ n = 5 ∨ n = 6 := by omega
  rcases h1 with rfl | rfl | rfl | rfl <;> exact ⟨by decide +kernel, by decide, by decide⟩
variable {w w4 : World} {o o4 : Ow} {tb lw : Nat} {A A' : LwA} {L L' : LwD}
set_option maxRecDepth 8000 in
set_option maxHeartbeats 4000000 in
theorem tfew_any (x y : Int) (hall : ∀ n s : Nat, 3 ≤ n → n ≤ 6 → s < 2 ^ n → fewB n (s : Int) = true) (hb : begunB = true) (w : World) :
    Calls Tryz.prog 5 #[.int .i64 x, .int .i64 y] w fun e w' => e = .returned (.bool true) ∧ Below w.heap.size w w' := by
  obtain ⟨n, hn⟩ : ∃ n : Nat, 3 + smallI x 4 = (n : Int) := ⟨(3 + smallI x 4).toNat, by have := smallI_lt (x := x) (show (0 : Int) < 4 by decide); omega⟩
  have hn6 : 3 ≤ n ∧ n ≤ 6 := by have := smallI_lt (x := x) (show (0 : Int) < 4 by decide); omega
  obtain ⟨htw, ht1, ht2⟩ := two_n hn6
  obtain ⟨s, hs⟩ : ∃ s : Nat, smallI y ((2 ^ n : Nat) : Int) = (s : Int) := ⟨(smallI y ((2 ^ n : Nat) : Int)).toNat, by have := smallI_lt (x := y) (show (0 : Int) < ((2 ^ n : Nat) : Int) by omega); omega⟩
  have hs6 : s < 2 ^ n := by have := smallI_lt (x := y) (show (0 : Int) < ((2 ^ n : Nat) : Int) by omega); omega
  have hr := hall n s hn6.1 hn6.2 hs6
  have HST : Hid (isT (s : Int)) := Lib.hid (by unfold isT; omega)
  have HR := Lib.hid hr
  have BG := Lib.hid (tbegun_any (w := w) (o := fun _ => 0) (fun _ _ => rfl) hb)
  have HB := Lib.hid hb
  have SM3 := Lib.hid (fun w => small_any x 4 (by decide) w)
  have SM4 := Lib.hid (fun w => small_any y ((2 ^ n : Nat) : Int) ⟨by omega, by omega⟩ w)
  have hs3 := smallI_lt (x := x) (show (0 : Int) < 4 by decide)
  rw [hs] at SM4
  obtain ⟨sx, hsx⟩ : ∃ sx, sx = smallI x 4 := ⟨_, rfl⟩
  rw [← hsx] at SM3 hn hs3
  obtain ⟨tw, htw2⟩ : ∃ tw, tw = ((2 ^ n : Nat) : Int) := ⟨_, rfl⟩
  rw [← htw2] at SM4 htw
  have HNX := Lib.hid hn
  have HN6 := Lib.hid hn6
  clear hr hall hb hs hsx hn htw2 ht1 ht2 hs6 hn6
  go_enter Tryz.func5, Tryz.ntmps5
  go_wp2_with fail
  refine BG.out.mono ?_
  rintro e w1 ⟨rfl, o1, m1⟩
  have M1 := Lib.hid (m1.mono lw_top)
  clear m1 BG
  go_wp2_with fail
  refine (SM3.out _).mono ?_
  rintro e w1' ⟨rfl, rfl⟩
  clear SM3
  go_upto_region 5 with fail
  rw [HNX.out]
  clear HNX hs3
  go_wp2_with fail
  refine (SM4.out _).mono ?_
  rintro e w1' ⟨rfl, rfl⟩
  clear SM4 htw
  have hn6 := HN6.out
  go_wp2_with fail
  refine (trmost_any (s : Int) n HST.out ⟨HN6.out.1, by have := HN6.out; omega⟩ _).mono ?_
  rintro e w2 ⟨rfl, x2⟩
  replace M1 := Lib.hid (M1.out.tr (Fm.ext M1.out.cl x2) top0)
  clear x2
  cases hm : mostT (s : Int) (n : Int)
  case true =>
    clear hm
    go_wp2
    go_ret
    exact ⟨rfl, M1.out.all top0⟩
  have hr := HR.out
  unfold fewB at hr
  rw [hm, Bool.false_or] at hr
  split at hr
  case h_2 => cases hr
  rename_i Lf hLf
  unfold fewL at hLf
  obtain ⟨L0, hL0, hAP⟩ := Option.bind_eq_some_iff.1 hLf
  unfold fewE at hr
  rw [Bool.and_eq_true, Bool.and_eq_true, Option.isSome_iff_exists] at hr
  obtain ⟨hdl, hone, L9, honc⟩ := hr
  have HDL := Lib.hid hdl
  have HON := Lib.hid hone
  have HOC := Lib.hid honc
  have HL0 := Lib.hid hL0
  have HAP := Lib.hid hAP
  clear hm hLf hL0 hAP hdl hone honc HR HB
  go_wp2_with fail
  refine (twell_any M1.out.cl ⟨HN6.out.1, by have := HN6.out; omega⟩ HL0.out).mono ?_
  rintro e w3 ⟨tb, lw, o3, A3, rfl, h3, m3⟩
  have H3 := Lib.hid h3
  have M3 := Lib.hid (M1.out.tr m3 top0)
  have HN0 := Lib.hid (wellL_n HL0.out)
  clear h3 m3 M1 HL0
  go_wp2_with fail
  refine (tapart_any (n := 60) M3.out.cl H3.out HST.out (by decide) HAP.out).mono ?_
  rintro e w4 ⟨rfl, o4, A4, h4, m4⟩
  have H4 := Lib.hid h4
  have M4 := Lib.hid (M3.out.tr m4 top0)
  have HN1 : Hid (Lf.n = n) := Lib.hid ((apL_n _ _ _ HAP.out).trans HN0.out)
  clear h4 m4 H3 M3 HAP HN0
  go_wp2
  go_loopw [7] (fun v wx => ∃ (a : Nat), 1 ≤ a ∧ a ≤ n + 1 ∧ v = .int .i64 (a : Int) ∧ TopV wx o4 tb lw A4 Lf ∧ Fm topC (fun _ => 0) o4 w wx) (fun v _ => n + 1 - (intOf v).toNat)
  case atStart => exact ⟨1, by omega, by omega, rfl, H4.out, M4.out⟩
  case round =>
    clear H4 M4
    obtain ⟨a, ha1, ha2, rfl, hv, ma⟩ := hrel
    have HX := Lib.hid hv
    have MX := Lib.hid ma
    clear hv ma
    have t0 := HX.out.box.box.c 0 _ rfl
    have t1 := HX.out.box.box.c 1 _ rfl
    by_cases hlt : a ≤ n
    · have e6 : decide ((a : Int) ≤ (n : Int)) = true := decide_eq_true (by omega)
      have e6n : decide (a ≤ n) = true := decide_eq_true hlt
      have hq := List.all_eq_true.1 HDL.out a (List.mem_range'_1.2 ⟨ha1, by omega⟩)
      unfold dullB at hq
      have RH := Lib.hid (fun w => trhas_any (s : Int) (a : Int) HST.out ⟨by omega, by omega⟩ w)
      go_wp2_with fail
      refine (RH.out _).mono ?_
      rintro e w9 ⟨rfl, x9⟩
      have H9 := Lib.hid (HX.out.ext x9)
      have M9 := Lib.hid (MX.out.tr (Fm.ext MX.out.cl x9) top0)
      clear x9 HX MX t0 t1
      cases hh : hasT (s : Int) (a : Int)
      · clear hh hq
        go_wp2
        go_roundw
        case rel => exact ⟨a + 1, by omega, by omega, by go_num, H9.out, M9.out⟩
        case measure => simp [intOf]; omega
      · rw [hh] at hq
        simp only [Bool.not_true, Bool.false_or] at hq
        split at hq
        case h_2 => cases hq
        rename_i xs hsl
        have HSL := Lib.hid hsl
        have HGD : Hid (goodN xs = false) := Lib.hid (by simpa using hq)
        have HAI : Hid (1 ≤ a ∧ a ≤ Lf.W.n) := Lib.hid ⟨ha1, by rw [H9.out.lv.q.nn, HN1.out]; exact hlt⟩
        clear hh hq hsl
        have t0 := H9.out.box.box.c 0 _ rfl
        have c0 := H9.out.lv.box.box.c 0 _ rfl
        go_wp2_with fail
        refine (wnode_up H9.out.lv.q.wr HAI.out HSL.out).mono ?_
        rintro e w10 ⟨xx, cc, AA, rfl, -, -, nd, -, -, -, rfl⟩
        have GG := Lib.hid (ngood_any nd)
        rw [HGD.out] at GG
        clear nd
        go_wp2_with fail
        refine GG.out.mono ?_
        rintro e w11 ⟨rfl, x11⟩
        have H11 := Lib.hid (H9.out.ext x11)
        have M11 := Lib.hid (M9.out.tr (Fm.ext M9.out.cl x11) top0)
        clear x11 GG
        go_wp2
        go_roundw
        case rel => exact ⟨a + 1, by omega, by omega, by go_num, H11.out, M11.out⟩
        case measure => simp [intOf]; omega
    · have e6 : decide ((a : Int) ≤ (n : Int)) = false := decide_eq_false (by omega)
      have e6n : decide (a ≤ n) = false := decide_eq_false hlt
      go_wp2_with fail
      refine (lone_any HX.out.lv HON.out).mono ?_
      rintro e w2 ⟨rfl, x2⟩
      have H2 := Lib.hid (HX.out.ext x2)
      have M2 := Lib.hid (MX.out.tr (Fm.ext MX.out.cl x2) top0)
      clear x2 HX MX t0 t1
      have t0 := H2.out.box.box.c 0 _ rfl
      have t1 := H2.out.box.box.c 1 _ rfl
      go_wp2_with fail
      refine (lonce_any M2.out.cl H2.out.lv HOC.out).mono ?_
      rintro e w3 ⟨rfl, o3, A3, h3, f3⟩
      have M3 := Lib.hid (M2.out.tr (f3.mono lw_top) top0)
      clear f3 h3
      go_wp2
      go_ret
      exact ⟨rfl, M3.out.all top0⟩
end Go.Proofs.YtjhbmbbmjaabcaaGreat
set_option linter.unusedVariables false
set_option maxRecDepth 8000
set_option maxHeartbeats 8000000

