/-
  The contract of the reference's Get: what the bytes tell. Condition: a length up to 2^46.
-/
import Derived.Test.YtnahlgokjppcoaaNumGet
namespace Go.Proofs.Ytnahlgokjppcoaa
open Go Go.Sort Go.RowKit
set_option linter.unusedVariables false

theorem sum_step {y z k W : Nat} (hW : W = 128 ^ k) (hz : z < 256) (hk : k ≤ 9) (hz9 : k = 9 → z ≤ 1) (hy : y < 128 ^ k) :
    IntKind.u64.wrap ((y : Int) + IntKind.u64.wrap ((z : Int) % 128 * (W : Int))) = ((y + z % 128 * 128 ^ k : Nat) : Int) := by
  obtain ⟨-, h1, -⟩ := or_step hz hk hz9 hy
  rw [← hW] at h1 ⊢
  have e : (z : Int) % 128 * (W : Int) = ((z % 128 * W : Nat) : Int) := by push_cast; rfl
  rw [e]
  generalize z % 128 * W = q at *
  rw [IntKind.wrap_u64, IntKind.wrap_u64]
  omega
theorem pow_next {k W : Nat} (hW : W = 128 ^ k) (hk : k < 9) : IntKind.u64.wrap ((W : Int) * 128) = ((128 ^ (k + 1) : Nat) : Int) := by
  have h3 : 128 ^ k ≤ 128 ^ 8 := Nat.pow_le_pow_right (by omega) (by omega)
  rw [Nat.pow_succ, ← hW]
  rw [← hW] at h3
  rw [IntKind.wrap_u64]
  omega
theorem ref_odd {F : Int} {v : Nat} (hE : F = (v : Int)) (hv : v < 18446744073709551616) (h : (F.tmod 2 == 1) = true) : wrap64 (wrap64 (-wrap64 (IntKind.u64.wrap (F.tdiv 2))) - 1) = unzig v := by
  subst hE
  have h2 : v % 2 = 1 := by
    have := beq_iff_eq.1 h
    rw [Int.tmod_eq_emod_of_nonneg (by omega)] at this
    omega
  unfold unzig
  rw [if_pos h2, Int.tdiv_eq_ediv_of_nonneg (by omega), IntKind.wrap_u64]
  unfold wrap64
  omega
theorem ref_even {F : Int} {v : Nat} (hE : F = (v : Int)) (hv : v < 18446744073709551616) (h : (F.tmod 2 == 1) = false) : wrap64 (IntKind.u64.wrap (F.tdiv 2)) = unzig v := by
  subst hE
  have h2 : ¬ v % 2 = 1 := by
    have := beq_eq_false_iff_ne.1 h
    rw [Int.tmod_eq_emod_of_nonneg (by omega)] at this
    omega
  unfold unzig
  rw [if_neg h2, Int.tdiv_eq_ediv_of_nonneg (by omega), IntKind.wrap_u64]
  unfold wrap64
  omega

set_option maxRecDepth 8000 in
set_option maxHeartbeats 1000000 in
/-- The reference's Get -/
theorem rget_any {p : Option Addr} {n cap : Nat} {l : List UInt8} {w : World} (h : SlP w p n cap l) (hn : n ≤ 70368744177664) :
    Calls Try.prog 28 #[.slice p n cap] w fun e w' => e = .returned (.tuple #[.int .i64 (getL l).1, .int .i64 ((getL l).2.1 : Int), .int .i64 (getL l).2.2]) ∧ w = w' := by
  have hsg : IntKind.u64.signed = false := rfl
  have hmx : IntKind.u64.max = 18446744073709551615 := rfl
  have H := Lib.hid h
  clear h
  obtain ⟨r, hr⟩ : ∃ r, r = getL l := ⟨_, rfl⟩
  rw [← hr]
  have HR := Lib.hid hr
  clear hr
  go_enter Try.func28, Try.ntmps28
  go_wp2
  go_loop [5, 6, 7] (fun u m i => ∃ k y W : Nat, i = .int .i64 (k : Int) ∧ u = .int .u64 (y : Int) ∧ m = .int .u64 (W : Int) ∧ k ≤ n ∧ k ≤ 9 ∧ Hid (W = 128 ^ k) ∧ Hid (y < 128 ^ k) ∧ Hid (getF k y (l.drop k) = r)) (fun _ _ i => n - (intOf i).toNat)
  case atStart => exact ⟨0, 0, 1, rfl, rfl, rfl, by omega, by omega, Lib.hid rfl, Lib.hid (by omega), Lib.hid HR.out.symm⟩
  case round =>
    obtain ⟨k, y, W, rfl, rfl, rfl, hk, hk9, HW, HY, HG⟩ := hrel
    by_cases hlt : k < n
    · obtain ⟨b, off, c, rfl, hc, hcell⟩ := H.out.at k hlt
      have hc256 := c.toNat_lt
      have hx := getF_at (y := y) hc
      rw [HG.out] at hx
      have HX := Lib.hid hx
      clear hc hx HG
      generalize c.toNat = z at *
      by_cases h9 : k = 9
      · subst h9
        by_cases h1 : 1 < z
        · have hr := HX.out
          rw [if_pos ⟨rfl, h1⟩] at hr
          subst hr
          go_wp2
          go_ret3
          exact ⟨rfl, rfl⟩
        · have OS := Lib.hid (or_step (show z < 256 by omega) hk9 (fun _ => by omega) HY.out)
          have SS := Lib.hid (sum_step HW.out (show z < 256 by omega) hk9 (fun _ => by omega) HY.out)
          have hr := HX.out
          rw [if_neg (by omega), if_neg (by omega)] at hr
          by_cases hz0 : z = 0
          · rw [if_pos ⟨by omega, hz0⟩] at hr
            subst hr
            subst hz0
            go_wp2
            go_ret3
            exact ⟨rfl, rfl⟩
          · rw [if_neg (by omega)] at hr
            subst hr
            have e9 := SS.out
            rw [show (128 : Nat) ^ 9 = 9223372036854775808 from by decide] at e9
            have E9 := Lib.hid e9
            have l9 := OS.out.2.1
            rw [show (128 : Nat) ^ 9 = 9223372036854775808 from by decide] at l9
            have d1 : decide (1 < (z : Int)) = false := decide_eq_false (by omega)
            have d2 : ((z : Int) == 0) = false := beq_eq_false_iff_ne.2 (by omega)
            clear e9
            go_wp2
            · go_ret3
              first | rw [ref_odd E9.out l9 (by assumption)] | rw [ref_even E9.out l9 (by assumption)]
              exact ⟨rfl, rfl⟩
            · go_ret3
              first | rw [ref_odd E9.out l9 (by assumption)] | rw [ref_even E9.out l9 (by assumption)]
              exact ⟨rfl, rfl⟩
      · have OS := Lib.hid (or_step (show z < 256 by omega) hk9 (fun _ => by omega) HY.out)
        have SS := Lib.hid (sum_step HW.out (show z < 256 by omega) hk9 (fun _ => by omega) HY.out)
        have hr := HX.out
        rw [if_neg (by omega)] at hr
        by_cases h0 : k = 0
        · subst h0
          rw [Nat.add_zero] at hcell
          by_cases hz : 127 < z
          · rw [if_pos hz] at hr
            have HR2 := Lib.hid hr
            clear hr HX
            go_wp2
            go_round
            case rel => exact ⟨1, _, _, rfl, by rw [SS.out], by rw [pow_next HW.out (by omega)], by omega, by omega, Lib.hid rfl, Lib.hid (OS.out.2.2 (by omega)), Lib.hid HR2.out.symm⟩
            case measure => simp [intOf]; omega
          · rw [if_neg hz, if_neg (by omega)] at hr
            subst hr
            have e0 := SS.out
            rw [Nat.pow_zero, Nat.mul_one] at e0
            have E0 := Lib.hid e0
            have l0 := OS.out.2.1
            rw [Nat.pow_zero, Nat.mul_one] at l0
            clear e0
            go_wp2
            · go_ret3
              first | rw [ref_odd E0.out l0 (by assumption)] | rw [ref_even E0.out l0 (by assumption)]
              exact ⟨rfl, rfl⟩
            · go_ret3
              first | rw [ref_odd E0.out l0 (by assumption)] | rw [ref_even E0.out l0 (by assumption)]
              exact ⟨rfl, rfl⟩
        · by_cases hz : 127 < z
          · rw [if_pos hz] at hr
            have HR2 := Lib.hid hr
            clear hr HX
            go_wp2
            go_round
            case rel => exact ⟨k + 1, _, _, by go_num, by rw [SS.out], by rw [pow_next HW.out (by omega)], by omega, by omega, Lib.hid rfl, Lib.hid (OS.out.2.2 (by omega)), Lib.hid HR2.out.symm⟩
            case measure => simp [intOf]; omega
          · rw [if_neg hz] at hr
            by_cases hz0 : z = 0
            · rw [if_pos ⟨by omega, hz0⟩] at hr
              subst hr
              subst hz0
              go_wp2
              go_ret3
              exact ⟨rfl, rfl⟩
            · rw [if_neg (by omega)] at hr
              subst hr
              go_wp2
              · go_ret3
                first | rw [ref_odd SS.out OS.out.2.1 (by assumption)] | rw [ref_even SS.out OS.out.2.1 (by assumption)]
                exact ⟨rfl, rfl⟩
              · go_ret3
                first | rw [ref_odd SS.out OS.out.2.1 (by assumption)] | rw [ref_even SS.out OS.out.2.1 (by assumption)]
                exact ⟨rfl, rfl⟩
    · go_wp2
      go_ret3
      have hx := HG.out
      rw [getF_end H.out.len hlt] at hx
      subst hx
      exact ⟨rfl, rfl⟩
end Go.Proofs.Ytnahlgokjppcoaa
